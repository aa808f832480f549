-- SLIM: a printed text of which the unused ways are cut off
-- PRINTED by print.py (a twelfth state) out of the translation. Not trusted: Lean checks it.
import Derived.Test.YtiamcmjdoobaeaaPCex0
namespace Go.Proofs.Ytiamcmjdoobaeaa.PCe
open Go.RowKit Go.Proofs.YtiamcmjdoobaeaaW.PrintWords Go.Proofs.YtiamcmjdoobaeaaW.PrintLast Go.Proofs.YtiamcmjdoobaeaaW.PrintMore
attribute [local go_sem] max2_int min2_int max_two min_two max_three min_three max_four min_four   -- for this text's walks alone
set_option linter.unusedVariables false
set_option linter.unusedSimpArgs false

/-! ### code_bare: function 88 (given) -/
def code_bare.f (a0_0 : Int) (a0_1 : Bool) (l0_2 : List Int) (l0_3 : List Int) (a0_4 : Int) (a0_5 : Int) (a0_6 : ByteArray) (l0_7 : List (S25)) (a0_8 : Int) (a0_9 : Int) : Option (Bool) := if a0_0 = 0 then (if a0_1 = true then (some false) else (if (l0_2.length : Int) = 0 then (if (l0_3.length : Int) = 0 then (if a0_4 = 0 then (if a0_5 = 0 then (if a0_6.toList = ([] : List UInt8) then (if (l0_7.length : Int) = 0 then (if a0_8 = 0 then (some (a0_9 == 0)) else (some false)) else (some false)) else (some false)) else (some false)) else (some false)) else (some false)) else (some false))) else (some false)
set_option maxHeartbeats 8000000 in
set_option maxRecDepth 100000 in
theorem code_bare.calls (a0_0 : Int) (a0_1 : Bool) (A0_2 : Option Addr) (c0_2 : Nat) (l0_2 : List Int) (A0_3 : Option Addr) (c0_3 : Nat) (l0_3 : List Int) (a0_4 : Int) (a0_5 : Int) (a0_6 : ByteArray) (A0_7 : Option Addr) (c0_7 : Nat) (l0_7 : List (S25)) (a0_8 : Int) (a0_9 : Int) (r : Bool) (w : World) (hr0_2 : Kd.C (Kd.int .i64) w A0_2 l0_2.length l0_2) (hc0_2 : l0_2.length ≤ c0_2) (hr0_3 : Kd.C (Kd.int .i64) w A0_3 l0_3.length l0_3) (hc0_3 : l0_3.length ≤ c0_3) (hr0_7 : Kd.C k25 w A0_7 l0_7.length l0_7) (hc0_7 : l0_7.length ≤ c0_7) (h : code_bare.f a0_0 a0_1 l0_2 l0_3 a0_4 a0_5 a0_6 l0_7 a0_8 a0_9 = some r) :
    Calls Try.prog 88 #[.agg #[.int .i64 a0_0, .bool a0_1, .slice A0_2 l0_2.length c0_2, .slice A0_3 l0_3.length c0_3, .int .i64 a0_4, .int .i64 a0_5, .string a0_6, .slice A0_7 l0_7.length c0_7, .int .i64 a0_8, .int .i64 a0_9]] w fun e w' => e = .returned (.bool r) ∧ Below w.heap.size w w' := by
  have hu := Try.underlying39
  have hu2 := Try.underlying25
  have H := Aside0.mk h
  clear h hr0_2 hc0_2 hr0_3 hc0_3 hr0_7 hc0_7
  go_enter Try.func88, Try.ntmps88
  go_upto_region 2 with (fail)
  obtain ⟨W, hW⟩ : ∃ W : World, W = (w.alloc (.cells #[.int .i64 a0_0, .bool a0_1, .slice A0_2 l0_2.length c0_2, .slice A0_3 l0_3.length c0_3, .int .i64 a0_4, .int .i64 a0_5, .string a0_6, .slice A0_7 l0_7.length c0_7, .int .i64 a0_8, .int .i64 a0_9] 39)).alloc (.cells #[.int .i64 a0_4, .int .i64 a0_5, .string a0_6, .slice A0_7 l0_7.length c0_7, .int .i64 a0_8, .int .i64 a0_9] 25) := ⟨_, rfl⟩
  rw [← hW]
  have hb : Below w.heap.size w W := by rw [hW]; exact below_alloc (below_alloc (Below.refl _ _) _) _
  have h0 : W.heap[w.heap.size]? = some (.cells #[.int .i64 a0_0, .bool a0_1, .slice A0_2 l0_2.length c0_2, .slice A0_3 l0_3.length c0_3, .int .i64 a0_4, .int .i64 a0_5, .string a0_6, .slice A0_7 l0_7.length c0_7, .int .i64 a0_8, .int .i64 a0_9] 39 (0, 0)) := by rw [hW]; exact blk_alloc (blk_new _ _) _
  have h1 : W.heap[w.heap.size + 1]? = some (.cells #[.int .i64 a0_4, .int .i64 a0_5, .string a0_6, .slice A0_7 l0_7.length c0_7, .int .i64 a0_8, .int .i64 a0_9] 25 (0, 0)) := by
    rw [hW]
    have := blk_new (w.alloc (.cells #[.int .i64 a0_0, .bool a0_1, .slice A0_2 l0_2.length c0_2, .slice A0_3 l0_3.length c0_3, .int .i64 a0_4, .int .i64 a0_5, .string a0_6, .slice A0_7 l0_7.length c0_7, .int .i64 a0_8, .int .i64 a0_9] 39)) (.cells #[.int .i64 a0_4, .int .i64 a0_5, .string a0_6, .slice A0_7 l0_7.length c0_7, .int .i64 a0_8, .int .i64 a0_9] 25)
    simpa using this
  have HB := Aside0.mk hb
  have x0 : W.cell? ⟨w.heap.size, 0, none⟩ = some (.int .i64 a0_0) := (blk_cell h0 0).trans rfl
  have x1 : W.cell? ⟨w.heap.size, 1, none⟩ = some (.bool a0_1) := (blk_cell h0 1).trans rfl
  have x2 : W.cell? ⟨w.heap.size, 2, none⟩ = some (.slice A0_2 l0_2.length c0_2) := (blk_cell h0 2).trans rfl
  have x3 : W.cell? ⟨w.heap.size, 3, none⟩ = some (.slice A0_3 l0_3.length c0_3) := (blk_cell h0 3).trans rfl
  have y0 : W.cell? ⟨w.heap.size + 1, 0, none⟩ = some (.int .i64 a0_4) := (blk_cell h1 0).trans rfl
  have y1 : W.cell? ⟨w.heap.size + 1, 1, none⟩ = some (.int .i64 a0_5) := (blk_cell h1 1).trans rfl
  have y2 : W.cell? ⟨w.heap.size + 1, 2, none⟩ = some (.string a0_6) := (blk_cell h1 2).trans rfl
  have y3 : W.cell? ⟨w.heap.size + 1, 3, none⟩ = some (.slice A0_7 l0_7.length c0_7) := (blk_cell h1 3).trans rfl
  have y4 : W.cell? ⟨w.heap.size + 1, 4, none⟩ = some (.int .i64 a0_8) := (blk_cell h1 4).trans rfl
  have y5 : W.cell? ⟨w.heap.size + 1, 5, none⟩ = some (.int .i64 a0_9) := (blk_cell h1 5).trans rfl
  clear hW hb h0 h1
  have h := H.out
  unfold code_bare.f at h
  clear H
  by_cases c0 : a0_0 = 0
  case neg =>
    rw [if_neg c0] at h
    have b0 : (a0_0 == 0) = false := beq_eq_false_iff_ne.mpr c0
    clear c0
    obtain rfl := Option.some.inj h
    clear h
    go_wp2
    go_ret
    exact ⟨rfl, HB.out⟩
  rw [if_pos c0] at h
  have b0 : (a0_0 == 0) = true := beq_iff_eq.mpr c0
  clear c0
  by_cases c1 : a0_1 = true
  case pos =>
    rw [if_pos c1] at h
    subst c1
    obtain rfl := Option.some.inj h
    clear h
    go_wp2
    go_ret
    exact ⟨rfl, HB.out⟩
  rw [if_neg c1] at h
  obtain rfl : a0_1 = false := by simpa using c1
  clear c1
  by_cases c2 : (l0_2.length : Int) = 0
  case neg =>
    rw [if_neg c2] at h
    have b2 : ((l0_2.length : Int) == 0) = false := beq_eq_false_iff_ne.mpr c2
    clear c2
    obtain rfl := Option.some.inj h
    clear h
    go_wp2
    go_ret
    exact ⟨rfl, HB.out⟩
  rw [if_pos c2] at h
  have b2 : ((l0_2.length : Int) == 0) = true := beq_iff_eq.mpr c2
  clear c2
  by_cases c3 : (l0_3.length : Int) = 0
  case neg =>
    rw [if_neg c3] at h
    have b3 : ((l0_3.length : Int) == 0) = false := beq_eq_false_iff_ne.mpr c3
    clear c3
    obtain rfl := Option.some.inj h
    clear h
    go_wp2
    go_ret
    exact ⟨rfl, HB.out⟩
  rw [if_pos c3] at h
  have b3 : ((l0_3.length : Int) == 0) = true := beq_iff_eq.mpr c3
  clear c3
  by_cases c4 : a0_4 = 0
  case neg =>
    rw [if_neg c4] at h
    have b4 : (a0_4 == 0) = false := beq_eq_false_iff_ne.mpr c4
    clear c4
    obtain rfl := Option.some.inj h
    clear h
    go_wp2
    go_ret
    exact ⟨rfl, HB.out⟩
  rw [if_pos c4] at h
  have b4 : (a0_4 == 0) = true := beq_iff_eq.mpr c4
  clear c4
  by_cases c5 : a0_5 = 0
  case neg =>
    rw [if_neg c5] at h
    have b5 : (a0_5 == 0) = false := beq_eq_false_iff_ne.mpr c5
    clear c5
    obtain rfl := Option.some.inj h
    clear h
    go_wp2
    go_ret
    exact ⟨rfl, HB.out⟩
  rw [if_pos c5] at h
  have b5 : (a0_5 == 0) = true := beq_iff_eq.mpr c5
  clear c5
  by_cases c6 : a0_6.toList = ([] : List UInt8)
  case neg =>
    rw [if_neg c6] at h
    have b6 : (a0_6.toList == ([] : List UInt8)) = false := beq_eq_false_iff_ne.mpr c6
    clear c6
    obtain rfl := Option.some.inj h
    clear h
    go_wp2
    go_ret
    exact ⟨rfl, HB.out⟩
  rw [if_pos c6] at h
  have b6 : (a0_6.toList == ([] : List UInt8)) = true := beq_iff_eq.mpr c6
  clear c6
  by_cases c7 : (l0_7.length : Int) = 0
  case neg =>
    rw [if_neg c7] at h
    have b7 : ((l0_7.length : Int) == 0) = false := beq_eq_false_iff_ne.mpr c7
    clear c7
    obtain rfl := Option.some.inj h
    clear h
    go_wp2
    go_ret
    exact ⟨rfl, HB.out⟩
  rw [if_pos c7] at h
  have b7 : ((l0_7.length : Int) == 0) = true := beq_iff_eq.mpr c7
  clear c7
  by_cases c8 : a0_8 = 0
  case neg =>
    rw [if_neg c8] at h
    have b8 : (a0_8 == 0) = false := beq_eq_false_iff_ne.mpr c8
    clear c8
    obtain rfl := Option.some.inj h
    clear h
    go_wp2
    go_ret
    exact ⟨rfl, HB.out⟩
  rw [if_pos c8] at h
  have b8 : (a0_8 == 0) = true := beq_iff_eq.mpr c8
  clear c8
  obtain rfl := Option.some.inj h
  clear h
  go_wp2
  go_ret
  exact ⟨rfl, HB.out⟩

/-! ### code_fine: function 75 (given) -/
def code_fine.f (a0_0 : Int) (l0_1 : List Int) (a0_2 : Int) (a0_3 : Bool) (l0_4 : List Int) (l0_5 : List Int) (a0_6 : Int) (a0_7 : Int) (a0_8 : ByteArray) (l0_9 : List (S25)) (a0_10 : Int) (a0_11 : Int) (l0_12 : List (S42)) : Option (Bool) := if a0_0 = 1 then (if (l0_1.length : Int) = 0 then (some ((l0_12.length : Int) == 0)) else (some false)) else ((code_bare.f a0_2 a0_3 l0_4 l0_5 a0_6 a0_7 a0_8 l0_9 a0_10 a0_11).bind fun t148 => (if t148 = true then (if a0_0 = 3 then (some true) else (some ((l0_1.length : Int) == 0))) else (some false)))
set_option maxHeartbeats 8000000 in
set_option maxRecDepth 100000 in
theorem code_fine.calls (a0_0 : Int) (A0_1 : Option Addr) (c0_1 : Nat) (l0_1 : List Int) (a0_2 : Int) (a0_3 : Bool) (A0_4 : Option Addr) (c0_4 : Nat) (l0_4 : List Int) (A0_5 : Option Addr) (c0_5 : Nat) (l0_5 : List Int) (a0_6 : Int) (a0_7 : Int) (a0_8 : ByteArray) (A0_9 : Option Addr) (c0_9 : Nat) (l0_9 : List (S25)) (a0_10 : Int) (a0_11 : Int) (A0_12 : Option Addr) (c0_12 : Nat) (l0_12 : List (S42)) (r : Bool) (w : World) (hr0_1 : Kd.C (Kd.int .i64) w A0_1 l0_1.length l0_1) (hc0_1 : l0_1.length ≤ c0_1) (hr0_4 : Kd.C (Kd.int .i64) w A0_4 l0_4.length l0_4) (hc0_4 : l0_4.length ≤ c0_4) (hr0_5 : Kd.C (Kd.int .i64) w A0_5 l0_5.length l0_5) (hc0_5 : l0_5.length ≤ c0_5) (hr0_9 : Kd.C k25 w A0_9 l0_9.length l0_9) (hc0_9 : l0_9.length ≤ c0_9) (hr0_12 : Kd.C k42 w A0_12 l0_12.length l0_12) (hc0_12 : l0_12.length ≤ c0_12) (h : code_fine.f a0_0 l0_1 a0_2 a0_3 l0_4 l0_5 a0_6 a0_7 a0_8 l0_9 a0_10 a0_11 l0_12 = some r) :
    Calls Try.prog 75 #[.agg #[.int .i64 a0_0, .slice A0_1 l0_1.length c0_1, .int .i64 a0_2, .bool a0_3, .slice A0_4 l0_4.length c0_4, .slice A0_5 l0_5.length c0_5, .int .i64 a0_6, .int .i64 a0_7, .string a0_8, .slice A0_9 l0_9.length c0_9, .int .i64 a0_10, .int .i64 a0_11, .slice A0_12 l0_12.length c0_12]] w fun e w' => e = .returned (.bool r) ∧ Below w.heap.size w w' := by
  have hu := Try.underlying42
  have hu2 := Try.underlying39
  obtain ⟨W, hW⟩ : ∃ W : World, W = w.alloc (.cells #[.int .i64 a0_0, .slice A0_1 l0_1.length c0_1, .int .i64 a0_2, .bool a0_3, .slice A0_4 l0_4.length c0_4, .slice A0_5 l0_5.length c0_5, .int .i64 a0_6, .int .i64 a0_7, .string a0_8, .slice A0_9 l0_9.length c0_9, .int .i64 a0_10, .int .i64 a0_11, .slice A0_12 l0_12.length c0_12] 42) := ⟨_, rfl⟩
  have hb : Below w.heap.size w W := by rw [hW]; exact below_alloc (Below.refl _ _) _
  have h0 : W.heap[w.heap.size]? = some (.cells #[.int .i64 a0_0, .slice A0_1 l0_1.length c0_1, .int .i64 a0_2, .bool a0_3, .slice A0_4 l0_4.length c0_4, .slice A0_5 l0_5.length c0_5, .int .i64 a0_6, .int .i64 a0_7, .string a0_8, .slice A0_9 l0_9.length c0_9, .int .i64 a0_10, .int .i64 a0_11, .slice A0_12 l0_12.length c0_12] 42 (0, 0)) := by rw [hW]; exact blk_new _ _
  have HB := Aside0.mk hb
  have H := Aside0.mk h
  have H0 := Aside0.mk h0
  have G4 := Aside0.mk (Kd.C_below hr0_4 hb)
  have G5 := Aside0.mk (Kd.C_below hr0_5 hb)
  have G9 := Aside0.mk (Kd.C_below hr0_9 hb)
  have L4 := Aside0.mk hc0_4
  have L5 := Aside0.mk hc0_5
  have L9 := Aside0.mk hc0_9
  have x0 : W.cell? ⟨w.heap.size, 0, none⟩ = some (.int .i64 a0_0) := (blk_cell h0 0).trans rfl
  have x1 : W.cell? ⟨w.heap.size, 1, none⟩ = some (.slice A0_1 l0_1.length c0_1) := (blk_cell h0 1).trans rfl
  have x2 : W.cell? ⟨w.heap.size, 2, none⟩ = some (.int .i64 a0_2) := (blk_cell h0 2).trans rfl
  have x3 : W.cell? ⟨w.heap.size, 3, none⟩ = some (.bool a0_3) := (blk_cell h0 3).trans rfl
  have x4 : W.cell? ⟨w.heap.size, 4, none⟩ = some (.slice A0_4 l0_4.length c0_4) := (blk_cell h0 4).trans rfl
  have x5 : W.cell? ⟨w.heap.size, 5, none⟩ = some (.slice A0_5 l0_5.length c0_5) := (blk_cell h0 5).trans rfl
  have x6 : W.cell? ⟨w.heap.size, 6, none⟩ = some (.int .i64 a0_6) := (blk_cell h0 6).trans rfl
  have x7 : W.cell? ⟨w.heap.size, 7, none⟩ = some (.int .i64 a0_7) := (blk_cell h0 7).trans rfl
  have x8 : W.cell? ⟨w.heap.size, 8, none⟩ = some (.string a0_8) := (blk_cell h0 8).trans rfl
  have x9 : W.cell? ⟨w.heap.size, 9, none⟩ = some (.slice A0_9 l0_9.length c0_9) := (blk_cell h0 9).trans rfl
  have x10 : W.cell? ⟨w.heap.size, 10, none⟩ = some (.int .i64 a0_10) := (blk_cell h0 10).trans rfl
  have x11 : W.cell? ⟨w.heap.size, 11, none⟩ = some (.int .i64 a0_11) := (blk_cell h0 11).trans rfl
  have x12 : W.cell? ⟨w.heap.size, 12, none⟩ = some (.slice A0_12 l0_12.length c0_12) := (blk_cell h0 12).trans rfl
  clear h hr0_1 hc0_1 hr0_4 hc0_4 hr0_5 hc0_5 hr0_9 hc0_9 hr0_12 hc0_12 hb h0
  go_enter Try.func75, Try.ntmps75
  go_upto_region 1 with (fail)
  rw [← hW]
  clear hW
  have h := H.out
  unfold code_fine.f at h
  clear H
  by_cases c0 : a0_0 = 1
  · rw [if_pos c0] at h
    have b0 : (a0_0 == 1) = true := beq_iff_eq.mpr c0
    clear c0
    by_cases c1 : (l0_1.length : Int) = 0
    · rw [if_pos c1] at h
      have b1 : ((l0_1.length : Int) == 0) = true := beq_iff_eq.mpr c1
      clear c1
      obtain rfl := Option.some.inj h
      clear h
      go_wp2
      go_ret
      exact ⟨rfl, HB.out⟩
    · rw [if_neg c1] at h
      have b1 : ((l0_1.length : Int) == 0) = false := beq_eq_false_iff_ne.mpr c1
      clear c1
      obtain rfl := Option.some.inj h
      clear h
      go_wp2
      go_ret
      exact ⟨rfl, HB.out⟩
  · rw [if_neg c0] at h
    have b0 : (a0_0 == 1) = false := beq_eq_false_iff_ne.mpr c0
    clear c0
    obtain ⟨t, ht, h⟩ := Option.bind_eq_some_iff.mp h
    have HT := Aside0.mk ht
    clear ht
    go_upto_region 3 with (fail)
    obtain ⟨b1, hb1⟩ : ∃ b1, b1 = (a0_0 == 3) := ⟨_, rfl⟩
    have h2 : r = (t && (b1 || ((l0_1.length : Int) == 0))) := by
      cases t with
      | false => simpa using h.symm
      | true =>
        by_cases c3 : a0_0 = 3
        · simp [c3] at h hb1; rw [hb1, h]; rfl
        · have : (a0_0 == 3) = false := beq_eq_false_iff_ne.mpr c3
          rw [this] at hb1
          simp [c3] at h
          rw [hb1, ← h]; simp
    have H2 := Aside0.mk h2
    clear h h2
    have hb1' := hb1.symm
    clear hb1
    cases t with
    | false =>
      go_wp2_with (((go_at_call 88; (with_reducible refine (code_bare.calls a0_2 a0_3 A0_4 c0_4 l0_4 A0_5 c0_5 l0_5 a0_6 a0_7 a0_8 A0_9 c0_9 l0_9 a0_10 a0_11 _ _ G4.out L4.out G5.out L5.out G9.out L9.out HT.out).mono ?_); rintro y w2 ⟨rfl, hz⟩; (have HB2 := Aside0.mk (HB.out.trans (hz.mono (below_size HB.out)))); (have h2 := blk_below H0.out hz); (have z0 : w2.cell? ⟨w.heap.size, 0, none⟩ = some (.int .i64 a0_0) := (blk_cell h2 0).trans rfl); (have z1 : w2.cell? ⟨w.heap.size, 1, none⟩ = some (.slice A0_1 l0_1.length c0_1) := (blk_cell h2 1).trans rfl); clear hz h2)))
      go_ret
      exact ⟨by rw [H2.out]; simp, HB2.out⟩
    | true =>
      cases b1 with
      | true =>
        go_wp2_with (((go_at_call 88; (with_reducible refine (code_bare.calls a0_2 a0_3 A0_4 c0_4 l0_4 A0_5 c0_5 l0_5 a0_6 a0_7 a0_8 A0_9 c0_9 l0_9 a0_10 a0_11 _ _ G4.out L4.out G5.out L5.out G9.out L9.out HT.out).mono ?_); rintro y w2 ⟨rfl, hz⟩; (have HB2 := Aside0.mk (HB.out.trans (hz.mono (below_size HB.out)))); (have h2 := blk_below H0.out hz); (have z0 : w2.cell? ⟨w.heap.size, 0, none⟩ = some (.int .i64 a0_0) := (blk_cell h2 0).trans rfl); (have z1 : w2.cell? ⟨w.heap.size, 1, none⟩ = some (.slice A0_1 l0_1.length c0_1) := (blk_cell h2 1).trans rfl); clear hz h2)))
        go_ret
        exact ⟨by rw [H2.out]; simp, HB2.out⟩
      | false =>
        go_wp2_with (((go_at_call 88; (with_reducible refine (code_bare.calls a0_2 a0_3 A0_4 c0_4 l0_4 A0_5 c0_5 l0_5 a0_6 a0_7 a0_8 A0_9 c0_9 l0_9 a0_10 a0_11 _ _ G4.out L4.out G5.out L5.out G9.out L9.out HT.out).mono ?_); rintro y w2 ⟨rfl, hz⟩; (have HB2 := Aside0.mk (HB.out.trans (hz.mono (below_size HB.out)))); (have h2 := blk_below H0.out hz); (have z0 : w2.cell? ⟨w.heap.size, 0, none⟩ = some (.int .i64 a0_0) := (blk_cell h2 0).trans rfl); (have z1 : w2.cell? ⟨w.heap.size, 1, none⟩ = some (.slice A0_1 l0_1.length c0_1) := (blk_cell h2 1).trans rfl); clear hz h2)))
        go_ret
        exact ⟨by rw [H2.out]; simp, HB2.out⟩

end Go.Proofs.Ytiamcmjdoobaeaa.PCe
