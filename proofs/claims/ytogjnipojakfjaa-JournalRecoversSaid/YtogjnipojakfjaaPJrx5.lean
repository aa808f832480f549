-- SLIM: a printed text of which the unused ways are cut off
-- PRINTED by print.py (a twelfth state) out of the translation. Not trusted: Lean checks it.
import Derived.Test.YtogjnipojakfjaaPJrx0
import Derived.Test.YtogjnipojakfjaaPJrx1
import Derived.Test.YtogjnipojakfjaaPJrx4
namespace Go.Proofs.Ytogjnipojakfjaa.PJr
open Go.RowKit Go.Proofs.YtogjnipojakfjaaW.PrintWords Go.Proofs.YtogjnipojakfjaaW.PrintLast Go.Proofs.YtogjnipojakfjaaW.PrintMore
attribute [local go_sem] max2_int min2_int max_two min_two max_three min_three max_four min_four   -- for this text's walks alone
set_option linter.unusedVariables false
set_option linter.unusedSimpArgs false

/-! ### entry_Frame: function 41 (given) -/
def entry_Frame.f (a0 : Int) (l0 l1 : List Int) : Option (List Int × Int) :=
  (entry_Payload.f a0 l0).bind fun p => if p.2 = 0 then (if l1.length = 32 then (if p.1.length < 100000 then some (entry_length.bytes (p.1.length : Int) ++ p.1 ++ l1, 0) else none) else some ([], 2)) else some ([], p.2)
theorem entry_Frame.blk_C {W : World} {g : Nat} {T : TypeId} {l : List Int} (h : W.heap[g]? = some (.cells (nums .u8 l).toArray T (0, 0))) (hl : l.length ≤ 1000) : Kd.C (Kd.int .u8) W (some ⟨g, 0, none⟩) l.length l := by
  refine Kd.C_of_reads (d := (0 : Int)) (h1 := fun _ => rfl) ⟨rfl, by omega, fun _ => ⟨_, rfl, fun j hj => ?_⟩⟩
  rw [add_plain, blk_cell h]
  simp [nums, List.getElem?_eq_getElem hj, List.getD_eq_getElem?_getD]
theorem entry_Frame.lit3 {W : World} {g : Nat} {T : TypeId} {A0 A1 A2 : Option Addr} {c0 c1 c2 : Nat} {l0 l1 l2 : List Int} (h : W.heap[g]? = some (.cells #[.slice A0 l0.length c0, .slice A1 l1.length c1, .slice A2 l2.length c2] T (0, 0)))
    (h0 : Kd.C (Kd.int .u8) W A0 l0.length l0) (h1 : Kd.C (Kd.int .u8) W A1 l1.length l1) (h2 : Kd.C (Kd.int .u8) W A2 l2.length l2) (k0 : l0.length ≤ c0) (k1 : l1.length ≤ c1) (k2 : l2.length ≤ c2) :
    Kd.C (Kd.slice 5 (Kd.int .u8)) W (some ⟨g, 0, none⟩) [l0, l1, l2].length [l0, l1, l2] := by
  refine ⟨rfl, by simp, fun _ => ⟨_, rfl, fun j p hj => ?_⟩⟩
  match j, hj with
  | 0, hj =>
    obtain rfl : l0 = p := by simpa using hj
    exact ⟨_, rfl, ⟨A0, c0, rfl, k0, h0⟩, fun i u hu => by
      match i, hu with
      | 0, hu =>
        obtain rfl : Value.slice A0 l0.length c0 = u := by simpa using hu
        rw [add_plain, blk_cell h]; rfl⟩
  | 1, hj =>
    obtain rfl : l1 = p := by simpa using hj
    exact ⟨_, rfl, ⟨A1, c1, rfl, k1, h1⟩, fun i u hu => by
      match i, hu with
      | 0, hu =>
        obtain rfl : Value.slice A1 l1.length c1 = u := by simpa using hu
        rw [add_plain, blk_cell h]; rfl⟩
  | 2, hj =>
    obtain rfl : l2 = p := by simpa using hj
    exact ⟨_, rfl, ⟨A2, c2, rfl, k2, h2⟩, fun i u hu => by
      match i, hu with
      | 0, hu =>
        obtain rfl : Value.slice A2 l2.length c2 = u := by simpa using hu
        rw [add_plain, blk_cell h]; rfl⟩
theorem entry_length.lit (n : Nat) (hn : n < 100000) (w : World) :
    Calls Try.prog 57 #[.int .i64 (n : Int)] w fun e w' => e = .returned (.agg #[.int .u8 ((n : Int) / 16777216), .int .u8 ((n : Int) / 65536), .int .u8 ((n : Int) / 256 % 256), .int .u8 ((n : Int) % 256)]) ∧ Below w.heap.size w w' := entry_length.calls n hn w
theorem entry_Frame.cat (w2 : World) (T T' : TypeId) (n : Int) (A2 : Option Addr) (c2 : Nat) (p : List Int) (A1 : Option Addr) (c1 : Nat) (l1 r : List Int) (hp : Kd.C (Kd.int .u8) w2 A2 p.length p) (hcp : p.length ≤ c2) (hl : Kd.C (Kd.int .u8) w2 A1 l1.length l1) (hcl : l1.length ≤ c1) (h : slices_Concat_byte_byte.f [entry_length.bytes n, p, l1] = some r) :
    Calls Try.prog 58 #[.slice (some ⟨w2.heap.size + 1, 0, none⟩) 3 3] ((w2.alloc (.cells #[.int .u8 (n / 16777216), .int .u8 (n / 65536), .int .u8 (n / 256 % 256), .int .u8 (n % 256)] T)).alloc (.cells #[.slice (some ⟨w2.heap.size, 0, none⟩) 4 4, .slice A2 p.length c2, .slice A1 l1.length c1] T'))
      fun e w' => ∃ v0_ : Value, e = .returned (v0_) ∧ Kd.R (Kd.int .u8) 5 w' w2.heap.size (fun _ => True) v0_ r ∧ Below w2.heap.size w2 w' := by
  have hb := blk_new w2 (.cells #[.int .u8 (n / 16777216), .int .u8 (n / 65536), .int .u8 (n / 256 % 256), .int .u8 (n % 256)] T)
  have h1 : Kd.C (Kd.int .u8) (w2.alloc (.cells #[.int .u8 (n / 16777216), .int .u8 (n / 65536), .int .u8 (n / 256 % 256), .int .u8 (n % 256)] T)) (some ⟨w2.heap.size, 0, none⟩) (entry_length.bytes n).length (entry_length.bytes n) := entry_Frame.blk_C hb (by simp [entry_length.bytes])
  have h2 := blk_new (w2.alloc (.cells #[.int .u8 (n / 16777216), .int .u8 (n / 65536), .int .u8 (n / 256 % 256), .int .u8 (n % 256)] T)) (.cells #[.slice (some ⟨w2.heap.size, 0, none⟩) 4 4, .slice A2 p.length c2, .slice A1 l1.length c1] T')
  rw [show (w2.alloc (.cells #[.int .u8 (n / 16777216), .int .u8 (n / 65536), .int .u8 (n / 256 % 256), .int .u8 (n % 256)] T)).heap.size = w2.heap.size + 1 by simp] at h2
  have h3 := entry_Frame.lit3 (l0 := entry_length.bytes n) (c0 := 4) h2 (Kd.C_alloc h1 _) (Kd.C_alloc (Kd.C_alloc hp _) _) (Kd.C_alloc (Kd.C_alloc hl _) _) (by simp [entry_length.bytes]) hcp hcl
  refine (slices_Concat_byte_byte.calls (some ⟨w2.heap.size + 1, 0, none⟩) 3 [entry_length.bytes n, p, l1] r _ h3 (by simp) h).mono ?_
  rintro e w' ⟨v, rfl, ho, hbb⟩
  exact ⟨v, rfl, Kd.R_lower ho (by simp; omega), below_step (below_alloc (below_alloc (Below.refl _ _) _) _) hbb⟩
set_option maxHeartbeats 8000000 in
set_option maxRecDepth 100000 in
theorem entry_Frame.calls (a0_0 : Int) (A0_1 : Option Addr) (c0_1 : Nat) (l0_1 : List Int) (A1 : Option Addr) (c1 : Nat) (l1 : List Int) (r1 : List Int) (r2 : Int) (w : World) (hr0_1 : Kd.C (Kd.int .u8) w A0_1 l0_1.length l0_1) (hc0_1 : l0_1.length ≤ c0_1) (hr1 : Kd.C (Kd.int .u8) w A1 l1.length l1) (hc1 : l1.length ≤ c1) (h : entry_Frame.f a0_0 l0_1 l1 = some (r1, r2)) :
    Calls Try.prog 41 #[.agg #[.int .i64 a0_0, .slice A0_1 l0_1.length c0_1], .slice A1 l1.length c1] w fun e w' => ∃ v0_ : Value, e = .returned (.tuple #[v0_, .int .i64 r2]) ∧ Kd.R (Kd.int .u8) 5 w' w.heap.size (fun _ => True) v0_ r1 ∧ Below w.heap.size w w' := by
  have HR0 := Aside0.mk hr0_1
  have HC0 := Aside0.mk hc0_1
  have HR1 := Aside0.mk hr1
  have HC1 := Aside0.mk hc1
  unfold entry_Frame.f at h
  obtain ⟨⟨p, x⟩, hp, h2⟩ := Option.bind_eq_some_iff.mp h
  have HP := Aside0.mk hp
  clear hr0_1 hc0_1 hr1 hc1 h hp
  simp only at h2
  by_cases hx : x = 0
  · subst hx
    rw [if_pos rfl] at h2
    by_cases hl : l1.length = 32
    · rw [if_pos hl] at h2
      by_cases hpl : p.length < 100000
      case neg => rw [if_neg hpl] at h2; exact absurd h2 (by simp)
      rw [if_pos hpl] at h2
      simp only [Option.some.injEq, Prod.mk.injEq] at h2
      obtain ⟨hr, rfl⟩ := h2
      have hb : ((l1.length : Int) != 32) = false := by rw [hl]; rfl
      have hb2 : (l1.length != 32) = false := by rw [hl]; rfl
      have HPL := Aside0.mk hpl
      have HCAT : Aside0 (slices_Concat_byte_byte.f [entry_length.bytes (p.length : Int), p, l1] = some r1) := ⟨by
        unfold slices_Concat_byte_byte.f
        rw [if_pos (by simp [entry_length.bytes]; omega), ← hr]
        simp⟩
      clear hr hpl hl
      go_enter Try.func41, Try.ntmps41
      go_wp2_with (first | (go_at_call 56; (with_reducible refine (entry_Payload.calls a0_0 A0_1 c0_1 l0_1 p 0 _ (Kd.C_alloc HR0.out _) HC0.out HP.out).mono ?_); rintro e w1 ⟨v1, rfl, ho1, hb1⟩; (obtain ⟨A2, c2, rfl⟩ := Kd.R_slice ho1); (have HO1 := Aside0.mk (Kd.R_reads' ho1)); (have HB1 : Aside0 (Below w.heap.size w w1) := ⟨below_step (below_alloc (Below.refl _ _) _) hb1⟩); clear ho1 hb1) | (go_at_call 57; (with_reducible refine (entry_length.lit p.length HPL.out _).mono ?_); rintro e w2 ⟨rfl, hb2⟩; (have HB2 : Aside0 (Below w.heap.size w w2) := ⟨below_step HB1.out hb2⟩); (have HO2 : Aside0 (Kd.C (Kd.int .u8) w2 A2 p.length p) := ⟨Kd.C_below HO1.out.2.2 hb2⟩); clear hb2) | (go_at_call 58; (with_reducible refine (entry_Frame.cat w2 _ _ (p.length : Int) A2 c2 p A1 c1 l1 r1 HO2.out HO1.out.2.1 (Kd.C_below HR1.out HB2.out) HC1.out HCAT.out).mono ?_); rintro e w3 ⟨v3, rfl, ho3, hb3⟩; (have HO3 : Aside0 (Kd.R (Kd.int .u8) 5 w3 w.heap.size (fun _ => True) v3 r1) := ⟨Kd.R_lower ho3 HB2.out.size⟩); (have HB3 : Aside0 (Below w.heap.size w w3) := ⟨below_step HB2.out hb3⟩); clear ho3 hb3))
      go_ret2
      exact ⟨_, rfl, HO3.out, HB3.out⟩
    · rw [if_neg hl] at h2
      simp only [Option.some.injEq, Prod.mk.injEq] at h2
      obtain ⟨rfl, rfl⟩ := h2
      have hb : ((l1.length : Int) != 32) = true := by simp; omega
      have hb2 : (l1.length != 32) = true := by simp; omega
      clear hl
      go_enter Try.func41, Try.ntmps41
      go_wp2_with (((go_at_call 56; (with_reducible refine (entry_Payload.calls a0_0 A0_1 c0_1 l0_1 p 0 _ (Kd.C_alloc HR0.out _) HC0.out HP.out).mono ?_); rintro e w1 ⟨v1, rfl, ho1, hb1⟩; (obtain ⟨A2, c2, rfl⟩ := Kd.R_slice ho1); (have HB1 : Aside0 (Below w.heap.size w w1) := ⟨below_step (below_alloc (Below.refl _ _) _) hb1⟩); clear ho1 hb1)))
      go_ret2
      exact ⟨_, rfl, Kd.R_nil _ _ _ _ _, HB1.out⟩
  · rw [if_neg hx] at h2
    simp only [Option.some.injEq, Prod.mk.injEq] at h2
    obtain ⟨rfl, rfl⟩ := h2
    have hb : (x != 0) = true := by simpa using hx
    clear hx
    go_enter Try.func41, Try.ntmps41
    go_wp2_with (((go_at_call 56; (with_reducible refine (entry_Payload.calls a0_0 A0_1 c0_1 l0_1 p x _ (Kd.C_alloc HR0.out _) HC0.out HP.out).mono ?_); rintro e w1 ⟨v1, rfl, ho1, hb1⟩; (obtain ⟨A2, c2, rfl⟩ := Kd.R_slice ho1); (have HB1 : Aside0 (Below w.heap.size w w1) := ⟨below_step (below_alloc (Below.refl _ _) _) hb1⟩); clear ho1 hb1)))
    go_ret2
    exact ⟨_, rfl, Kd.R_nil _ _ _ _ _, HB1.out⟩

-- NOT PRINTED: function 15 (journal_Journal_Append)

-- NOT PRINTED: function 9 (notarylaw49_awake)

-- NOT PRINTED: function 13 (journal_Journal_Tag)

/-! ### notaryref01_Same: function 16 -/
def notaryref01_Same.l0 : Nat → List Int → List Int → Int → Option (Bool)
  | 0, _, _, _ => none
  | k + 1, x0, x1, x5 => if x5 < (x0.length : Int) then (if 0 ≤ x5 then (if x5 < (x1.length : Int) then (if (rd x0 x5) = (rd x1 x5) then (notaryref01_Same.l0 k x0 x1 (wrap64 (x5 + 1))) else (some false)) else (none)) else (none)) else (some true)
def notaryref01_Same.f (k : Nat) (l0 : List Int) (l1 : List Int) : Option (Bool) := if (l0.length : Int) = (l1.length : Int) then (notaryref01_Same.l0 k l0 l1 0) else (some false)
theorem notaryref01_Same.mono_l : ∀ k, (∀ y0 y1 y2, LeO (notaryref01_Same.l0 k y0 y1 y2) (notaryref01_Same.l0 (k + 1) y0 y1 y2))
  | 0 => fun _ _ _ r h => by simp [notaryref01_Same.l0] at h
  | k + 1 => by
    have ih0 := notaryref01_Same.mono_l k
    · intro y0 y1 y2
      unfold notaryref01_Same.l0
      repeat' first | (with_reducible exact ih0 _ _ _) | (with_reducible exact LeO.refl _) | (with_reducible refine LeO.ite ?_ ?_)
theorem notaryref01_Same.mono : ∀ a0 a1 k, LeO (notaryref01_Same.f k a0 a1) (notaryref01_Same.f (k + 1) a0 a1) := by
  intro a0 a1 k
  have ih0 := notaryref01_Same.mono_l k
  unfold notaryref01_Same.f
  repeat' first | (with_reducible exact ih0 _ _ _) | (with_reducible exact LeO.refl _) | (with_reducible refine LeO.ite ?_ ?_)
set_option maxHeartbeats 8000000 in
set_option maxRecDepth 100000 in
theorem notaryref01_Same.calls (k : Nat) (A0 : Option Addr) (c0 : Nat) (l0 : List Int) (A1 : Option Addr) (c1 : Nat) (l1 : List Int) (r : Bool) (w : World) (hr0 : Kd.C (Kd.int .u8) w A0 l0.length l0) (hc0 : l0.length ≤ c0) (hr1 : Kd.C (Kd.int .u8) w A1 l1.length l1) (hc1 : l1.length ≤ c1) (h : notaryref01_Same.f k l0 l1 = some r) :
    Calls Try.prog 16 #[.slice A0 l0.length c0, .slice A1 l1.length c1] w fun e w' => e = .returned (.bool r) ∧ Drawn0 w w' := by
  have HR0 := Aside0.mk hr0
  have HC0 := Aside0.mk hc0
  clear hr0 hc0
  have HR1 := Aside0.mk hr1
  have HC1 := Aside0.mk hc1
  clear hr1 hc1
  have H : (if (l0.length : Int) = (l1.length : Int) then (notaryref01_Same.l0 k l0 l1 0) else (some false)) = some r := h
  clear h
  by_cases c3 : (l0.length : Int) = (l1.length : Int)
  rotate_left
  · rw [if_neg c3] at H
    have c3b0 : ((l0.length : Int) == (l1.length : Int)) = false := beq_eq_false_iff_ne.mpr c3
    have c3b1 : ((l0.length : Int) != (l1.length : Int)) = true := bne_iff_ne.mpr c3
    have c3b2 : (l0.length == l1.length) = false := by (simp at c3 ⊢; omega)
    obtain rfl := Option.some.inj H
    go_enter Try.func16, Try.ntmps16
    go_wp2
    repeat (go_quiet (fail); skip)
    go_ret
    exact ⟨by (rfl), by repeat (exact Drawn0.refl _)⟩


  rw [if_pos c3] at H
  have c3b0 : ((l0.length : Int) == (l1.length : Int)) = true := beq_iff_eq.mpr c3
  have c3b1 : ((l0.length : Int) != (l1.length : Int)) = false := bne_eq_false_iff_eq.mpr c3
  have c3b2 : (l0.length == l1.length) = true := by (simp at c3 ⊢; omega)
  clear c3
  have H' := Aside0.mk H
  clear H
  go_enter Try.func16, Try.ntmps16
  go_wp2
  repeat (go_quiet (fail); skip)
  go_loopg [5] k (fun kq v5 w' => ∃ (x5_1 : Int), v5 = .int .i64 x5_1 ∧ Aside0 (notaryref01_Same.l0 kq l0 l1 x5_1 = some r) ∧ Aside0 (kq ≤ k) ∧ Drawn0 w w')
  case atStart => exact ⟨(0), (by (rfl)), H', ⟨Nat.le_refl _⟩, by repeat (exact Drawn0.refl _)⟩
  clear H'
  try clear c3b0
  try clear c3b1
  try clear c3b2
  obtain ⟨x5_1, rfl, HA, HK1, ⟨m1, rfl⟩⟩ := hrel
  rcases gk with _ | k1
  · exact absurd HA.out (by simp [notaryref01_Same.l0])
  have H := HA.out
  clear HA
  simp only [notaryref01_Same.l0] at H
  by_cases c4 : x5_1 < (l0.length : Int)
  rotate_left
  · rw [if_neg c4] at H
    have c4b0 : decide (x5_1 < (l0.length : Int)) = false := decide_eq_false c4
    clear c4
    obtain rfl := Option.some.inj H
    go_wp2
    repeat (go_quiet (fail); skip)
    go_ret
    exact ⟨by (rfl), by repeat (first | exact Drawn0.refl _ | apply Drawn0.step)⟩
  rw [if_pos c4] at H
  have c4b0 : decide (x5_1 < (l0.length : Int)) = true := decide_eq_true c4
  clear c4
  by_cases c5 : 0 ≤ x5_1
  rotate_left
  · rw [if_neg c5] at H
    exact absurd H (by simp)
  rw [if_pos c5] at H
  have c5b0 : decide (0 ≤ x5_1) = true := decide_eq_true c5
  clear c5
  by_cases c6 : x5_1 < (l1.length : Int)
  rotate_left
  · rw [if_neg c6] at H
    exact absurd H (by simp)
  rw [if_pos c6] at H
  have c6b0 : decide (x5_1 < (l1.length : Int)) = true := decide_eq_true c6
  clear c6
  by_cases c7 : (rd l0 x5_1) = (rd l1 x5_1)
  rotate_left
  · rw [if_neg c7] at H
    have c7b0 : ((rd l0 x5_1) == (rd l1 x5_1)) = false := beq_eq_false_iff_ne.mpr c7
    have c7b1 : ((rd l0 x5_1) != (rd l1 x5_1)) = true := bne_iff_ne.mpr c7
    obtain rfl := Option.some.inj H
    have p143 : 0 ≤ (x5_1 : Int) := of_decide_eq_true (by (with_reducible assumption))
    have q143 : x5_1 < (l0.length : Int) := of_decide_eq_true (by (with_reducible assumption))
    obtain ⟨ad143, e143, hx143_0⟩ := Kd.at_int HR0.out x5_1 p143 q143
    cases e143
    replace p143 := eq_true p143
    replace q143 := eq_true q143
    have p144 : 0 ≤ (x5_1 : Int) := of_decide_eq_true (by (with_reducible assumption))
    have q144 : x5_1 < (l1.length : Int) := of_decide_eq_true (by (with_reducible assumption))
    obtain ⟨ad144, e144, hx144_0⟩ := Kd.at_int HR1.out x5_1 p144 q144
    cases e144
    replace p144 := eq_true p144
    replace q144 := eq_true q144
    go_wp2
    repeat (go_quiet (fail); try go_wp2)
    go_ret
    exact ⟨by (rfl), by repeat (first | exact Drawn0.refl _ | apply Drawn0.step)⟩
  rw [if_pos c7] at H
  have c7b0 : ((rd l0 x5_1) == (rd l1 x5_1)) = true := beq_iff_eq.mpr c7
  have c7b1 : ((rd l0 x5_1) != (rd l1 x5_1)) = false := bne_eq_false_iff_eq.mpr c7
  clear c7
  have H' := Aside0.mk H
  clear H
  have p143 : 0 ≤ (x5_1 : Int) := of_decide_eq_true (by (with_reducible assumption))
  have q143 : x5_1 < (l0.length : Int) := of_decide_eq_true (by (with_reducible assumption))
  obtain ⟨ad143, e143, hx143_0⟩ := Kd.at_int HR0.out x5_1 p143 q143
  cases e143
  replace p143 := eq_true p143
  replace q143 := eq_true q143
  have p144 : 0 ≤ (x5_1 : Int) := of_decide_eq_true (by (with_reducible assumption))
  have q144 : x5_1 < (l1.length : Int) := of_decide_eq_true (by (with_reducible assumption))
  obtain ⟨ad144, e144, hx144_0⟩ := Kd.at_int HR1.out x5_1 p144 q144
  cases e144
  replace p144 := eq_true p144
  replace q144 := eq_true q144
  go_wp2
  repeat (go_quiet (fail); try go_wp2)
  go_roundg k1
  case measure => have := HK1.out; omega
  case rel => exact ⟨(wrap64 (x5_1 + 1)), (by (rfl)), H', ⟨by have := HK1.out; omega⟩, by repeat (first | exact Drawn0.refl _ | apply Drawn0.step)⟩/-! ### notaryref47_First: function 26 -/
def notaryref47_First.f  : Option (List Int) := if 32 ≤ 281474976710656 then (some (List.replicate 32 0)) else (none)
set_option maxHeartbeats 8000000 in
set_option maxRecDepth 100000 in
theorem notaryref47_First.calls  (r : List Int) (w : World) (h : notaryref47_First.f  = some r) :
    Calls Try.prog 26 #[] w fun e w' => ∃ v0_ : Value, e = .returned (v0_) ∧ Kd.R (Kd.int .u8) 5 w' w.heap.size (fun _ => True) v0_ r ∧ Below w.heap.size w w' := by
  have HB := Aside0.mk (Below.refl w.heap.size w)
  have H : (if 32 ≤ 281474976710656 then (some (List.replicate 32 0)) else (none)) = some r := h
  clear h
  by_cases c1 : 32 ≤ 281474976710656
  rotate_left
  · rw [if_neg c1] at H
    exact absurd H (by simp)

  rw [if_pos c1] at H
  have c1b0 := eq_true c1
  have c1b1 : decide (32 ≤ 281474976710656) = true := decide_eq_true c1
  clear c1
  obtain ⟨y145, hy145⟩ : ∃ y_ : List Int, y_ = (List.replicate 32 0) := ⟨_, rfl⟩
  replace H : (some y145) = some r := by (rw [hy145]; with_reducible exact H)
  have Ny145 := Aside0.mk hy145
  clear hy145
  obtain rfl := Option.some.inj H
  go_enter Try.func26, Try.ntmps26
  go_wp2_with ((((with_reducible refine gate_dst (N := 1) rfl ?_); refine Kd.R_make (Kd.int .u8) _ 5 rfl (N := 1) rfl 22 _ _ rfl 32 rfl rfl Try.underlying22 (.int .u8 0) 1 info5 rfl (by decide) (by omega) 0 (ok := fun _ => True) (okp := fun _ => True) rfl (fun _ hk => hk) trivial (by omega) (by omega) (Below.refl _ _) (Nat.le_refl _) ?_; intro v146 w2 ho3 hb hg_ hnew_; clear hg_ hnew_; (simp only [Int.reduceToNat] at ho3; rw [← Ny145.out] at ho3); have n0_ := Aside0.mk (Kd.R_lower ho3 (below_size HB.out)); have n1_ := Aside0.mk (below_step HB.out hb); clear HB; have HO147 := n0_; have HB := n1_; clear n0_ n1_; clear hb ho3)))
  go_ret
  exact ⟨_, by (rfl), by exact HO147.out, HB.out⟩
end Go.Proofs.Ytogjnipojakfjaa.PJr
