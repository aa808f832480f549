/- The device: an operation, and no device. -/
import Derived.Test.YtlbabncagdkjpaaDDev
import Derived.Test.YtlbabncagdkjpaaPAllx12
namespace Go.Proofs.Ytlbabncagdkjpaa.DDev
open Go.RowKit Go.Proofs.Ytlbabncagdkjpaa.PAll Go.Proofs.YtlbabncagdkjpaaW.PrintWords Go.Proofs.YtlbabncagdkjpaaW.PrintLast Go.Proofs.YtlbabncagdkjpaaW.PrintMore
set_option linter.unusedVariables false
set_option linter.unusedSimpArgs false
abbrev Opn := S66
def cutB (bs : List Int) (n : Int) : List Int := bs.take (heldN n bs.length).toNat
def crashB (sure : Int) (bs : List Int) (n : Int) : List Int := bs.take (sure + heldN n (bs.length - sure)).toNat
/-- an operation: how many are sure, the bytes, the error -/
def doS (room sure : Int) (bs : List Int) (x : Opn) : Int × List Int × Int :=
  if x.f0 = 0 then (if room - bs.length < x.f1.length then (sure, bs, 28) else (sure, bs ++ x.f1, 0))
  else if x.f0 = 1 then (bs.length, bs, 0)
  else if x.f0 = 2 then ((crashB sure bs x.f2).length, crashB sure bs x.f2, 0)
  else if x.f0 = 3 then (mn sure (cutB bs x.f2).length, cutB bs x.f2, 0)
  else (sure, bs, 0)
set_option maxHeartbeats 8000000 in
set_option maxRecDepth 100000 in
theorem do.calls (g : Nat) (O : Nat → Prop) (room sure : Int) (bs : List Int) (v : Value) (x : Opn) (A : Option Addr) (c : Nat) (w0 w : World) (h : Dev w w0.heap.size g O room sure bs v) (HB : Below w0.heap.size w0 w) (hR : Kd.C (Kd.int .u8) w A x.f1.length x.f1) (hr : room ≤ 65536) (hr0 : 0 ≤ room) (hb : bs.length ≤ room) (hs : 0 ≤ sure) (hs2 : sure ≤ bs.length) (hl : x.f1.length ≤ 140737488351232) :
    Calls Try.prog 35 #[.pointer (some ⟨g, 0, none⟩), .agg #[.int .i64 x.f0, .slice A x.f1.length c, .int .i64 x.f2]] w fun e w' => e = .returned (.int .i64 (doS room sure bs x).2.2) ∧ ∃ v', Dev w' w0.heap.size g (fun k => O k ∨ w.heap.size ≤ k) room (doS room sure bs x).1 (doS room sure bs x).2.1 v' ∧ Kept w w' (fun k => k = g ∨ O k) ∧ Below w0.heap.size w0 w' := by
  have HD := Aside0.mk h
  have HB0 := Aside0.mk HB
  have HR := Aside0.mk hR
  have HX := Aside0.mk (show room ≤ 65536 ∧ 0 ≤ room ∧ bs.length ≤ 65536 ∧ 0 ≤ sure ∧ sure ≤ bs.length ∧ x.f1.length ≤ 140737488351232 from ⟨hr, hr0, by omega, hs, hs2, hl⟩)
  have hng : g < w.heap.size := dev_lt h
  have HNG : Aside0 (¬ (O g ∨ w.heap.size ≤ g)) := ⟨fun hh => hh.elim h.2.2.1 (fun hh => by omega)⟩
  have HDA : Aside0 (∀ o, Dev (w.alloc o) w0.heap.size g O room sure bs v) := ⟨fun o => dev_below h (below_alloc (Below.refl _ _) o)⟩
  have HBA : Aside0 (∀ o, Below w0.heap.size w0 (w.alloc o)) := ⟨fun o => below_alloc HB o⟩
  have HKA : Aside0 (∀ o, Kept w (w.alloc o) (fun k => k = g ∨ O k)) := ⟨fun o => Kept.alloc (Kept.refl _ _) o⟩
  have HSZ : Aside0 (∀ o, w.heap.size ≤ (w.alloc o).heap.size) := ⟨fun o => by simp⟩
  have HNL := Aside0.mk hng
  have HGE : Aside0 (w0.heap.size ≤ g) := ⟨h.2.1⟩
  clear h HB hR hr hr0 hb hs hs2 hl hng
  obtain ⟨k, B, n⟩ := x
  simp only at HR HX ⊢
  by_cases k0 : k = 0
  · subst k0
    by_cases hno : room - bs.length < B.length
    · have hS : doS room sure bs ⟨0, B, n⟩ = (sure, bs, 28) := by simp [doS, hno]
      rw [hS]
      have HNO := Aside0.mk hno
      clear hno hS
      go_enter Try.func35, Try.ntmps35
      go_wp2_with (go_at_call 40; (with_reducible refine (Append.no g w0.heap.size O room sure bs v A c B _ (HDA.out _) HX.out.1 HX.out.2.2.1 HX.out.2.1 HX.out.2.2.2.2.2 HNO.out).mono ?_); rintro e w1 ⟨rfl, ⟨nd, rfl⟩⟩)
      go_ret
      exact ⟨rfl, v, dev_mono (dev_drewN (HDA.out _) _) (fun _ h => .inl h) HNG.out, Kept.drewN (HKA.out _) _, pw_below_drewN (HBA.out _) _⟩
    · have hS : doS room sure bs ⟨0, B, n⟩ = (sure, bs ++ B, 0) := by simp [doS, hno]
      rw [hS]
      have HNO := Aside0.mk hno
      clear hno hS
      go_enter Try.func35, Try.ntmps35
      go_wp2_with (go_at_call 40; (with_reducible refine (Append.yes g O room sure bs v A c B w0 _ (HDA.out _) (HBA.out _) (Kd.C_alloc HR.out _) HX.out.1 HX.out.2.2.1 HX.out.2.1 HNO.out).mono ?_); rintro e w1 ⟨rfl, v1, hd1, hk1, hb1⟩; (have HD1 := Aside0.mk hd1); (have HK1 := Aside0.mk hk1); (have HB1 := Aside0.mk hb1); clear hd1 hk1 hb1)
      go_ret
      exact ⟨rfl, v1, dev_mono HD1.out (fun k h => h.elim .inl (fun h => .inr (Nat.le_trans (HSZ.out _) h))) HNG.out, Kept.then_ (HKA.out _) HK1.out (fun _ h => .inl h), HB1.out⟩
  · have e0 : (k == 0) = false := beq_eq_false_iff_ne.mpr k0
    by_cases k1 : k = 1
    · subst k1
      have hS : doS room sure bs ⟨1, B, n⟩ = ((bs.length : Int), bs, 0) := by simp [doS]
      rw [hS]
      clear hS e0 k0
      go_enter Try.func35, Try.ntmps35
      go_wp2_with (go_at_call 61; (with_reducible refine (Sync.calls g w0.heap.size O room sure bs v w0 _ (HDA.out _)).mono ?_); rintro e w1 ⟨rfl, hw1⟩; (have hbx : w1.heap[w.heap.size]? = some (.cells #[.int .i64 1, .slice A B.length c, .int .i64 n] 66 (0, 0)) := (by rw [hw1]; exact blk_far (blk_new _ _) (Nat.ne_of_gt HNL.out) _)); (have hq1 : w1.cell? ⟨w.heap.size, 0, none⟩ = some (.int .i64 1) := (blk_cell hbx 0).trans rfl); (have HD1 : Aside0 (Dev w1 w0.heap.size g O room bs.length bs v) := ⟨by rw [hw1]; exact dev_sure (HDA.out _) _⟩); (have HK1 : Aside0 (Kept w w1 (fun k => k = g ∨ O k)) := ⟨by rw [hw1]; exact Kept.setCell (HKA.out _) (.inl (.inl rfl)) _⟩); (have HB1 : Aside0 (Below w0.heap.size w0 w1) := ⟨by rw [hw1]; exact below_set (HBA.out _) HGE.out⟩); clear hbx hw1)
      go_ret
      exact ⟨rfl, v, dev_mono HD1.out (fun _ h => .inl h) HNG.out, HK1.out, HB1.out⟩
    · have e1 : (k == 1) = false := beq_eq_false_iff_ne.mpr k1
      by_cases k2 : k = 2
      · subst k2
        have hS : doS room sure bs ⟨2, B, n⟩ = (((crashB sure bs n).length : Int), crashB sure bs n, 0) := by simp [doS]
        rw [hS]
        unfold crashB
        clear hS e0 k0 e1 k1
        go_enter Try.func35, Try.ntmps35
        go_wp2_with (go_at_call 41; (with_reducible refine (Crash.calls g O room sure bs v n w0 _ (HDA.out _) (HBA.out _) HX.out.2.2.1 HX.out.2.2.2.1 HX.out.2.2.2.2.1).mono ?_); rintro e w1 ⟨rfl, v1, hd1, ho1, hk1, hb1⟩; (have hbx : w1.heap[w.heap.size]? = some (.cells #[.int .i64 2, .slice A B.length c, .int .i64 n] 66 (0, 0)) := (blk_kept (blk_new _ _) hk1 (Nat.ne_of_gt HNL.out))); (have hq1 : w1.cell? ⟨w.heap.size, 0, none⟩ = some (.int .i64 2) := (blk_cell hbx 0).trans rfl); (have HD1 := Aside0.mk hd1); (have HK1 : Aside0 (Kept w w1 (fun k => k = g ∨ O k)) := ⟨Kept.then_ (HKA.out _) hk1 (fun _ h => .inl (.inl h))⟩); (have HB1 := Aside0.mk hb1); clear hbx hd1 ho1 hk1 hb1)
        go_ret
        exact ⟨rfl, v1, dev_mono HD1.out (fun _ h => .inl h) HNG.out, HK1.out, HB1.out⟩
      · have e2 : (k == 2) = false := beq_eq_false_iff_ne.mpr k2
        by_cases k3 : k = 3
        · subst k3
          have hS : doS room sure bs ⟨3, B, n⟩ = (mn sure (cutB bs n).length, cutB bs n, 0) := by simp [doS]
          rw [hS]
          unfold cutB
          clear hS e0 k0 e1 k1 e2 k2
          go_enter Try.func35, Try.ntmps35
          go_wp2_with (go_at_call 62; (with_reducible refine (Cut.calls g O room sure bs v n w0 _ (HDA.out _) (HBA.out _) HX.out.2.2.1).mono ?_); rintro e w1 ⟨rfl, v1, hd1, ho1, hk1, hb1⟩; (have HD1 := Aside0.mk hd1); (have HK1 : Aside0 (Kept w w1 (fun k => k = g ∨ O k)) := ⟨Kept.then_ (HKA.out _) hk1 (fun _ h => .inl (.inl h))⟩); (have HB1 := Aside0.mk hb1); clear hd1 ho1 hk1 hb1)
          go_ret
          exact ⟨rfl, v1, dev_mono HD1.out (fun _ h => .inl h) HNG.out, HK1.out, HB1.out⟩
        · have e3 : (k == 3) = false := beq_eq_false_iff_ne.mpr k3
          have hS : doS room sure bs ⟨k, B, n⟩ = (sure, bs, 0) := by simp [doS, k0, k1, k2, k3]
          rw [hS]
          clear hS k0 k1 k2 k3
          go_enter Try.func35, Try.ntmps35
          go_wp2
          go_ret
          exact ⟨rfl, v, dev_mono (HDA.out _) (fun _ h => .inl h) HNG.out, HKA.out _, HBA.out _⟩
/-! ### no device -/
theorem nil_Append (A : Option Addr) (c : Nat) (ys : List Int) (w : World) : Calls Try.prog 40 #[.pointer none, .slice A ys.length c] w fun e w' => e = .returned (.int .i64 (if 0 < ys.length then 28 else 0)) ∧ w' = w := by
  by_cases h : 0 < ys.length
  · rw [if_pos h]
    have hd : decide (0 < (ys.length : Int)) = true := decide_eq_true (by omega)
    have hd2 : decide (0 < ys.length) = true := decide_eq_true h
    go_enter Try.func40, Try.ntmps40
    go_wp2
    go_ret
    exact ⟨rfl, rfl⟩
  · rw [if_neg h]
    have hd : decide (0 < (ys.length : Int)) = false := decide_eq_false (by omega)
    have hd2 : decide (0 < ys.length) = false := decide_eq_false h
    go_enter Try.func40, Try.ntmps40
    go_wp2
    go_ret
    exact ⟨rfl, rfl⟩
theorem nil_Sync (w : World) : Calls Try.prog 61 #[.pointer none] w fun e w' => e = .returned (.tuple #[]) ∧ w' = w := by
  go_enter Try.func61, Try.ntmps61
  go_wp2
  go_end0
  exact ⟨rfl, rfl⟩
theorem nil_Bytes (w : World) : Calls Try.prog 38 #[.pointer none] w fun e w' => e = .returned (.slice none 0 0) ∧ w' = w := by
  go_enter Try.func38, Try.ntmps38
  go_wp2
  go_ret
  exact ⟨rfl, rfl⟩
theorem nil_Sure (w : World) : Calls Try.prog 39 #[.pointer none] w fun e w' => e = .returned (.int .i64 0) ∧ w' = w := by
  go_enter Try.func39, Try.ntmps39
  go_wp2
  go_ret
  exact ⟨rfl, rfl⟩
theorem nil_Crash (n : Int) (w : World) : Calls Try.prog 41 #[.pointer none, .int .i64 n] w fun e w' => e = .returned (.tuple #[]) ∧ w' = w := by
  go_enter Try.func41, Try.ntmps41
  go_wp2
  refine bodyPost_ret (v := .tuple #[]) (results_none rfl _ _ _) rfl ?_
  exact ⟨rfl, rfl⟩
theorem nil_Cut (n : Int) (w : World) : Calls Try.prog 62 #[.pointer none, .int .i64 n] w fun e w' => e = .returned (.tuple #[]) ∧ w' = w := by
  go_enter Try.func62, Try.ntmps62
  go_wp2
  refine bodyPost_ret (v := .tuple #[]) (results_none rfl _ _ _) rfl ?_
  exact ⟨rfl, rfl⟩
def nilE (x : Opn) : Int := if x.f0 = 0 then (if 0 < x.f1.length then 28 else 0) else 0
set_option maxHeartbeats 8000000 in
set_option maxRecDepth 100000 in
theorem do.nil (x : Opn) (A : Option Addr) (c : Nat) (w : World) :
    Calls Try.prog 35 #[.pointer none, .agg #[.int .i64 x.f0, .slice A x.f1.length c, .int .i64 x.f2]] w fun e w' => e = .returned (.int .i64 (nilE x)) ∧ w' = w.alloc (.cells #[.int .i64 x.f0, .slice A x.f1.length c, .int .i64 x.f2] 66) := by
  obtain ⟨k, B, n⟩ := x
  simp only [nilE]
  by_cases k0 : k = 0
  · subst k0
    rw [if_pos rfl]
    obtain ⟨z, hz⟩ : ∃ z : Int, z = if 0 < B.length then 28 else 0 := ⟨_, rfl⟩
    have HA : Aside0 (∀ w : World, Calls Try.prog 40 #[.pointer none, .slice A B.length c] w fun e w' => e = .returned (.int .i64 z) ∧ w' = w) := ⟨fun w => by rw [hz]; exact nil_Append A c B w⟩
    rw [← hz]
    clear hz
    go_enter Try.func35, Try.ntmps35
    go_wp2_with (go_at_call 40; (with_reducible refine (HA.out _).mono ?_); rintro e w1 ⟨rfl, rfl⟩)
    go_ret
    exact ⟨rfl, rfl⟩
  · rw [if_neg k0]
    have e0 : (k == 0) = false := beq_eq_false_iff_ne.mpr k0
    by_cases k1 : k = 1
    · subst k1
      clear e0 k0
      go_enter Try.func35, Try.ntmps35
      go_wp2_with (go_at_call 61; (with_reducible refine (nil_Sync _).mono ?_); rintro e w1 ⟨rfl, rfl⟩)
      go_ret
      exact ⟨rfl, rfl⟩
    · have e1 : (k == 1) = false := beq_eq_false_iff_ne.mpr k1
      by_cases k2 : k = 2
      · subst k2
        clear e0 k0 e1 k1
        go_enter Try.func35, Try.ntmps35
        go_wp2_with (go_at_call 41; (with_reducible refine (nil_Crash n _).mono ?_); rintro e w1 ⟨rfl, rfl⟩)
        go_ret
        exact ⟨rfl, rfl⟩
      · have e2 : (k == 2) = false := beq_eq_false_iff_ne.mpr k2
        by_cases k3 : k = 3
        · subst k3
          clear e0 k0 e1 k1 e2 k2
          go_enter Try.func35, Try.ntmps35
          go_wp2_with (go_at_call 62; (with_reducible refine (nil_Cut n _).mono ?_); rintro e w1 ⟨rfl, rfl⟩)
          go_ret
          exact ⟨rfl, rfl⟩
        · have e3 : (k == 3) = false := beq_eq_false_iff_ne.mpr k3
          clear k0 k1 k2 k3
          go_enter Try.func35, Try.ntmps35
          go_wp2
          go_ret
          exact ⟨rfl, rfl⟩
end Go.Proofs.Ytlbabncagdkjpaa.DDev
