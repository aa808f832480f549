/- The laws of the device, walked: no device; awake. -/
import Derived.Test.YtlbabncagdkjpaaLDev
import Derived.Test.YtlbabncagdkjpaaPAllx11
import Derived.Test.YtlbabncagdkjpaaPAllx12
namespace Go.Proofs.Ytlbabncagdkjpaa.DDev
open Go.RowKit Go.Proofs.Ytlbabncagdkjpaa.PAll Go.Proofs.YtlbabncagdkjpaaW.PrintWords Go.Proofs.YtlbabncagdkjpaaW.PrintLast Go.Proofs.YtlbabncagdkjpaaW.PrintMore
set_option linter.unusedVariables false
set_option linter.unusedSimpArgs false
theorem lit_R (W : World) (xs : List Int) (h : xs.length ≤ 1000 := by decide) : Kd.R (Kd.int .u8) T8 (W.alloc (.cells (nums .u8 xs).toArray T8)) 0 (fun _ => True) (.slice (some ⟨W.heap.size, 0, none⟩) xs.length xs.length) xs := by
  have := own_lit W 0 T8 .u8 xs (Nat.zero_le _) (by omega)
  exact Kd.R_of_own (enc := Value.int .u8) this (fun _ _ => trivial)
theorem awake_app (w w1 : World) (g : Nat) (h : Dev w1 w.heap.size g (fun _ => False) (heldN 4 65536) 0 [] (.slice none 0 0)) (hb : Below w.heap.size w w1) :
    Calls Try.prog 40 #[.pointer (some ⟨g, 0, none⟩), .slice (some ⟨w1.heap.size, 0, none⟩) 2 2] (w1.alloc (.cells #[.int .u8 1, .int .u8 2] T8)) fun e w' => e = .returned (.int .i64 0) ∧ ∃ v', Dev w' w.heap.size g (fun k => False ∨ (w1.alloc (.cells #[.int .u8 1, .int .u8 2] T8)).heap.size ≤ k) (heldN 4 65536) 0 [1, 2] v' ∧ Below w.heap.size w w' :=
  (Append.yes g (fun _ => False) (heldN 4 65536) 0 [] _ (some ⟨w1.heap.size, 0, none⟩) 2 [1, 2] w _ (dev_below h (below_alloc (Below.refl _ _) _)) (below_alloc hb _) (Kd.R_reads' (lit_R w1 [1, 2])).2.2 (by decide) (by decide) (by decide) (by decide)).mono fun e w' ⟨h1, v, h2, _, h3⟩ => ⟨h1, v, h2, h3⟩
set_option maxHeartbeats 8000000 in
set_option maxRecDepth 100000 in
theorem awake.calls (w : World) : Calls Try.prog 32 #[] w fun e w' => e = .returned (.bool true) ∧ Below w.heap.size w w' := by
  go_enter Try.func32, Try.ntmps32
  go_wp2_with (first | (go_at_call 33; (with_reducible refine (New.calls 4 _).mono ?_); rintro e w1 ⟨g, rfl, hg1, hb1, hd1⟩; (have HD1 := Aside0.mk hd1); (have HB1 := Aside0.mk hb1); (have HG1 := Aside0.mk hg1); clear hd1 hb1 hg1) | (go_at_call 40; (with_reducible refine (awake_app w w1 g HD1.out HB1.out).mono ?_); rintro e w8 ⟨rfl, v8, hd8, hb8⟩; (have HD8 := Aside0.mk hd8); (have HB8 := Aside0.mk hb8); clear hd8 hb8) | (go_at_call 38; (with_reducible refine (Bytes.calls g w.heap.size _ _ _ _ v8 _ HD8.out (by decide)).mono ?_); rintro e w9 ⟨v9, rfl, ho9, hb9⟩; (obtain ⟨A9, c9, rfl⟩ := Kd.R_slice ho9); (have HB9 := Aside0.mk hb9); clear ho9 hb9) | (go_at_call 39; (with_reducible refine (Sure.calls g w.heap.size _ _ _ _ v8 _ (dev_below HD8.out HB9.out)).mono ?_); rintro e w10 ⟨rfl, rfl⟩))
  go_ret
  exact ⟨rfl, below_step HB8.out HB9.out⟩
set_option maxHeartbeats 8000000 in
set_option maxRecDepth 100000 in
theorem DeviceNil.calls (A0 : Option Addr) (c0 : Nat) (l0 : List Opn) (w : World) (hr0 : Kd.C k66 w A0 l0.length l0) (hc0 : l0.length ≤ c0) (hm : l0.length ≤ 9223372036854775807) :
    Calls Try.prog 10 #[.slice A0 l0.length c0] w fun e w' => e = .returned (.bool true) ∧ Below w.heap.size w w' := by
  obtain ⟨kL, hL⟩ := Ev.rounds (LDev.large_ev l0 hm)
  have HR := Aside0.mk hr0
  have HC := Aside0.mk hc0
  have HL := Aside0.mk hL
  clear hr0 hc0 hL
  by_cases hS : LDev.LargeS l0 = true
  · rw [hS] at HL
    clear hS
    go_enter Try.func10, Try.ntmps10
    go_wp2_with (first | (go_at_call 31; (with_reducible refine (notaryref48_Large.calls kL A0 c0 l0 true _ HR.out HC.out HL.out).mono ?_); rintro e w1 ⟨rfl, ⟨nd, rfl⟩⟩) | (go_at_call 32; (with_reducible refine (awake.calls _).mono ?_); rintro e w2 ⟨rfl, hb2⟩; have HB2 := Aside0.mk hb2; clear hb2))
    go_ret
    exact ⟨rfl, below_step (pw_below_drewN (Below.refl _ _) _) HB2.out⟩
  · have hS' : LDev.LargeS l0 = false := by simpa using hS
    rw [hS'] at HL
    have hlen := (LDev.small l0 hS').1
    clear hS hS'
    go_enter Try.func10, Try.ntmps10
    go_wp2_with (go_at_call 31; (with_reducible refine (notaryref48_Large.calls kL A0 c0 l0 false _ HR.out HC.out HL.out).mono ?_); rintro e w1 ⟨rfl, ⟨nd, rfl⟩⟩)
    go_loopg [4] l0.length (fun q v4 w' => ∃ j : Nat, v4 = .int .i64 (j : Int) ∧ j + q = l0.length ∧ Aside0 (Below w.heap.size w w'))
    case atStart => exact ⟨0, by go_num, by omega, ⟨pw_below_drewN (Below.refl _ _) _⟩⟩
    case round =>
      obtain ⟨j, rfl, hjq, HB⟩ := hrel
      cases gk with
      | zero =>
        obtain rfl : j = l0.length := by omega
        have hd : decide ((l0.length : Int) < (l0.length : Int)) = false := by simp
        go_wp2_with (go_at_call 32; (with_reducible refine (awake.calls _).mono ?_); rintro e w2 ⟨rfl, hb2⟩; have HB2 := Aside0.mk hb2; clear hb2)
        go_ret
        exact ⟨rfl, below_step HB.out HB2.out⟩
      | succ q =>
        have hj : (j : Int) < (l0.length : Int) := by omega
        have hj0 : (0 : Int) ≤ (j : Int) := by omega
        have hd : decide ((j : Int) < (l0.length : Int)) = true := decide_eq_true hj
        have hw : IntKind.i64.wrap ((j : Int) + 1) = (j : Int) + 1 := IntWalk.i64_in _ (by omega)
        obtain ⟨ad, A1, c1, hA, e0, e1, e2, l1, g1⟩ := at_T66 (Kd.C_below HR.out HB.out) (j : Int) hj0 (by omega)
        subst hA
        generalize rd_T66 l0 (j : Int) = x at *
        clear l1 g1
        have HX := Aside0.mk (fun W => (do.nil x A1 c1 W).mono fun e w' (h : _ ∧ _) => (⟨h.1, by rw [h.2]; exact below_alloc (Below.refl _ _) _⟩ : e = _ ∧ Below W.heap.size W w'))
        simp only [Int.toNat_natCast] at e0 e1 e2
        have HN : Aside0 (∃ b0 b1 : Bool, (x.f0 == 0) = b0 ∧ decide (0 < x.f1.length) = b1 ∧ nilE x = if b0 = true then (if b1 = true then 28 else 0) else 0) := ⟨_, _, rfl, rfl, by unfold nilE; simp [beq_iff_eq]⟩
        obtain ⟨b0, b1, hb0, hb1, hn⟩ := HN.out
        clear HN
        have hb0' : (x.f0 != 0) = !b0 := by rw [bne, hb0]
        have hb1' : decide (0 < (x.f1.length : Int)) = b1 := by rw [← hb1]; simp
        have hb2 : ((x.f1.length : Int) == 0) = !b1 := by rw [← hb1]; cases x.f1 <;> simp; omega
        rw [hn] at HX
        clear hn
        cases b0 <;> cases b1 <;> simp only [Bool.not_true, Bool.not_false, if_true, Bool.false_eq_true, if_false] at HX hb0' hb2
        all_goals
          go_wp2_with (first | (go_at_call 35; (with_reducible refine (HX.out _).mono ?_); rintro e w1 ⟨rfl, hw1⟩; have f0 := pw_cell_below hw1 e0; have f1 := pw_cell_below hw1 e1; have HW1 := Aside0.mk hw1; clear hw1 e0 e1 e2) | (go_at_call 38; (with_reducible refine (nil_Bytes _).mono ?_); rintro e w1 ⟨rfl, rfl⟩) | (go_at_call 39; (with_reducible refine (nil_Sure _).mono ?_); rintro e w1 ⟨rfl, rfl⟩))
          go_roundg q
          case measure => omega
          case rel => exact ⟨j + 1, by go_num, by omega, ⟨below_step HB.out HW1.out⟩⟩
theorem dev_lower {W : World} {B B' g : Nat} {O : Nat → Prop} {room sure : Int} {bs : List Int} {v : Value} (h : Dev W B g O room sure bs v) (hB : B' ≤ B) : Dev W B' g O room sure bs v :=
  ⟨h.1, Nat.le_trans hB h.2.1, h.2.2.1, Kd.R_lower h.2.2.2 hB⟩
theorem crash_len (sure : Int) (bs : List Int) (n : Int) (hs : 0 ≤ sure) (hs2 : sure ≤ bs.length) : ∃ m : Nat, m ≤ bs.length ∧ crashB sure bs n = bs.take m ∧ sure ≤ (m : Int) ∧ (crashB sure bs n).length = m := by
  have h := LDev.held_range n (bs.length - sure) (by omega)
  refine ⟨(sure + heldN n (bs.length - sure)).toNat, by omega, rfl, by omega, ?_⟩
  unfold crashB
  rw [List.length_take]; omega
/-- bytes told, that stay so while the device changes -/
theorem told {W W1 : World} {g : Nat} {O : Nat → Prop} {W' : World} {v : Value} {xs : List Int} (h : Kd.R (Kd.int .u8) T8 W W1.heap.size (fun _ => True) v xs) (hk : Kept W W' (fun k => k = g ∨ O k)) (hg : g < W1.heap.size) (hO : ∀ k, O k → k < W1.heap.size) : Kd.R (Kd.int .u8) T8 W' W1.heap.size (fun _ => True) v xs :=
  Kd.R_mono (Kd.R_kept (Kd.R_bound h) hk (fun k hk hh => by
    have h1 := hk.2.1
    rcases hh with rfl | hh
    · omega
    · have := hO k hh
      omega)) (fun _ _ => trivial)
set_option maxHeartbeats 16000000 in
set_option maxRecDepth 100000 in
theorem DeviceLasts.calls (room : Int) (A0 : Option Addr) (c0 : Nat) (l0 : List Opn) (x : Opn) (Ax : Option Addr) (cx : Nat) (w : World) (hr0 : Kd.C k66 w A0 l0.length l0) (hc0 : l0.length ≤ c0) (hm : l0.length ≤ 9223372036854775807) (hx : Kd.C (Kd.int .u8) w Ax x.f1.length x.f1) :
    Calls Try.prog 9 #[.int .i64 room, .slice A0 l0.length c0, .agg #[.int .i64 x.f0, .slice Ax x.f1.length cx, .int .i64 x.f2]] w fun e w' => e = .returned (.bool true) ∧ Below w.heap.size w w' := by
  obtain ⟨kL, hL⟩ := Ev.rounds (LDev.large_ev l0 hm)
  have HR := Aside0.mk hr0
  have HC := Aside0.mk hc0
  have HL := Aside0.mk hL
  have HXR := Aside0.mk hx
  obtain ⟨rm, hrm⟩ : ∃ rm, heldN room 65536 = rm := ⟨_, rfl⟩
  have hrr := LDev.held_range room 65536 (by decide)
  rw [hrm] at hrr
  have HRM := Aside0.mk hrm
  have HRR := Aside0.mk hrr
  clear hr0 hc0 hL hx hrm hrr
  by_cases hS : LDev.LargeS l0 = true ∨ 70000 < x.f1.length
  · have HG : Aside0 (∀ W, Calls Try.prog 32 #[] W fun e w' => e = .returned (.bool true) ∧ Below W.heap.size W w') := ⟨fun W => awake.calls W⟩
    obtain ⟨b, hb⟩ : ∃ b, LDev.LargeS l0 = b := ⟨_, rfl⟩
    rw [hb] at HL hS
    cases b with
    | true =>
      clear hS
      go_enter Try.func9, Try.ntmps9
      go_wp2_with (first | (go_at_call 31; (with_reducible refine (notaryref48_Large.calls kL A0 c0 l0 true _ (Kd.C_alloc HR.out _) HC.out HL.out).mono ?_); rintro e w1 ⟨rfl, ⟨nd, rfl⟩⟩) | (go_at_call 32; (with_reducible refine (HG.out _).mono ?_); rintro e w2 ⟨rfl, hb2⟩; have HB2 := Aside0.mk hb2; clear hb2))
      go_ret
      exact ⟨rfl, below_step (pw_below_drewN (below_alloc (Below.refl _ _) _) _) HB2.out⟩
    | false =>
      have hlong : 70000 < x.f1.length := hS.resolve_left (by simp)
      have hd : decide (70000 < (x.f1.length : Int)) = true := decide_eq_true (by omega)
      have hd2 : decide (70000 < x.f1.length) = true := decide_eq_true hlong
      clear hS
      go_enter Try.func9, Try.ntmps9
      go_wp2_with (first | (go_at_call 31; (with_reducible refine (notaryref48_Large.calls kL A0 c0 l0 false _ (Kd.C_alloc HR.out _) HC.out HL.out).mono ?_); rintro e w1 ⟨rfl, ⟨nd, rfl⟩⟩) | (go_at_call 32; (with_reducible refine (HG.out _).mono ?_); rintro e w2 ⟨rfl, hb2⟩; have HB2 := Aside0.mk hb2; clear hb2))
      go_ret
      exact ⟨rfl, below_step (pw_below_drewN (below_alloc (Below.refl _ _) _) _) HB2.out⟩
  · have hS' : LDev.LargeS l0 = false := by cases hh : LDev.LargeS l0 with
      | true => exact absurd (.inl hh) hS
      | false => rfl
    have hshort : ¬ 70000 < x.f1.length := fun hh => hS (.inr hh)
    rw [hS'] at HL
    have hlen := LDev.small l0 hS'
    have HSM := Aside0.mk hlen.2
    have hlen1 := hlen.1
    have hd : decide (70000 < (x.f1.length : Int)) = false := decide_eq_false (by omega)
    have hd2 : decide (70000 < x.f1.length) = false := decide_eq_false hshort
    have hxl : x.f1.length ≤ 140737488351232 := by omega
    clear hS hS' hlen hshort
    go_enter Try.func9, Try.ntmps9
    go_wp2_with (first | (go_at_call 31; (with_reducible refine (notaryref48_Large.calls kL A0 c0 l0 false _ (Kd.C_alloc HR.out _) HC.out HL.out).mono ?_); rintro e w1 ⟨rfl, ⟨nd, rfl⟩⟩) | (go_at_call 33; (with_reducible refine (New.calls room _).mono ?_); rintro e w2 ⟨g, rfl, hg2, hb2, hd2⟩; (have HD2 : Aside0 (Dev w2 w.heap.size g (fun _ => False) rm 0 [] (.slice none 0 0)) := ⟨by rw [HRM.out] at hd2; exact dev_lower hd2 (by simp)⟩); (have HB2 : Aside0 (Below w.heap.size w w2) := ⟨below_step (pw_below_drewN (below_alloc (Below.refl _ _) _) _) hb2⟩); (have HX2 : Aside0 (w2.heap[w.heap.size]? = some (.cells #[.int .i64 x.f0, .slice Ax x.f1.length cx, .int .i64 x.f2] 66 (0, 0))) := ⟨blk_below (blk_drewN (blk_new _ _) _) hb2⟩); (have HG2 : Aside0 (w.heap.size < g) := ⟨by simp at hg2; omega⟩); clear hg2 hb2 hd2))
    go_loopg [8] l0.length (fun q v8 w' => ∃ (j : Nat) (sure : Int) (bs : List Int) (v : Value) (O : Nat → Prop), v8 = .int .i64 (j : Int) ∧ j + q = l0.length ∧ Aside0 (Dev w' w.heap.size g O rm sure bs v) ∧ Aside0 (Below w.heap.size w w') ∧ Aside0 (w'.heap[w.heap.size]? = some (.cells #[.int .i64 x.f0, .slice Ax x.f1.length cx, .int .i64 x.f2] 66 (0, 0))) ∧ Aside0 ((bs.length : Int) ≤ rm ∧ 0 ≤ sure ∧ sure ≤ bs.length ∧ ¬ O w.heap.size))
    case atStart => exact ⟨0, 0, [], _, _, by go_num, by omega, HD2, HB2, HX2, ⟨by have := HRR.out; simp; omega, by omega, by simp, fun h => h⟩⟩
    case round =>
      clear HD2 HB2 HX2
      obtain ⟨j, sure, bs, v, O, rfl, hjq, HD, HB, HX, HI⟩ := hrel
      cases gk with
      | zero =>
        obtain rfl : j = l0.length := by omega
        have hdl : decide ((l0.length : Int) < (l0.length : Int)) = false := by simp
        obtain ⟨q0, q1, q2, q3⟩ := HI.out
        obtain ⟨r0, r1⟩ := HRR.out
        have hlb : bs.length ≤ 65536 := by omega
        have HLB := Aside0.mk hlb
        have HSS := Aside0.mk (And.intro q1 q2)
        have hw38 : ∀ (u : Int), (if u = u then true else false) = true := fun _ => by simp
        clear hw38
        -- what is held: the block of the argument
        have HBX : Aside0 (∀ W' : World, Kept wr W' (fun k => k = g ∨ O k) → W'.heap[w.heap.size]? = some (.cells #[.int .i64 x.f0, .slice Ax x.f1.length cx, .int .i64 x.f2] 66 (0, 0))) := ⟨fun W' hk => blk_kept HX.out hk (fun hh => hh.elim (fun hh => by have := HG2.out; omega) HI.out.2.2.2)⟩
        obtain ⟨bs', hbs'⟩ : ∃ bs' : List Int, bs' = if rm - bs.length < x.f1.length then bs else bs ++ x.f1 := ⟨_, rfl⟩
        have hlb' : (bs'.length : Int) ≤ rm ∧ sure ≤ bs'.length := by
          rw [hbs']
          split
          · exact ⟨q0, q2⟩
          · rw [List.length_append]
            omega
        have HLB' : Aside0 (bs'.length ≤ 65536 ∧ sure ≤ bs'.length) := ⟨by omega⟩
        obtain ⟨mm, hm1, hm2, hm3, hm4⟩ := crash_len sure bs' x.f2 q1 hlb'.2
        have HM := Aside0.mk (And.intro hm1 (And.intro hm2 (And.intro hm3 hm4)))
        obtain ⟨kB, hB⟩ := Ev.rounds (LDev.begins_ev bs' mm hm1 (by omega))
        obtain ⟨kS, hSm⟩ := Ev.rounds (LDev.same_ev bs (by omega))
        rw [← hm2] at hB
        have HBEG := Aside0.mk hB
        have HSAM := Aside0.mk hSm
        obtain ⟨bc, hbc⟩ : ∃ bc, bc = crashB sure bs' x.f2 := ⟨_, rfl⟩
        have HBC := Aside0.mk hbc
        rw [← hbc] at HBEG hm4
        have hge : decide (sure ≤ (mm : Int)) = true := decide_eq_true hm3
        have hge2 : decide (sure ≤ (bc.length : Int)) = true := decide_eq_true (by rw [hm4]; exact hm3)
        have HCL := Aside0.mk hm4
        clear hB hSm hm1 hm2 hm3 hm4 hlb q0 q1 q2 q3 r0 r1 hlb' hbc
        by_cases hno : rm - bs.length < x.f1.length
        · have hbb : bs' = bs := by rw [hbs', if_pos hno]
          have HNO := Aside0.mk hno
          have HBB := Aside0.mk hbb
          clear hbs' hbb hno
          go_wp2_with (first | (go_at_call 38; (with_reducible refine (Bytes.calls g w.heap.size O rm sure bs v _ HD.out HLB.out).mono ?_); rintro e w3 ⟨v3, rfl, ho3, hb3⟩; (obtain ⟨A3, c3, rfl⟩ := Kd.R_slice ho3); (have hx3 : w3.cell? ⟨w.heap.size, 1, none⟩ = some (.slice Ax x.f1.length cx) := (blk_cell (HBX.out _ (Kept.of_below hb3 _)) 1).trans rfl); (have HK3 : Aside0 (Kept wr w3 (fun k => k = g ∨ O k)) := ⟨Kept.of_below hb3 _⟩); (have HD3 := Aside0.mk (dev_below HD.out hb3)); (have HO3 := Aside0.mk ho3); (have HB3 : Aside0 (Below w.heap.size w w3) := ⟨below_step HB.out hb3⟩); clear ho3 hb3 HD HB) | (go_at_call 39; (with_reducible refine (Sure.calls g w.heap.size O rm sure bs v _ HD3.out).mono ?_); rintro e w' ⟨rfl, rfl⟩) | (go_at_call 40; (with_reducible refine (Append.no g w.heap.size O rm sure bs v Ax cx x.f1 _ HD3.out HRR.out.2 HLB.out HRR.out.1 hxl HNO.out).mono ?_); rintro e w' ⟨rfl, ⟨nd, rfl⟩⟩; (have HD4 := Aside0.mk (dev_drewN HD3.out nd)); (have HK4 : Aside0 (Kept wr (w3.drewN nd) (fun k => k = g ∨ O k)) := ⟨Kept.drewN HK3.out nd⟩); (have HB4 : Aside0 (Below w.heap.size w (w3.drewN nd)) := ⟨pw_below_drewN HB3.out nd⟩); (have HO4 := Aside0.mk (Kd.R_drewN HO3.out nd)); clear HD3 HB3 HO3 HK3) | (go_at_call 38; (with_reducible refine (Bytes.calls g w.heap.size O rm sure bs v _ HD4.out HLB.out).mono ?_); rintro e w5 ⟨v5, rfl, ho5, hb5⟩; (obtain ⟨A5, c5, rfl⟩ := Kd.R_slice ho5); (have HK5 : Aside0 (Kept wr w5 (fun k => k = g ∨ O k)) := ⟨Kept.below HK4.out hb5⟩); (have HD5 := Aside0.mk (dev_below HD4.out hb5)); (have HO5 := Aside0.mk ho5); (have HP5 := Aside0.mk (Kd.R_below HO4.out hb5)); (have HB5 : Aside0 (Below w.heap.size w w5) := ⟨below_step HB4.out hb5⟩); clear ho5 hb5 HD4 HB4 HO4 HK4) | (go_at_call 37; (with_reducible refine (notaryref01_Same.calls kS A5 c5 bs A3 c3 bs true _ (Kd.R_reads' HO5.out).2.2 (Kd.R_reads' HO5.out).2.1 (Kd.R_reads' HP5.out).2.2 (Kd.R_reads' HP5.out).2.1 HSAM.out).mono ?_); rintro e w' ⟨rfl, ⟨nd6, rfl⟩⟩; (have HD6 := Aside0.mk (dev_drewN HD5.out nd6)); (have HK6 : Aside0 (Kept wr (w5.drewN nd6) (fun k => k = g ∨ O k)) := ⟨Kept.drewN HK5.out nd6⟩); (have HB6 : Aside0 (Below w.heap.size w (w5.drewN nd6)) := ⟨pw_below_drewN HB5.out nd6⟩); clear HD5 HB5 HO5 HP5 HK5) | (go_at_call 39; (with_reducible refine (Sure.calls g w.heap.size O rm sure bs v _ HD6.out).mono ?_); rintro e w' ⟨rfl, hw6⟩; (obtain ⟨W6, rfl⟩ : ∃ W6, W6 = w' := ⟨_, rfl⟩); (obtain ⟨v6, hv6⟩ : ∃ v6, v6 = v := ⟨_, rfl⟩); (have hd6 : Dev W6 w.heap.size g O rm sure bs' v6 := (by rw [← hw6, HBB.out, hv6]; exact HD6.out)); (have hb6 : Below w.heap.size w W6 := (by rw [← hw6]; exact HB6.out)); (have hk6 : Kept wr W6 (fun k => k = g ∨ O k) := (by rw [← hw6]; exact HK6.out)); (have HX6 : Aside0 (∀ W' : World, Kept W6 W' (fun k => k = g ∨ O k) → W'.heap[w.heap.size]? = some (.cells #[.int .i64 x.f0, .slice Ax x.f1.length cx, .int .i64 x.f2] 66 (0, 0))) := ⟨fun W' hk' => HBX.out W' (Kept.then_ hk6 hk' (fun _ h => .inl h))⟩); (have HG6 : Aside0 (g < W6.heap.size) := ⟨dev_lt hd6⟩); clear HD6 HB6 HK6 hw6 hv6; (have HD6 := Aside0.mk hd6); (have HB6 := Aside0.mk hb6); clear hd6 hb6 hk6) | (go_at_call 38; (with_reducible refine (Bytes.calls g w.heap.size _ rm sure bs' v6 _ HD6.out HLB'.out.1).mono ?_); rintro e w7 ⟨v7, rfl, ho7, hb7⟩; (obtain ⟨A7, c7, rfl⟩ := Kd.R_slice ho7); (have hbx7 := HX6.out _ (Kept.of_below hb7 _)); (have hx7 : w7.cell? ⟨w.heap.size, 2, none⟩ = some (.int .i64 x.f2) := (blk_cell hbx7 2).trans rfl); (have HD7 := Aside0.mk (dev_bound (dev_below HD6.out hb7))); (have HO7 := Aside0.mk ho7); (have HB7 : Aside0 (Below w.heap.size w w7) := ⟨below_step HB6.out hb7⟩); (have HL7 : Aside0 (W6.heap.size ≤ w7.heap.size) := ⟨hb7.size⟩); clear hbx7 ho7 hb7 HD6 HB6 HX6) | (go_at_call 41; (with_reducible refine (Crash.calls g _ rm sure bs' v6 x.f2 w _ HD7.out HB7.out HLB'.out.1 HSS.out.1 HLB'.out.2).mono ?_); rintro e w8 ⟨rfl, v8, hd8, ho8, hk8, hb8⟩; (have hd8c := hd8); rw [show List.take (sure + heldN x.f2 (bs'.length - sure)).toNat bs' = bc from HBC.out.symm] at hd8c; (have HD8 := Aside0.mk hd8c); clear hd8c; (have HB8 := Aside0.mk hb8); (have HO8 : Aside0 (Kd.R (Kd.int .u8) T8 w8 W6.heap.size (fun _ => True) (.slice A7 bs'.length c7) bs') := ⟨told (O := fun _ => False) HO7.out (Kept.mono hk8 (fun k h => .inl h)) HG6.out (fun k h => h.elim)⟩); clear hd8 ho8 hk8 hb8 HD7 HB7 HO7) | (go_at_call 38; (with_reducible refine (Bytes.calls g w.heap.size _ rm bc.length bc v8 _ HD8.out (by rw [HCL.out]; exact Nat.le_trans HM.out.1 HLB'.out.1)).mono ?_); rintro e w9 ⟨v9, rfl, ho9, hb9⟩; (obtain ⟨A9, c9, rfl⟩ := Kd.R_slice ho9); (have HD9 := Aside0.mk (dev_below HD8.out hb9)); (have HO9 := Aside0.mk ho9); (have HP9 := Aside0.mk (Kd.R_below HO8.out hb9)); (have HB9 : Aside0 (Below w.heap.size w w9) := ⟨below_step HB8.out hb9⟩); clear ho9 hb9 HD8 HB8 HO8) | (go_at_call 42; (with_reducible refine (notaryref48_Begins.calls kB A7 c7 bs' A9 c9 bc true _ (Kd.R_reads' HP9.out).2.2 (Kd.R_reads' HP9.out).2.1 (Kd.R_reads' HO9.out).2.2 (Kd.R_reads' HO9.out).2.1 HBEG.out).mono ?_); rintro e w' ⟨rfl, ⟨nda, rfl⟩⟩; (have HDa := Aside0.mk (dev_drewN HD9.out nda)); (have HBa : Aside0 (Below w.heap.size w (w9.drewN nda)) := ⟨pw_below_drewN HB9.out nda⟩); clear HD9 HB9 HO9 HP9) | (go_at_call 39; (with_reducible refine (Sure.calls g w.heap.size _ rm bc.length bc v8 _ HDa.out).mono ?_); rintro e w' ⟨rfl, rfl⟩) | (go_at_call 32; (with_reducible refine (awake.calls _).mono ?_); rintro e wb ⟨rfl, hbb⟩; have HBb := Aside0.mk hbb; clear hbb))
          go_ret
          exact ⟨rfl, below_step HBa.out HBb.out⟩
        · have hbb : bs' = bs ++ x.f1 := by rw [hbs', if_neg hno]
          have HNO := Aside0.mk hno
          have HBB := Aside0.mk hbb
          clear hbs' hbb hno
          go_wp2_with (first | (go_at_call 38; (with_reducible refine (Bytes.calls g w.heap.size O rm sure bs v _ HD.out HLB.out).mono ?_); rintro e w3 ⟨v3, rfl, ho3, hb3⟩; (obtain ⟨A3, c3, rfl⟩ := Kd.R_slice ho3); (have hx3 : w3.cell? ⟨w.heap.size, 1, none⟩ = some (.slice Ax x.f1.length cx) := (blk_cell (HBX.out _ (Kept.of_below hb3 _)) 1).trans rfl); (have HK3 : Aside0 (Kept wr w3 (fun k => k = g ∨ O k)) := ⟨Kept.of_below hb3 _⟩); (have HD3 := Aside0.mk (dev_below HD.out hb3)); (have HB3 : Aside0 (Below w.heap.size w w3) := ⟨below_step HB.out hb3⟩); clear ho3 hb3 HD HB) | (go_at_call 39; (with_reducible refine (Sure.calls g w.heap.size O rm sure bs v _ HD3.out).mono ?_); rintro e w' ⟨rfl, rfl⟩) | (go_at_call 40; (with_reducible refine (Append.yes g O rm sure bs v Ax cx x.f1 w _ HD3.out HB3.out (Kd.C_below HXR.out HB3.out) HRR.out.2 HLB.out HRR.out.1 (by have := HNO.out; omega)).mono ?_); rintro e W6 ⟨rfl, v6, hd6, hk6, hb6⟩; (have HX6 : Aside0 (∀ W' : World, Kept W6 W' (fun k => k = g ∨ (O k ∨ w3.heap.size ≤ k)) → W'.heap[w.heap.size]? = some (.cells #[.int .i64 x.f0, .slice Ax x.f1.length cx, .int .i64 x.f2] 66 (0, 0))) := ⟨fun W' hk' => blk_kept (HBX.out W6 (Kept.then_ HK3.out hk6 (fun _ h => .inl h))) hk' (fun hh => hh.elim (fun hh => by have := HG2.out; omega) (fun hh => hh.elim HI.out.2.2.2 (fun hh => by have := blk_lt (HBX.out _ HK3.out); omega)))⟩); (have HD6 : Aside0 (Dev W6 w.heap.size g (fun k => O k ∨ w3.heap.size ≤ k) rm sure bs' v6) := ⟨by rw [HBB.out]; exact hd6⟩); (have HB6 := Aside0.mk hb6); (have HG6 : Aside0 (g < W6.heap.size) := ⟨dev_lt hd6⟩); clear HD3 HB3 HK3 hd6 hk6 hb6) | (go_at_call 38; (with_reducible refine (Bytes.calls g w.heap.size _ rm sure bs' v6 _ HD6.out HLB'.out.1).mono ?_); rintro e w7 ⟨v7, rfl, ho7, hb7⟩; (obtain ⟨A7, c7, rfl⟩ := Kd.R_slice ho7); (have hbx7 := HX6.out _ (Kept.of_below hb7 _)); (have hx7 : w7.cell? ⟨w.heap.size, 2, none⟩ = some (.int .i64 x.f2) := (blk_cell hbx7 2).trans rfl); (have HD7 := Aside0.mk (dev_bound (dev_below HD6.out hb7))); (have HO7 := Aside0.mk ho7); (have HB7 : Aside0 (Below w.heap.size w w7) := ⟨below_step HB6.out hb7⟩); (have HL7 : Aside0 (W6.heap.size ≤ w7.heap.size) := ⟨hb7.size⟩); clear hbx7 ho7 hb7 HD6 HB6 HX6) | (go_at_call 41; (with_reducible refine (Crash.calls g _ rm sure bs' v6 x.f2 w _ HD7.out HB7.out HLB'.out.1 HSS.out.1 HLB'.out.2).mono ?_); rintro e w8 ⟨rfl, v8, hd8, ho8, hk8, hb8⟩; (have hd8c := hd8); rw [show List.take (sure + heldN x.f2 (bs'.length - sure)).toNat bs' = bc from HBC.out.symm] at hd8c; (have HD8 := Aside0.mk hd8c); clear hd8c; (have HB8 := Aside0.mk hb8); (have HO8 : Aside0 (Kd.R (Kd.int .u8) T8 w8 W6.heap.size (fun _ => True) (.slice A7 bs'.length c7) bs') := ⟨told (O := fun _ => False) HO7.out (Kept.mono hk8 (fun k h => .inl h)) HG6.out (fun k h => h.elim)⟩); clear hd8 ho8 hk8 hb8 HD7 HB7 HO7) | (go_at_call 38; (with_reducible refine (Bytes.calls g w.heap.size _ rm bc.length bc v8 _ HD8.out (by rw [HCL.out]; exact Nat.le_trans HM.out.1 HLB'.out.1)).mono ?_); rintro e w9 ⟨v9, rfl, ho9, hb9⟩; (obtain ⟨A9, c9, rfl⟩ := Kd.R_slice ho9); (have HD9 := Aside0.mk (dev_below HD8.out hb9)); (have HO9 := Aside0.mk ho9); (have HP9 := Aside0.mk (Kd.R_below HO8.out hb9)); (have HB9 : Aside0 (Below w.heap.size w w9) := ⟨below_step HB8.out hb9⟩); clear ho9 hb9 HD8 HB8 HO8) | (go_at_call 42; (with_reducible refine (notaryref48_Begins.calls kB A7 c7 bs' A9 c9 bc true _ (Kd.R_reads' HP9.out).2.2 (Kd.R_reads' HP9.out).2.1 (Kd.R_reads' HO9.out).2.2 (Kd.R_reads' HO9.out).2.1 HBEG.out).mono ?_); rintro e w' ⟨rfl, ⟨nda, rfl⟩⟩; (have HDa := Aside0.mk (dev_drewN HD9.out nda)); (have HBa : Aside0 (Below w.heap.size w (w9.drewN nda)) := ⟨pw_below_drewN HB9.out nda⟩); clear HD9 HB9 HO9 HP9) | (go_at_call 39; (with_reducible refine (Sure.calls g w.heap.size _ rm bc.length bc v8 _ HDa.out).mono ?_); rintro e w' ⟨rfl, rfl⟩) | (go_at_call 32; (with_reducible refine (awake.calls _).mono ?_); rintro e wb ⟨rfl, hbb⟩; have HBb := Aside0.mk hbb; clear hbb))
          go_ret
          exact ⟨rfl, below_step HBa.out HBb.out⟩
      | succ q =>
        have hj : (j : Int) < (l0.length : Int) := by omega
        have hj0 : (0 : Int) ≤ (j : Int) := by omega
        have hdj : decide ((j : Int) < (l0.length : Int)) = true := decide_eq_true hj
        have hw : IntKind.i64.wrap ((j : Int) + 1) = (j : Int) + 1 := IntWalk.i64_in _ (by omega)
        obtain ⟨ad, A1, c1, hA, e0, e1, e2, l1, g1⟩ := at_T66 (Kd.C_below HR.out HB.out) (j : Int) hj0 (by omega)
        subst hA
        have hmem : rd_T66 l0 (j : Int) ∈ l0 := by
          unfold rd_T66
          rw [Int.toNat_natCast, List.getD_eq_getElem?_getD, List.getElem?_eq_getElem (by omega)]
          exact List.getElem_mem _
        have HY := Aside0.mk (HSM.out _ hmem)
        clear hmem
        generalize rd_T66 l0 (j : Int) = y at *
        simp only [Int.toNat_natCast] at e0 e1 e2
        have HCALL := Aside0.mk (do.calls g O rm sure bs v y A1 c1 w wr HD.out HB.out g1 HRR.out.2 HRR.out.1 HI.out.1 HI.out.2.1 HI.out.2.2.1 (by have := HY.out; omega))
        have HK := Aside0.mk (LDev.do_keeps rm sure bs y HI.out.1 HI.out.2.1 HI.out.2.2.1)
        clear l1 g1
        generalize doS rm sure bs y = s at *
        go_wp2_with (go_at_call 35; (with_reducible refine (HCALL.out).mono ?_); rintro e w1 ⟨rfl, v1, hd1, hk1, hb1⟩; have HD1 := Aside0.mk hd1; have HK1 := Aside0.mk hk1; have HB1 := Aside0.mk hb1; clear hd1 hk1 hb1)
        go_roundg q
        case measure => omega
        case rel => exact ⟨j + 1, s.1, s.2.1, v1, _, by go_num, by omega, HD1, HB1, ⟨blk_kept HX.out HK1.out (fun hh => hh.elim (fun hh => by have := HG2.out; omega) HI.out.2.2.2)⟩, ⟨HK.out.1, HK.out.2.1, HK.out.2.2, fun hh => hh.elim HI.out.2.2.2 (fun hh => by have := blk_lt HX.out; omega)⟩⟩
end Go.Proofs.Ytlbabncagdkjpaa.DDev
