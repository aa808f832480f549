/- The law that tells what is done to a device, walked. -/
import Derived.Test.YtlbabncagdkjpaaDLaw48
import Derived.Deep.RegionHeld3
import Derived.Test.YtlbabncagdkjpaaPAllx11
import Derived.Test.YtlbabncagdkjpaaPAllx12
namespace Go.Proofs.Ytlbabncagdkjpaa.DDev
open Go.RowKit Go.Proofs.Ytlbabncagdkjpaa.PAll Go.Proofs.YtlbabncagdkjpaaW.PrintWords Go.Proofs.YtlbabncagdkjpaaW.PrintLast Go.Proofs.YtlbabncagdkjpaaW.PrintMore
set_option linter.unusedVariables false
set_option linter.unusedSimpArgs false
theorem dev_alloc {W : World} {B g : Nat} {O : Nat → Prop} {room sure : Int} {bs : List Int} {v : Value} (h : Dev W B g O room sure bs v) (o : Obj) : Dev (W.alloc o) B g O room sure bs v := dev_below h (below_alloc (Below.refl _ _) o)
theorem dev_drew {W : World} {B g : Nat} {O : Nat → Prop} {room sure : Int} {bs : List Int} {v : Value} (h : Dev W B g O room sure bs v) : Dev W.drew B g O room sure bs v := dev_below h (below_drew (Below.refl _ _))
abbrev TO : Nat := 66
abbrev TR : Nat := 62
set_option maxHeartbeats 16000000 in
set_option maxRecDepth 100000 in
theorem DeviceDoes.calls (room : Int) (A0 : Option Addr) (c0 : Nat) (l0 : List Opn) (w : World) (hr0 : Kd.C k66 w A0 l0.length l0) (hc0 : l0.length ≤ c0) (hm : l0.length ≤ 9223372036854775807) :
    Calls Try.prog 8 #[.int .i64 room, .slice A0 l0.length c0] w fun e w' => e = .returned (.bool true) ∧ Below w.heap.size w w' := by
  obtain ⟨kL, hL⟩ := Ev.rounds (LDev.large_ev l0 hm)
  have HR := Aside0.mk hr0
  have HC := Aside0.mk hc0
  have HL := Aside0.mk hL
  obtain ⟨rm, hrm⟩ : ∃ rm, heldN room 65536 = rm := ⟨_, rfl⟩
  have hrr := LDev.held_range room 65536 (by decide)
  rw [hrm] at hrr
  have HRM := Aside0.mk hrm
  have HRR := Aside0.mk hrr
  have hN : notaryref48_New.f room = some (rm, 0, []) := by rw [LDev.ref_new, hrm]
  have HN := Aside0.mk hN
  clear hr0 hc0 hL hrm hrr hN
  by_cases hS : LDev.LargeS l0 = true
  · rw [hS] at HL
    clear hS
    go_enter Try.func8, Try.ntmps8
    go_wp2_with (first | (go_at_call 31; (with_reducible refine (notaryref48_Large.calls kL A0 c0 l0 true _ HR.out HC.out HL.out).mono ?_); rintro e w1 ⟨rfl, ⟨nd, rfl⟩⟩) | (go_at_call 32; (with_reducible refine (awake.calls _).mono ?_); rintro e w2 ⟨rfl, hb2⟩; have HB2 := Aside0.mk hb2; clear hb2))
    go_ret
    exact ⟨rfl, below_step (pw_below_drewN (Below.refl _ _) _) HB2.out⟩
  · have hS' : LDev.LargeS l0 = false := by simpa using hS
    rw [hS'] at HL
    have hlen := LDev.small l0 hS'
    have HSM := Aside0.mk hlen.2
    have hlen1 := hlen.1
    clear hS hS' hlen
    go_enter Try.func8, Try.ntmps8
    go_wp2_with (first | (go_at_call 31; (with_reducible refine (notaryref48_Large.calls kL A0 c0 l0 false _ HR.out HC.out HL.out).mono ?_); rintro e w1 ⟨rfl, ⟨nd, rfl⟩⟩) | (go_at_call 33; (with_reducible refine (New.calls room _).mono ?_); rintro e w2 ⟨g, rfl, hg2, hb2, hd2⟩; (have HD2 : Aside0 (Dev w2 w.heap.size g (fun _ => False) rm 0 [] (.slice none 0 0)) := ⟨by rw [HRM.out] at hd2; exact hd2⟩); (have HB2 : Aside0 (Below w.heap.size w w2) := ⟨below_step (pw_below_drewN (Below.refl _ _) _) hb2⟩); clear hg2 hb2 hd2) | (go_at_call 34; (with_reducible refine (notaryref48_New.calls room rm 0 [] _ HN.out).mono ?_); rintro e w3 ⟨v3, rfl, ho3, hb3⟩; (have HD3 := Aside0.mk (dev_below HD2.out hb3)); (have HB3 : Aside0 (Below w.heap.size w w3) := ⟨below_step HB2.out hb3⟩); (have HU3 : Aside0 (Kd.R (Kd.int .u8) T8 w3 w.heap.size (fun k => w2.heap.size ≤ k ∧ k < w3.heap.size) v3 []) := ⟨Kd.R_lower (Kd.R_mono (Kd.R_bound ho3) (fun k hk => ⟨hk.2.1, hk.2.2.1⟩)) HB2.out.size⟩); (have HG3 : Aside0 (g < w2.heap.size) := ⟨dev_lt HD2.out⟩); (have HS3 : Aside0 (w2.heap.size ≤ w3.heap.size) := ⟨hb3.size⟩); (obtain ⟨A3, c3, rfl⟩ := Kd.R_slice HU3.out); clear ho3 hb3 HD2 HB2))
    have hgb : g < w3.heap.size := by have := HG3.out; have := HS3.out; omega
    have HGB := Aside0.mk hgb
    have HBS : Aside0 (w.heap.size ≤ w3.heap.size) := ⟨HB3.out.size⟩
    clear hgb
    go_loopg [7] l0.length (fun q v7 w' => ∃ (j : Nat) (sure : Int) (bs : List Int) (v : Value) (O : Nat → Prop) (P : Nat → Prop) (Au : Option Addr) (cu : Nat), v7 = .int .i64 (j : Int) ∧ j + q = l0.length ∧ Aside0 (Dev w' w.heap.size g O rm sure bs v) ∧ Aside0 (Below w.heap.size w w') ∧ Aside0 (w'.heap[w3.heap.size]? = some (.cells #[.int .i64 rm, .int .i64 sure, .slice Au bs.length cu] TR (0, 0))) ∧ Aside0 (Kd.R (Kd.int .u8) T8 w' w.heap.size P (.slice Au bs.length cu) bs) ∧ Aside0 ((bs.length : Int) ≤ rm ∧ 0 ≤ sure ∧ sure ≤ bs.length) ∧ Aside0 ((∀ k, O k → k ≠ w3.heap.size ∧ k < w'.heap.size) ∧ ∀ k, P k → w.heap.size ≤ k ∧ k < w'.heap.size ∧ k ≠ g ∧ k ≠ w3.heap.size ∧ ¬ O k))
    case atStart =>
      refine ⟨0, 0, [], _, _, _, A3, c3, by go_num, by omega, ⟨dev_below HD3.out (below_alloc (Below.refl _ _) _)⟩, ⟨below_alloc HB3.out _⟩, ⟨blk_new _ _⟩, ⟨Kd.R_alloc HU3.out _⟩, ⟨by have := HRR.out; simp; omega, by omega, by simp⟩, ⟨fun k h => h.elim, fun k h => ?_⟩⟩
      have h1 := HG3.out
      have h2 := HB3.out.size
      have h3 := HS3.out
      refine ⟨by have := HD3.out.2.1; omega, by simp; omega, by omega, by omega, fun h => h⟩
    case round =>
      clear HD3 HB3 HU3
      obtain ⟨j, sure, bs, v, O, P, Au, cu, rfl, hjq, HD, HB, HX, HU, HI, HDIS⟩ := hrel
      cases gk with
      | zero =>
        obtain rfl : j = l0.length := by omega
        have hdl : decide ((l0.length : Int) < (l0.length : Int)) = false := by simp
        go_wp2_with (go_at_call 32; (with_reducible refine (awake.calls _).mono ?_); rintro e wb ⟨rfl, hbb⟩; have HBb := Aside0.mk hbb; clear hbb)
        go_ret
        exact ⟨rfl, below_step HB.out HBb.out⟩
      | succ q =>
        have hj : (j : Int) < (l0.length : Int) := by omega
        have hj0 : (0 : Int) ≤ (j : Int) := by omega
        have hdj : decide ((j : Int) < (l0.length : Int)) = true := decide_eq_true hj
        have hw : IntKind.i64.wrap ((j : Int) + 1) = (j : Int) + 1 := IntWalk.i64_in _ (by omega)
        have hAd : ∃ ad, A0 = some ad := by
          obtain ⟨ad, A1, c1, hA, _⟩ := at_T66 HR.out (j : Int) hj0 (by omega)
          exact ⟨ad, hA⟩
        obtain ⟨ad, rfl⟩ := hAd
        obtain ⟨ad', A1, c1, hA, e0, e1, e2, l1, g1⟩ := at_T66 HR.out (j : Int) hj0 (by omega)
        obtain rfl := Option.some.inj hA
        have hmem : rd_T66 l0 (j : Int) ∈ l0 := by
          unfold rd_T66
          rw [Int.toNat_natCast, List.getD_eq_getElem?_getD, List.getElem?_eq_getElem (by omega)]
          exact List.getElem_mem _
        have HY := Aside0.mk (HSM.out _ hmem)
        clear hmem hA
        generalize rd_T66 l0 (j : Int) = y at *
        simp only [Int.toNat_natCast] at e0 e1 e2
        have HEL : Aside0 (∀ W' : World, Below w.heap.size w W' → W'.cell? (ad.add (j * 3)) = some (.int .i64 y.f0) ∧ W'.cell? ⟨(ad.add (j * 3)).block, (ad.add (j * 3)).off + 1, none⟩ = some (.slice A1 y.f1.length c1) ∧ W'.cell? ⟨(ad.add (j * 3)).block, (ad.add (j * 3)).off + 2, none⟩ = some (.int .i64 y.f2)) := ⟨fun W' hb => ⟨pw_cell_below hb e0, pw_cell_below hb e1, pw_cell_below hb e2⟩⟩
        have HG1 := Aside0.mk g1
        have HL1 := Aside0.mk l1
        have HCALL := Aside0.mk (do.calls g O rm sure bs v y A1 c1 w wr HD.out HB.out (Kd.C_below g1 HB.out) HRR.out.2 HRR.out.1 HI.out.1 HI.out.2.1 HI.out.2.2 (by have := HY.out; omega))
        have HK := Aside0.mk (LDev.do_keeps rm sure bs y HI.out.1 HI.out.2.1 HI.out.2.2)
        have HEQ := Aside0.mk (LDev.do_eq rm sure bs y HRR.out.2 HRR.out.1 HI.out.1 HI.out.2.1 HI.out.2.2 (by have := HY.out; omega))
        obtain ⟨t0, t1, t2⟩ := HEL.out wr HB.out
        clear e0 e1 e2 l1 g1
        generalize doS rm sure bs y = s at *
        obtain ⟨s1, bs1, er⟩ := s
        simp only at HCALL HK HEQ
        go_wp2_with (go_at_call 35; (with_reducible refine (HCALL.out).mono ?_); rintro e w1 ⟨rfl, v1, hd1, hk1, hb1⟩; have HD1 := Aside0.mk (dev_bound hd1); have HK1 := Aside0.mk hk1; have HB1 := Aside0.mk hb1; clear hd1 hk1 hb1)
        have hgg : w3.heap.size ≠ g := Nat.ne_of_gt HGB.out
        have hng1 : ¬ (w3.heap.size = g ∨ O w3.heap.size) := fun hh => hh.elim hgg (fun hh => (HDIS.out.1 _ hh).1 rfl)
        have hP1 : ∀ k, P k → ¬ (k = g ∨ O k) := fun k hk hh => hh.elim (HDIS.out.2 k hk).2.2.1 (HDIS.out.2 k hk).2.2.2.2
        have hX1 := blk_kept HX.out HK1.out hng1
        have HX1 := Aside0.mk hX1
        have HU1 := Aside0.mk (Kd.R_kept HU.out HK1.out hP1)
        have z0 : w1.cell? ⟨w3.heap.size, 0, none⟩ = some (.int .i64 rm) := (blk_cell hX1 0).trans rfl
        have z1 : w1.cell? ⟨w3.heap.size, 1, none⟩ = some (.int .i64 sure) := (blk_cell hX1 1).trans rfl
        have z2 : w1.cell? ⟨w3.heap.size, 2, none⟩ = some (.slice Au bs.length cu) := (blk_cell hX1 2).trans rfl
        obtain ⟨r0, r1, r2⟩ := HEL.out w1 HB1.out
        have hPX : ¬ P w3.heap.size := fun hh => (HDIS.out.2 _ hh).2.2.2.1 rfl
        have HPX := Aside0.mk hPX
        have HPW : Aside0 (∀ k, P k → k ≠ w1.heap.size) := ⟨fun k hk => by have h1 := (HDIS.out.2 k hk).2.1; have h2 := HK1.out.1; omega⟩
        have HPO : Aside0 (∀ k, ((O k ∨ wr.heap.size ≤ k) ∧ w.heap.size ≤ k ∧ k < w1.heap.size) → ¬ P k) := ⟨fun k hk hp => by
          have h1 := HDIS.out.2 k hp
          rcases hk.1 with h | h
          · exact h1.2.2.2.2 h
          · omega⟩
        have HPG : Aside0 (¬ P g) := ⟨fun hh => (HDIS.out.2 _ hh).2.2.1 rfl⟩
        have HOX : Aside0 (¬ ((O w3.heap.size ∨ wr.heap.size ≤ w3.heap.size) ∧ w.heap.size ≤ w3.heap.size ∧ w3.heap.size < w1.heap.size)) := ⟨fun hh => by
          have h1 := blk_lt HX.out
          rcases hh.1 with h | h
          · exact (HDIS.out.1 _ h).1 rfl
          · omega⟩
        have HX1L : Aside0 (w3.heap.size < w1.heap.size ∧ g < w1.heap.size ∧ wr.heap.size ≤ w1.heap.size) := ⟨by have := HK1.out.1; have := blk_lt HX.out; have := dev_lt HD1.out; omega⟩
        clear hng1 hP1 hX1 hPX t0 t1 t2 hgg
        obtain ⟨kS, hsm⟩ := Ev.rounds (LDev.same_ev bs1 (by have := HK.out.1; have := HRR.out.2; omega))
        have HSAM := Aside0.mk hsm
        have HLB1 : Aside0 (bs1.length ≤ 65536) := ⟨by have := HK.out.1; have := HRR.out.2; omega⟩
        clear hsm
        have nz0 := World.new_ne w1 _ z0
        have nz1 := World.new_ne w1 _ z1
        have nz2 := World.new_ne w1 _ z2
        have nr0 := World.new_ne w1 _ r0
        have nr1 := World.new_ne w1 _ r1
        have nr2 := World.new_ne w1 _ r2
        go_region_held3 (fun w' => w'.cell? ⟨w3.heap.size, 0, none⟩ = some (.int .i64 rm) ∧ w'.cell? ⟨w3.heap.size, 1, none⟩ = some (.int .i64 sure) ∧ w'.cell? ⟨w3.heap.size, 2, none⟩ = some (.slice Au bs.length cu) ∧ w'.cell? (ad.add (j * 3)) = some (.int .i64 y.f0) ∧ w'.cell? ⟨(ad.add (j * 3)).block, (ad.add (j * 3)).off + 1, none⟩ = some (.slice A1 y.f1.length c1) ∧ w'.cell? ⟨(ad.add (j * 3)).block, (ad.add (j * 3)).off + 2, none⟩ = some (.int .i64 y.f2)) (go_keep) (first | (go_at_call 36; refine (notaryref48_Do.calls rm sure P (.slice Au bs.length cu) bs y.f0 A1 c1 y.f1 y.f2 rm s1 bs1 er w _ ?h1 ?h2 ?h3 HL1.out HEQ.out).mono ?_; (case h1 => repeat (first | exact HB1.out | apply below_alloc | apply below_drew)); (case h2 => repeat (first | exact HU1.out | apply Kd.R_alloc | apply Kd.R_drew)); (case h3 => exact Kd.C_kept_came (Kd.heap_int .u8) HG1.out (by repeat (first | exact HB1.out | apply below_alloc | apply below_drew)) (fun k hk => (HDIS.out.2 k hk).1)); rintro e w2 ⟨v2, rfl, ho2, hb2, hk2⟩; (obtain ⟨A2, c2, rfl⟩ := Kd.R_slice ho2); (have hx2 := blk_kept (g := w3.heap.size) (by repeat (first | exact HX1.out | apply blk_alloc | apply blk_drew)) hk2 HPX.out); (have y0 : w2.cell? ⟨w3.heap.size, 0, none⟩ = some (.int .i64 rm) := (blk_cell hx2 0).trans rfl); (have y1 : w2.cell? ⟨w3.heap.size, 1, none⟩ = some (.int .i64 sure) := (blk_cell hx2 1).trans rfl); (have y2 : w2.cell? ⟨w3.heap.size, 2, none⟩ = some (.slice Au bs.length cu) := (blk_cell hx2 2).trans rfl); (obtain ⟨p0, p1, p2⟩ := HEL.out w2 hb2); (have ny0 := World.new_ne w2 _ y0); (have ny1 := World.new_ne w2 _ y1); (have ny2 := World.new_ne w2 _ y2); (have np0 := World.new_ne w2 _ p0); (have np1 := World.new_ne w2 _ p1); (have np2 := World.new_ne w2 _ p2); (have fy0 := blk_frozen hx2 0); (have fy1 := blk_frozen hx2 1); (have fy2 := blk_frozen hx2 2); (try (with_reducible have hk9 : Kept (w1.alloc (.cells #[.int .i64 0, .int .i64 0, .slice none 0 0] TR)).drew w2 (fun k_ => P k_) := hk2); (have hb9 : w2.heap[w1.heap.size]? = some (.cells #[.int .i64 0, .int .i64 0, .slice none 0 0] TR (0, 0)) := blk_kept (blk_drew (blk_new _ _)) hk9 (fun hh => HPW.out _ hh rfl)); have HB9 := Aside0.mk hb9; have u0 : w2.cell? ⟨w1.heap.size, 0, none⟩ = some (.int .i64 0) := (blk_cell hb9 0).trans rfl; have u1 : w2.cell? ⟨w1.heap.size, 1, none⟩ = some (.int .i64 0) := (blk_cell hb9 1).trans rfl; have u2 : w2.cell? ⟨w1.heap.size, 2, none⟩ = some (.slice none 0 0) := (blk_cell hb9 2).trans rfl; have v0 := blk_frozen hb9 0; have v1' := blk_frozen hb9 1; have v2' := blk_frozen hb9 2; clear hb9 hk9); (have HX2 := Aside0.mk hx2); (have HD2 : Aside0 (Dev w2 w.heap.size g _ rm s1 bs1 v1) := ⟨dev_kept (W := _) (by repeat (first | exact HD1.out | apply dev_alloc | apply dev_drew)) hk2 HPG.out HPO.out⟩); (have HU2 := Aside0.mk (Kd.R_bound ho2)); (have HZ2 := Aside0.mk hk2.1); (have HB2 := Aside0.mk hb2); (have HK2 := Aside0.mk hk2); clear hx2 ho2 hb2 hk2))
        all_goals
          have fa0 : ∀ o, (w2.alloc o).frozen? ⟨w3.heap.size, 0, none⟩ = false := fun o => blk_frozen (blk_alloc HX2.out o) 0
          have fa1 : ∀ o, (w2.alloc o).frozen? ⟨w3.heap.size, 1, none⟩ = false := fun o => blk_frozen (blk_alloc HX2.out o) 1
          have fa2 : ∀ o, (w2.alloc o).frozen? ⟨w3.heap.size, 2, none⟩ = false := fun o => blk_frozen (blk_alloc HX2.out o) 2
        all_goals go_wp2
        all_goals
          have HGG : Aside0 (w3.heap.size ≠ g) := ⟨Nat.ne_of_gt HGB.out⟩
        · obtain ⟨bx, hbx⟩ : ∃ bx, bx = w2.heap.size := ⟨_, rfl⟩
          obtain ⟨W4, hW4⟩ : ∃ W4, W4 = ((((w2.alloc (.cells #[.int .i64 rm, .int .i64 s1, .slice A2 bs1.length c2] TR)).setCell ⟨w3.heap.size, 0, none⟩ (.int .i64 rm)).setCell ⟨w3.heap.size, 1, none⟩ (.int .i64 s1)).setCell ⟨w3.heap.size, 2, none⟩ (.slice A2 bs1.length c2)) := ⟨_, rfl⟩
          rw [← hW4]
          have HK4 : Aside0 (Kept w2 W4 (fun k => k = w3.heap.size ∨ k = bx)) := ⟨by rw [hW4, hbx]; repeat (first | exact Kept.refl _ _ | apply Kept.alloc | (refine Kept.setCell ?_ (.inl (.inl rfl)) _))⟩
          have HX4 : Aside0 (W4.heap[w3.heap.size]? = some (.cells #[.int .i64 rm, .int .i64 s1, .slice A2 bs1.length c2] TR (0, 0))) := ⟨by rw [hW4]; exact blk_put (blk_put (blk_put (blk_alloc HX2.out _) 0 _ rfl) 1 _ rfl) 2 _ rfl⟩
          have HB4 : Aside0 (Below w.heap.size w W4) := ⟨by rw [hW4]; repeat (first | exact HB2.out | apply below_alloc | (refine below_set ?_ HBS.out))⟩
          have HBX : Aside0 (w1.heap.size ≤ bx ∧ w.heap.size ≤ w1.heap.size) := ⟨by rw [hbx]; refine ⟨?_, HB1.out.size⟩; first | exact Nat.le_refl _ | (have := HZ2.out; simp at this; omega)⟩
          have HU4 : Aside0 (Kd.R (Kd.int .u8) T8 W4 w.heap.size (fun k => P k ∨ (w1.heap.size ≤ k ∧ k < w2.heap.size ∧ k ≠ bx)) (.slice A2 bs1.length c2) bs1) := ⟨Kd.R_kept (Kd.R_mono HU2.out (fun k hk => by
            have h1 := hk.2.2.1
            rcases hk.1 with h | h
            · exact .inl h
            · exact .inr ⟨by simpa using h, h1, by rw [hbx]; omega⟩)) HK4.out (fun k hk hh => by
              have h0 := HX1L.out
              rcases hk with h | h
              · rcases hh with rfl | rfl
                · exact HPX.out h
                · have := (HDIS.out.2 _ h).2.1; have := HBX.out.1; omega
              · rcases hh with rfl | rfl
                · omega
                · exact h.2.2 rfl)⟩
          clear hW4 hbx
          have HD4 : Aside0 (Dev W4 w.heap.size g (fun k => (O k ∨ wr.heap.size ≤ k) ∧ w.heap.size ≤ k ∧ k < w1.heap.size) rm s1 bs1 v1) := ⟨dev_kept HD2.out HK4.out (fun hh => by
            rcases hh with h | h
            · exact HGG.out h.symm
            · have := HX1L.out.2.1
              have := HBX.out.1
              omega) (fun k hk hh => by
            rcases hh with rfl | rfl
            · exact HOX.out hk
            · have := HBX.out.1
              have := hk.2.2
              omega)⟩
          obtain ⟨bk, hbk⟩ : ∃ bk, bk = W4.heap[w3.heap.size]? := ⟨_, rfl⟩
          have x1 : W4.cell? ⟨w3.heap.size, 1, none⟩ = some (.int .i64 s1) := (blk_cell HX4.out 1).trans rfl
          have x2 : W4.cell? ⟨w3.heap.size, 2, none⟩ = some (.slice A2 bs1.length c2) := (blk_cell HX4.out 2).trans rfl
          have hne : (er != er) = false := by simp
          have hne2 : (s1 != s1) = false := by simp
          clear hbk fa0 fa1 fa2
          clear ny0 ny1 ny2 np0 np1 np2 y0 y1 y2 p0 p1 p2 fy0 fy1 fy2 nz0 nz1 nz2 nr0 nr1 nr2 z0 z1 z2 r0 r1 r2
          go_region_held3 (fun w' => w'.cell? ⟨w3.heap.size, 1, none⟩ = some (.int .i64 s1) ∧ w'.cell? ⟨w3.heap.size, 2, none⟩ = some (.slice A2 bs1.length c2)) (first | exact ⟨x1, x2⟩ | exact ⟨pw_cell_below HQ5.out x1, pw_cell_below HQ5.out x2⟩ | go_keep) (first | (go_at_call 38; refine (Bytes.calls g w.heap.size _ rm s1 bs1 v1 _ (dev_drew HD4.out) HLB1.out).mono ?_; rintro e w5 ⟨v5, rfl, ho5, hb5⟩; (obtain ⟨A5, c5, rfl⟩ := Kd.R_slice ho5); (have hb5' : Below W4.heap.size W4 w5 := below_step (below_drew (Below.refl _ _)) hb5); (have HQ5 := Aside0.mk hb5'); (have x1' := pw_cell_below hb5' x1); (have x2' := pw_cell_below hb5' x2); (have HO5 := Aside0.mk ho5); (have HD5 := Aside0.mk (dev_below HD4.out hb5')); clear ho5 hb5 hb5') | (go_at_call 37; refine (notaryref01_Same.calls kS A5 c5 bs1 A2 c2 bs1 true _ (Kd.R_reads' HO5.out).2.2 (Kd.R_reads' HO5.out).2.1 (Kd.R_reads' (Kd.R_below HU4.out HQ5.out)).2.2 (Kd.R_reads' HU4.out).2.1 HSAM.out).mono ?_; rintro e w' ⟨rfl, ⟨nd6, rfl⟩⟩) | (go_at_call 39; refine (Sure.calls g w.heap.size _ rm s1 bs1 v1 _ (dev_drewN HD5.out nd6)).mono ?_; rintro e w' ⟨rfl, rfl⟩))
          go_wp2
          go_roundg q
          case measure => omega
          case rel =>
            have hq := HQ5.out.size
            have h4 := HK4.out.1
            have h2 := HZ2.out
            have hbx := HBX.out
            have hxl := HX1L.out
            have hbs := HBS.out
            have h12 : w1.heap.size ≤ w2.heap.size := by simpa using Nat.le_trans (by simp) h2
            refine ⟨j + 1, s1, bs1, v1, _, _, A2, c2, by go_num, by omega, ⟨dev_drewN HD5.out nd6⟩, ⟨pw_below_drewN (below_step HB4.out HQ5.out) nd6⟩, ⟨blk_drewN (blk_below HX4.out HQ5.out) nd6⟩, ⟨Kd.R_drewN (Kd.R_below HU4.out HQ5.out) nd6⟩, ⟨HK.out.1, HK.out.2.1, HK.out.2.2⟩, ⟨fun k hk => ⟨fun e => HOX.out (by rw [← e]; exact hk), ?_⟩, fun k hk => ?_⟩⟩
            · have := hk.2.2
              show k < w5.heap.size
              omega
            · show w.heap.size ≤ k ∧ k < w5.heap.size ∧ _
              rcases hk with h | h
              · have h1 := HDIS.out.2 k h
                exact ⟨h1.1, by omega, h1.2.2.1, h1.2.2.2.1, fun hh => HPO.out k hh h⟩
              · exact ⟨by omega, by omega, by omega, by omega, fun hh => by omega⟩
        · obtain ⟨bx, hbx⟩ : ∃ bx, bx = w1.heap.size := ⟨_, rfl⟩
          obtain ⟨W4, hW4⟩ : ∃ W4, W4 = ((((((w2.setCell ⟨w1.heap.size, 0, none⟩ (.int .i64 rm)).setCell ⟨w1.heap.size, 1, none⟩ (.int .i64 s1)).setCell ⟨w1.heap.size, 2, none⟩ (.slice A2 bs1.length c2)).setCell ⟨w3.heap.size, 0, none⟩ (.int .i64 rm)).setCell ⟨w3.heap.size, 1, none⟩ (.int .i64 s1)).setCell ⟨w3.heap.size, 2, none⟩ (.slice A2 bs1.length c2)) := ⟨_, rfl⟩
          rw [← hW4]
          have HK4 : Aside0 (Kept w2 W4 (fun k => k = w3.heap.size ∨ k = bx)) := ⟨by rw [hW4, hbx]; exact Kept.setCell (p := ⟨w3.heap.size, 2, none⟩) (Kept.setCell (p := ⟨w3.heap.size, 1, none⟩) (Kept.setCell (p := ⟨w3.heap.size, 0, none⟩) (Kept.setCell (p := ⟨w1.heap.size, 2, none⟩) (Kept.setCell (p := ⟨w1.heap.size, 1, none⟩) (Kept.setCell (p := ⟨w1.heap.size, 0, none⟩) (Kept.refl w2 _) (.inl (.inr rfl)) _) (.inl (.inr rfl)) _) (.inl (.inr rfl)) _) (.inl (.inl rfl)) _) (.inl (.inl rfl)) _) (.inl (.inl rfl)) _⟩
          have HX4 : Aside0 (W4.heap[w3.heap.size]? = some (.cells #[.int .i64 rm, .int .i64 s1, .slice A2 bs1.length c2] TR (0, 0))) := ⟨by rw [hW4]; exact blk_put (blk_put (blk_put (blk_far (p := ⟨w1.heap.size, 2, none⟩) (blk_far (p := ⟨w1.heap.size, 1, none⟩) (blk_far (p := ⟨w1.heap.size, 0, none⟩) HX2.out (Nat.ne_of_lt HX1L.out.1) (.int .i64 rm)) (Nat.ne_of_lt HX1L.out.1) (.int .i64 s1)) (Nat.ne_of_lt HX1L.out.1) (.slice A2 bs1.length c2)) 0 (.int .i64 rm) rfl) 1 (.int .i64 s1) rfl) 2 (.slice A2 bs1.length c2) rfl⟩
          have HB4 : Aside0 (Below w.heap.size w W4) := ⟨by rw [hW4]; exact below_set (below_set (below_set (below_set (below_set (below_set (HB2.out) HB1.out.size) HB1.out.size) HB1.out.size) HBS.out) HBS.out) HBS.out⟩
          have HBX : Aside0 (w1.heap.size ≤ bx ∧ w.heap.size ≤ w1.heap.size) := ⟨by rw [hbx]; refine ⟨?_, HB1.out.size⟩; first | exact Nat.le_refl _ | (have := HZ2.out; simp at this; omega)⟩
          have HU4 : Aside0 (Kd.R (Kd.int .u8) T8 W4 w.heap.size (fun k => P k ∨ (w1.heap.size ≤ k ∧ k < w2.heap.size ∧ k ≠ bx)) (.slice A2 bs1.length c2) bs1) := ⟨Kd.R_kept (Kd.R_mono HU2.out (fun k hk => by
            have h1 := hk.2.2.1
            rcases hk.1 with h | h
            · exact .inl h
            · exact .inr ⟨by have h' : w1.heap.size + 1 ≤ k := (by simpa using h); omega, h1, by have h' : w1.heap.size + 1 ≤ k := (by simpa using h); rw [hbx]; omega⟩)) HK4.out (fun k hk hh => by
              have h0 := HX1L.out
              rcases hk with h | h
              · rcases hh with rfl | rfl
                · exact HPX.out h
                · have := (HDIS.out.2 _ h).2.1; have := HBX.out.1; omega
              · rcases hh with rfl | rfl
                · omega
                · exact h.2.2 rfl)⟩
          clear hW4 hbx
          have HD4 : Aside0 (Dev W4 w.heap.size g (fun k => (O k ∨ wr.heap.size ≤ k) ∧ w.heap.size ≤ k ∧ k < w1.heap.size) rm s1 bs1 v1) := ⟨dev_kept HD2.out HK4.out (fun hh => by
            rcases hh with h | h
            · exact HGG.out h.symm
            · have := HX1L.out.2.1
              have := HBX.out.1
              omega) (fun k hk hh => by
            rcases hh with rfl | rfl
            · exact HOX.out hk
            · have := HBX.out.1
              have := hk.2.2
              omega)⟩
          obtain ⟨bk, hbk⟩ : ∃ bk, bk = W4.heap[w3.heap.size]? := ⟨_, rfl⟩
          have x1 : W4.cell? ⟨w3.heap.size, 1, none⟩ = some (.int .i64 s1) := (blk_cell HX4.out 1).trans rfl
          have x2 : W4.cell? ⟨w3.heap.size, 2, none⟩ = some (.slice A2 bs1.length c2) := (blk_cell HX4.out 2).trans rfl
          have hne : (er != er) = false := by simp
          have hne2 : (s1 != s1) = false := by simp
          clear hbk fa0 fa1 fa2
          clear ny0 ny1 ny2 np0 np1 np2 y0 y1 y2 p0 p1 p2 fy0 fy1 fy2 nz0 nz1 nz2 nr0 nr1 nr2 z0 z1 z2 r0 r1 r2
          go_region_held3 (fun w' => w'.cell? ⟨w3.heap.size, 1, none⟩ = some (.int .i64 s1) ∧ w'.cell? ⟨w3.heap.size, 2, none⟩ = some (.slice A2 bs1.length c2)) (first | exact ⟨x1, x2⟩ | exact ⟨pw_cell_below HQ5.out x1, pw_cell_below HQ5.out x2⟩ | go_keep) (first | (go_at_call 38; refine (Bytes.calls g w.heap.size _ rm s1 bs1 v1 _ (dev_drew HD4.out) HLB1.out).mono ?_; rintro e w5 ⟨v5, rfl, ho5, hb5⟩; (obtain ⟨A5, c5, rfl⟩ := Kd.R_slice ho5); (have hb5' : Below W4.heap.size W4 w5 := below_step (below_drew (Below.refl _ _)) hb5); (have HQ5 := Aside0.mk hb5'); (have x1' := pw_cell_below hb5' x1); (have x2' := pw_cell_below hb5' x2); (have HO5 := Aside0.mk ho5); (have HD5 := Aside0.mk (dev_below HD4.out hb5')); clear ho5 hb5 hb5') | (go_at_call 37; refine (notaryref01_Same.calls kS A5 c5 bs1 A2 c2 bs1 true _ (Kd.R_reads' HO5.out).2.2 (Kd.R_reads' HO5.out).2.1 (Kd.R_reads' (Kd.R_below HU4.out HQ5.out)).2.2 (Kd.R_reads' HU4.out).2.1 HSAM.out).mono ?_; rintro e w' ⟨rfl, ⟨nd6, rfl⟩⟩) | (go_at_call 39; refine (Sure.calls g w.heap.size _ rm s1 bs1 v1 _ (dev_drewN HD5.out nd6)).mono ?_; rintro e w' ⟨rfl, rfl⟩))
          go_wp2
          go_roundg q
          case measure => omega
          case rel =>
            have hq := HQ5.out.size
            have h4 := HK4.out.1
            have h2 := HZ2.out
            have hbx := HBX.out
            have hxl := HX1L.out
            have hbs := HBS.out
            have h12 : w1.heap.size ≤ w2.heap.size := by simpa using Nat.le_trans (by simp) h2
            refine ⟨j + 1, s1, bs1, v1, _, _, A2, c2, by go_num, by omega, ⟨dev_drewN HD5.out nd6⟩, ⟨pw_below_drewN (below_step HB4.out HQ5.out) nd6⟩, ⟨blk_drewN (blk_below HX4.out HQ5.out) nd6⟩, ⟨Kd.R_drewN (Kd.R_below HU4.out HQ5.out) nd6⟩, ⟨HK.out.1, HK.out.2.1, HK.out.2.2⟩, ⟨fun k hk => ⟨fun e => HOX.out (by rw [← e]; exact hk), ?_⟩, fun k hk => ?_⟩⟩
            · have := hk.2.2
              show k < w5.heap.size
              omega
            · show w.heap.size ≤ k ∧ k < w5.heap.size ∧ _
              rcases hk with h | h
              · have h1 := HDIS.out.2 k h
                exact ⟨h1.1, by omega, h1.2.2.1, h1.2.2.2.1, fun hh => HPO.out k hh h⟩
              · exact ⟨by omega, by omega, by omega, by omega, fun hh => by omega⟩
end Go.Proofs.Ytlbabncagdkjpaa.DDev
