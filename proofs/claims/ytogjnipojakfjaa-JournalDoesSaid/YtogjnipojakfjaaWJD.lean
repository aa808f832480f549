/- notarylaw49.do: its walk. -/
import Derived.Test.YtogjnipojakfjaaJRDo3
import Derived.Test.YtogjnipojakfjaaJROpen
import Derived.Test.YtogjnipojakfjaaPJdx3
import Derived.Test.YtogjnipojakfjaaPJdx8
import Derived.Test.YtogjnipojakfjaaPJdx9
import Derived.Test.YtogjnipojakfjaaPJdx10
import Derived.Test.YtogjnipojakfjaaPJdx11
import Derived.Test.YtogjnipojakfjaaPJdx12
import Derived.Test.YtogjnipojakfjaaWFootNe
import Derived.Test.YtogjnipojakfjaaSOpen
/- notarylaw49.do: its walk. -/
namespace Go.Proofs.Ytogjnipojakfjaa.JJour
open Go.RowKit Go.Proofs.Ytogjnipojakfjaa.PJd Go.Proofs.YtogjnipojakfjaaW.PrintWords Go.Proofs.YtogjnipojakfjaaW.PrintLast Go.Proofs.YtogjnipojakfjaaW.PrintMore
open LSame (Byt)
open LChain (msgS tagS zeroT)
open DDev (Dev dev_below dev_kept dev_drewN dev_mono T8 TD heldN)
set_option linter.unusedVariables false
set_option linter.unusedSimpArgs false
theorem dev_app (g : Nat) (O : Nat → Prop) (room sure : Int) (bs : List Int) (v : Value) (A : Option Addr) (c : Nat) (ys : List Int) (ar : Int) (yb : List Int) (hab : appB room bs ys = (ar, yb)) (w0 w : World) (h : Dev w w0.heap.size g O room sure bs v) (HB : Below w0.heap.size w0 w) (hR : Kd.C (Kd.int .u8) w A ys.length ys) (hr : room ≤ 65536) (hb : bs.length ≤ 65536) (h0 : 0 ≤ room) (hys : ys.length ≤ 65536) :
    Calls Try.prog 17 #[.pointer (some ⟨g, 0, none⟩), .slice A ys.length c] w fun e w' => e = .returned (.int .i64 ar) ∧ ∃ v', Dev w' w0.heap.size g (fun k => O k ∨ w.heap.size ≤ k) room sure yb v' ∧ Kept w w' (fun k => k = g ∨ O k) ∧ Below w0.heap.size w0 w' := by
  by_cases hno : room - bs.length < ys.length
  · obtain ⟨rfl, rfl⟩ := Prod.mk.inj ((if_pos hno : appB room bs ys = (28, bs)).symm.trans hab)
    refine (DDev.Append.no g w0.heap.size O room sure bs v A c ys w h hr hb h0 (by omega) hno).mono (fun e w' hh => ?_)
    obtain ⟨he, nn, hw⟩ := hh
    subst hw
    exact ⟨he, v, dev_drewN (dev_mono h (fun q hq => .inl hq) (fun hq => hq.elim h.2.2.1 (fun h1 => Nat.lt_irrefl _ (Nat.lt_of_lt_of_le (DDev.dev_lt h) h1)))) nn, Kept.of_below (pw_below_drewN (Below.refl _ _) nn) _, pw_below_drewN HB nn⟩
  · obtain ⟨rfl, rfl⟩ := Prod.mk.inj ((if_neg hno : appB room bs ys = (0, bs ++ ys)).symm.trans hab)
    exact DDev.Append.yes g O room sure bs v A c ys w0 w h HB hR hr hb h0 hno
set_option maxHeartbeats 32000000 in
set_option maxRecDepth 100000 in
theorem do.calls (w0 : World) (gj gd : Nat) (O : Nat → Prop) (s : St) (hG : Good s) (Ak : Option Addr) (ck : Nat) (k : Int) (e : Ent) (heb : Byt e.f1) (n : Int) (y : List Int) (hyb : Byt y) (hyl : y.length ≤ 65536) (Ae Ay : Option Addr) (ce cy : Nat) (W : World) (h : Jn W w0.heap.size gj gd O s) (HB0_ : Below w0.heap.size w0 W) (hck : s.key.length ≤ ck) (hK : Kd.F (Kd.int .u8) W (fun q => ¬ O q) Ak s.key.length s.key) (hce : e.f1.length ≤ ce) (hE : Kd.F (Kd.int .u8) W (fun q => ¬ O q) Ae e.f1.length e.f1) (hcy : y.length ≤ cy) (hY : Kd.F (Kd.int .u8) W (fun q => ¬ O q) Ay y.length y) :
    Calls Try.prog 28 #[.slice Ak s.key.length ck, .pointer (some ⟨gj, 0, none⟩), .pointer (some ⟨gd, 0, none⟩), .agg #[.int .i64 k, .int .i64 e.f0, .slice Ae e.f1.length ce, .int .i64 n, .slice Ay y.length cy]] W fun x w' => ∃ gj' O', x = .returned (.tuple #[.pointer (some ⟨gj', 0, none⟩), .int .i64 (doS s k e n y).1]) ∧ Jn w' w0.heap.size gj' gd O' (doS s k e n y).2 ∧ Kept W w' O ∧ (∀ q, q < W.heap.size → O' q → O q) ∧ Below w0.heap.size w0 w' := by
  have hown := jn_own h
  obtain ⟨vb, hd, hS, _⟩ := jn_dev h
  obtain ⟨W1, hW1⟩ : ∃ W1 : World, W1 = W.alloc (.cells #[.int .i64 k, .int .i64 e.f0, .slice Ae e.f1.length ce, .int .i64 n, .slice Ay y.length cy] TRO) := ⟨_, rfl⟩
  have hb1 : Below W.heap.size W W1 := by rw [hW1]; exact below_alloc (Below.refl _ _) _
  have k1 : W1.heap[W.heap.size]? = some (.cells #[.int .i64 k, .int .i64 e.f0, .slice Ae e.f1.length ce, .int .i64 n, .slice Ay y.length cy] TRO (0, 0)) := by rw [hW1]; exact blk_new _ _
  have o0 : W1.cell? ⟨W.heap.size, 0, none⟩ = some (.int .i64 k) := (blk_cell k1 0).trans rfl
  have o1 : W1.cell? ⟨W.heap.size, 1, none⟩ = some (.int .i64 e.f0) := (blk_cell k1 1).trans rfl
  have o2 : W1.cell? ⟨W.heap.size, 2, none⟩ = some (.slice Ae e.f1.length ce) := (blk_cell k1 2).trans rfl
  have o3 : W1.cell? ⟨W.heap.size, 3, none⟩ = some (.int .i64 n) := (blk_cell k1 3).trans rfl
  have o4 : W1.cell? ⟨W.heap.size, 4, none⟩ = some (.slice Ay y.length cy) := (blk_cell k1 4).trans rfl
  have HB1 := Aside0.mk hb1
  have HW1 : Aside0 (Below w0.heap.size w0 W1) := ⟨HB0_.trans (hb1.mono HB0_.size)⟩
  have HJ1 := Aside0.mk (jn_below h hb1)
  have HD1 := Aside0.mk (dev_below hd hb1)
  have HS := Aside0.mk hS
  have HO := Aside0.mk hown
  have K1 := Aside0.mk k1
  have HG := Aside0.mk hG
  have HCK := Aside0.mk (And.intro hck (Kd.F_below hK hb1))
  have HCE := Aside0.mk (And.intro hce (Kd.F_below hE hb1))
  have HCY := Aside0.mk (And.intro hcy (Kd.F_below hY hb1))
  have HYB := Aside0.mk (And.intro hyb hyl)
  have HEB := Aside0.mk heb
  have hb0 := hG.b0
  have hr1 := hG.r1
  have HBS : Aside0 (s.bs.length ≤ 65536) := ⟨by omega⟩
  have hu := Try.underlying35
  clear h hd hS hown hb1 k1 HB0_ hck hK hce hE hcy hY hyb hyl heb hb0 hr1
  by_cases c0 : k = 0
  · subst c0
    obtain ⟨ar, sp, hap⟩ : ∃ ar sp, appS s e = (ar, sp) := ⟨_, _, rfl⟩
    have HAP := Aside0.mk hap
    have HDO : Aside0 (doS s 0 e n y = (ar, sp)) := ⟨by unfold doS; rw [if_pos rfl]; exact hap⟩
    clear hap hG
    go_enter Try.func28, Try.ntmps28
    go_upto_region 1 with (fail)
    try simp only [← hW1]
    clear hW1
    go_wp2_with (go_at_call 15; (with_reducible refine (Append.ret w0 gj gd O s HG.out e HEB.out ar sp HAP.out Ae ce _ (jn_below HJ1.out (by with_reducible repeat (first | exact Below.refl _ _ | apply below_alloc | apply below_drew))) (below_step HW1.out (by with_reducible repeat (first | exact Below.refl _ _ | apply below_alloc | apply below_drew))) HCE.out.1 (Kd.F_below HCE.out.2 (by with_reducible repeat (first | exact Below.refl _ _ | apply below_alloc | apply below_drew)))).mono ?_); rintro x w4 ⟨rfl, O4, hj4, hk4, ho4, hb4⟩; (have HJ4 := Aside0.mk hj4); (have HK4 := Aside0.mk hk4); (have HO4 := Aside0.mk ho4); (have HB4 : Aside0 (Below w0.heap.size w0 w4) := ⟨hb4⟩); clear hj4 hk4 ho4 hb4)
    go_ret2
    rw [HDO.out]
    exact ⟨gj, O4, rfl, HJ4.out, (Kept.of_below HB1.out O).then_ HK4.out (fun _ h_ => .inl h_), fun q hq h_ => HO4.out q (Nat.lt_of_lt_of_le hq HB1.out.size) h_, HB4.out⟩
  have b0 : (k == 0) = false := beq_eq_false_iff_ne.mpr c0
  by_cases c1 : k = 1
  · subst c1
    have HDO : Aside0 (doS s 1 e n y = (0, { s with sure := (s.bs.length : Int) })) := ⟨by unfold doS; rw [if_neg c0, if_pos rfl]⟩
    clear hG
    go_enter Try.func28, Try.ntmps28
    go_upto_region 1 with (fail)
    try simp only [← hW1]
    clear hW1
    go_wp2_with (go_at_call 24; (with_reducible refine (Sync.calls w0 gj gd O s _ (jn_below HJ1.out (by with_reducible repeat (first | exact Below.refl _ _ | apply below_alloc | apply below_drew))) (below_step HW1.out (by with_reducible repeat (first | exact Below.refl _ _ | apply below_alloc | apply below_drew)))).mono ?_); rintro x w4 ⟨rfl, O4, hj4, hk4, ho4, hb4⟩; (have HJ4 := Aside0.mk hj4); (have HK4 := Aside0.mk hk4); (have HO4 := Aside0.mk ho4); (have HB4 : Aside0 (Below w0.heap.size w0 w4) := ⟨hb4⟩); (have o4x := (blk_cell (blk_kept K1.out hk4 (fun h_ => Nat.lt_irrefl _ (HO.out _ h_).2)) 0).trans (show _ = some (.int .i64 1) from rfl)); clear hj4 hk4 ho4 hb4)
    go_ret2
    rw [HDO.out]
    exact ⟨gj, O4, rfl, HJ4.out, (Kept.of_below HB1.out O).then_ HK4.out (fun _ h_ => .inl h_), fun q hq h_ => HO4.out q (Nat.lt_of_lt_of_le hq HB1.out.size) h_, HB4.out⟩
  have b1 : (k == 1) = false := beq_eq_false_iff_ne.mpr c1
  by_cases c2 : k = 2
  · subst c2
    have hq : 0 ≤ s.sure + heldN n (s.bs.length - s.sure) ∧ s.sure + heldN n (s.bs.length - s.sure) ≤ s.bs.length := by have h1 := hG.s0; have h2 := hG.s1; unfold heldN mn mx; split <;> split <;> omega
    obtain ⟨m, hm⟩ : ∃ m : Nat, (s.sure + heldN n (s.bs.length - s.sure)).toNat = m := ⟨_, rfl⟩
    have hml : ((s.bs.take m).length : Int) = (m : Int) := by rw [List.length_take]; omega
    obtain ⟨sp, hsp⟩ : ∃ sp, sp = openS s.key s.room (m : Int) (s.bs.take m) := ⟨_, rfl⟩
    have HDO : Aside0 (doS s 2 e n y = (0, sp)) := ⟨by unfold doS; rw [if_neg c0, if_neg c1, if_pos rfl, hm, ← hsp]⟩
    have HM := Aside0.mk (And.intro hm hml)
    have HT : Aside0 ((s.bs.take m).length ≤ 65536) := ⟨by rw [List.length_take]; have := HBS.out; omega⟩
    have HSP := Aside0.mk hsp
    clear hq hm hsp hml hG
    go_enter Try.func28, Try.ntmps28
    go_upto_region 1 with (fail)
    try simp only [← hW1]
    clear hW1
    go_wp2_with (first | (go_at_call 10; (with_reducible refine (Open.calls w0 gd _ s.room (m : Int) (s.bs.take m) v4 s.key Ak ck _ (dev_below HD4.out (by with_reducible repeat (first | exact Below.refl _ _ | apply below_alloc | apply below_drew))) (below_step HB4.out (by with_reducible repeat (first | exact Below.refl _ _ | apply below_alloc | apply below_drew))) HCK.out.1 (Kd.C_below (Kd.F_now (Kd.F_kept HCK.out.2 HK4.out (fun q hq h_ => absurd (HS.out q (.inl h_)) hq))) (by with_reducible repeat (first | exact Below.refl _ _ | apply below_alloc | apply below_drew))) HT.out (HG.out.bb.take m) HG.out.kb HG.out.kl).mono ?_); rintro x w5 ⟨gj5, O5, rfl, hj5, hk5, ho5, hb5⟩; (rw [← HSP.out] at hj5); (have HJ5 := Aside0.mk hj5); (have HK5 := Aside0.mk hk5); (have HO5 := Aside0.mk ho5); (have HB5 := Aside0.mk hb5); clear hj5 hk5 ho5 hb5) | (go_at_call 30; (with_reducible refine (DDev.Crash.calls gd _ s.room s.sure s.bs vb n w0 _ (dev_below HD1.out (by with_reducible repeat (first | exact Below.refl _ _ | apply below_alloc | apply below_drew))) (below_step HW1.out (by with_reducible repeat (first | exact Below.refl _ _ | apply below_alloc | apply below_drew))) HBS.out HG.out.s0 HG.out.s1).mono ?_); rintro x w4 ⟨rfl, v4, hd4, ho4, hk4, hb4⟩; (rw [HM.out.1, HM.out.2] at hd4); (have HD4 := Aside0.mk hd4); (have HK4 : Aside0 (Kept W1 w4 (fun q => q = gd)) := ⟨hk4⟩); (have HB4 : Aside0 (Below w0.heap.size w0 w4) := ⟨hb4⟩); clear hd4 ho4 hk4 hb4))
    go_ret2
    rw [HDO.out]
    have hka : Kept W1 w5 O := (HK4.out.mono (fun q hq => HS.out q (.inl hq))).then_ HK5.out (fun q hq => .inl (HS.out q hq))
    exact ⟨gj5, O5, rfl, HJ5.out, (Kept.of_below HB1.out O).then_ hka (fun _ h_ => .inl h_), fun q hq h_ => HS.out q (HO5.out q (Nat.lt_of_lt_of_le hq (Nat.le_trans HB1.out.size HK4.out.1)) h_), HB5.out⟩
  have b2 : (k == 2) = false := beq_eq_false_iff_ne.mpr c2
  by_cases c3 : k = 3
  · subst c3
    obtain ⟨ar, yb, hab⟩ : ∃ ar yb, appB s.room s.bs y = (ar, yb) := ⟨_, _, rfl⟩
    obtain ⟨sp, hsp⟩ : ∃ sp, sp = openS s.key s.room s.sure yb := ⟨_, rfl⟩
    have HDO : Aside0 (doS s 3 e n y = (0, sp)) := ⟨by unfold doS; rw [if_neg c0, if_neg c1, if_neg c2, if_pos rfl, hab, ← hsp]⟩
    have hyb : Byt yb ∧ yb.length ≤ 65536 := by
      unfold appB at hab
      split at hab
      · obtain ⟨_, rfl⟩ := Prod.mk.inj hab
        exact ⟨hG.bb, HBS.out⟩
      · obtain ⟨_, rfl⟩ := Prod.mk.inj hab
        have := hG.r1
        exact ⟨hG.bb.append HYB.out.1, by rw [List.length_append]; omega⟩
    have HAB := Aside0.mk hab
    have HSP := Aside0.mk hsp
    have HYY := Aside0.mk hyb
    clear hab hsp hyb hG
    go_enter Try.func28, Try.ntmps28
    go_upto_region 1 with (fail)
    try simp only [← hW1]
    clear hW1
    go_wp2_with (first | (go_at_call 10; (with_reducible refine (Open.calls w0 gd _ s.room s.sure yb v4 s.key Ak ck _ (dev_below HD4.out (by with_reducible repeat (first | exact Below.refl _ _ | apply below_alloc | apply below_drew))) (below_step HB4.out (by with_reducible repeat (first | exact Below.refl _ _ | apply below_alloc | apply below_drew))) HCK.out.1 (Kd.C_below (Kd.F_now (Kd.F_kept HCK.out.2 HK4.out (fun q hq h_ => absurd h_ hq))) (by with_reducible repeat (first | exact Below.refl _ _ | apply below_alloc | apply below_drew))) HYY.out.2 HYY.out.1 HG.out.kb HG.out.kl).mono ?_); rintro x w5 ⟨gj5, O5, rfl, hj5, hk5, ho5, hb5⟩; (rw [← HSP.out] at hj5); (have HJ5 := Aside0.mk hj5); (have HK5 := Aside0.mk hk5); (have HO5 := Aside0.mk ho5); (have HB5 := Aside0.mk hb5); clear hj5 hk5 ho5 hb5) | (go_at_call 17; (with_reducible refine (dev_app gd _ s.room s.sure s.bs vb Ay cy y ar yb HAB.out w0 _ (dev_below HD1.out (by with_reducible repeat (first | exact Below.refl _ _ | apply below_alloc | apply below_drew))) (below_step HW1.out (by with_reducible repeat (first | exact Below.refl _ _ | apply below_alloc | apply below_drew))) (Kd.C_below (Kd.F_now HCY.out.2) (by with_reducible repeat (first | exact Below.refl _ _ | apply below_alloc | apply below_drew))) HG.out.r1 HBS.out HG.out.r0 HYB.out.2).mono ?_); rintro x w4 ⟨rfl, v4, hd4, hk4, hb4⟩; (have HD4 : Aside0 (Dev w4 w0.heap.size gd (fun q => some q = vb.ownBlock ∨ W1.heap.size ≤ q) s.room s.sure yb v4) := ⟨hd4⟩); (have HK4 : Aside0 (Kept W1 w4 O) := ⟨hk4.mono (fun q hq => HS.out q hq)⟩); (have HB4 : Aside0 (Below w0.heap.size w0 w4) := ⟨hb4⟩); clear hd4 hk4 hb4))
    go_ret2
    rw [HDO.out]
    have hka : Kept W1 w5 O := HK4.out.then_ HK5.out (fun q hq => hq.elim (fun h_ => .inl (HS.out q (.inl h_))) (fun h_ => h_.imp (fun h1 => HS.out q (.inr h1)) (fun h1 => h1)))
    exact ⟨gj5, O5, rfl, HJ5.out, (Kept.of_below HB1.out O).then_ hka (fun _ h_ => .inl h_), fun q hq h_ => (HO5.out q (Nat.lt_of_lt_of_le hq (Nat.le_trans HB1.out.size HK4.out.1)) h_).elim (fun h1 => HS.out q (.inl h1)) (fun h1 => h1.elim (fun h2 => HS.out q (.inr h2)) (fun h2 => absurd (Nat.lt_of_lt_of_le hq (Nat.le_trans HB1.out.size h2)) (Nat.lt_irrefl _))), HB5.out⟩
  have b3 : (k == 3) = false := beq_eq_false_iff_ne.mpr c3
  have HDO : Aside0 (doS s k e n y = (0, s)) := ⟨by unfold doS; rw [if_neg c0, if_neg c1, if_neg c2, if_neg c3]⟩
  clear c0 c1 c2 c3
  go_enter Try.func28, Try.ntmps28
  go_upto_region 1 with (fail)
  try simp only [← hW1]
  clear hW1
  go_wp2
  go_ret2
  rw [HDO.out]
  exact ⟨gj, O, rfl, HJ1.out, Kept.of_below HB1.out O, fun q hq h_ => h_, HW1.out⟩
end Go.Proofs.Ytogjnipojakfjaa.JJour

/- A row of bytes does not lie in a block that holds none. -/
namespace Go.Proofs.Ytogjnipojakfjaa.JJour
open Go.RowKit Go.Proofs.Ytogjnipojakfjaa.PJd Go.Proofs.YtogjnipojakfjaaW.PrintWords Go.Proofs.YtogjnipojakfjaaW.PrintLast Go.Proofs.YtogjnipojakfjaaW.PrintMore
open LSame (Byt)
open LChain (msgS tagS zeroT)
open DDev (Dev dev_below dev_kept dev_drewN dev_mono T8 TD heldN)
set_option linter.unusedVariables false
set_option linter.unusedSimpArgs false
theorem F_one {W : World} {ad : Addr} {n : Nat} {xs : List Int} (h : Kd.C (Kd.int .u8) W (some ad) n xs) : Kd.F (Kd.int .u8) W (fun q => q = ad.block) (some ad) n xs := by
  intro W' hW
  refine ⟨h.1, h.2.1, fun hn => ?_⟩
  obtain ⟨ad', he, hc⟩ := h.2.2 hn
  injection he with he
  subst he
  refine ⟨ad, rfl, fun j p hj => ?_⟩
  obtain ⟨c, h1, h2, h3⟩ := hc j p hj
  refine ⟨c, h1, h2, fun i u hu => ?_⟩
  have hb : ∀ k, (ad.add k).block = ad.block := fun k => by unfold Addr.add; split <;> rfl
  have hu2 := h3 i u hu
  have hz := hW ad.block rfl (Kd.C_lt h hn (by decide))
  unfold World.cell? at hu2 ⊢
  rw [hb] at hu2 ⊢
  rw [hz]
  exact hu2
/-- a row of bytes does not lie in a block that holds no byte ahead of it -/
theorem F_set {W : World} {O : Nat → Prop} {g i : Nat} {v : Value} {A : Option Addr} {n : Nat} {xs : List Int} (h : Kd.F (Kd.int .u8) W O A n xs) (hg : ∀ (a : Addr) (x : Int), a.block = g → W.cell? a ≠ some (.int .u8 x)) : Kd.F (Kd.int .u8) (W.setCell ⟨g, i, none⟩ v) O A n xs := by
  have hC := Kd.F_now h
  by_cases hn : 0 < n
  case neg => exact fun W' _ => ⟨hC.1, hC.2.1, fun h2 => absurd h2 hn⟩
  obtain ⟨ad, rfl, hc⟩ := hC.2.2 hn
  have hin := Kd.F_in h rfl hn (by decide)
  have hne : ad.block ≠ g := fun he => by
    obtain ⟨c, h1, h2, h3⟩ := hc 0 _ (List.getElem?_eq_getElem (by rw [hC.1]; exact hn))
    have e2 : c = [.int .u8 _] := h2
    have h4 := h3 0 _ (by rw [e2]; rfl)
    rw [Nat.zero_mul, Nat.zero_add, Addr.add_zero'] at h4
    exact hg ad _ he h4
  exact Kd.F_mono (Kd.F_far (p := ⟨g, i, none⟩) (F_one hC) (fun k hk => by rw [hk]; exact hne) v) (fun q hq => by rw [hq]; exact hin)
/-- no byte lies in a journal's value -/
theorem no_byte {W : World} {g : Nat} {a b c : Value} {x y : Int} (h : W.heap[g]? = some (.cells #[a, b, .int .i64 x, .int .i64 y, c] TRJ (0, 0))) (ha : ∀ z, a ≠ .int .u8 z) (hb : ∀ z, b ≠ .int .u8 z) (hc : ∀ z, c ≠ .int .u8 z) : ∀ (p : Addr) (z : Int), p.block = g → W.cell? p ≠ some (.int .u8 z) := by
  intro p z hp hz
  unfold World.cell? at hz
  rw [hp, h] at hz
  simp only at hz
  split at hz
  · simp at hz
  · generalize p.off = k at hz
    rcases k with _ | _ | _ | _ | _ | k
    · exact ha z (by simpa using hz)
    · exact hb z (by simpa using hz)
    · simp at hz
    · simp at hz
    · exact hc z (by simpa using hz)
    · simp at hz
/-- a journal stands when a block is written that is none of its and holds no byte -/
theorem jn_set {W W' : World} {B gj gd g : Nat} {O : Nat → Prop} {s : St} (h : Jn W B gj gd O s) (hO : ¬ O g) (hF : ∀ (ok : Nat → Prop) (A : Option Addr) (xs : List Int), Kd.F (Kd.int .u8) W ok A xs.length xs → Kd.F (Kd.int .u8) W' ok A xs.length xs) (hk : Kept W W' (fun q => q = g)) (hgB : g < W.heap.size) :
    Jn W' B gj gd O s := by
  obtain ⟨vb, vl, At, ct, Ak, ck, h1, h2, h3, h4, ⟨h5, h6⟩, ⟨h7, h8⟩, h9⟩ := h
  have hne : ∀ q, O q → ¬ q = g := fun q hq e => hO (e ▸ hq)
  refine ⟨vb, vl, At, ct, Ak, ck, blk_kept h1 hk (hne gj ((h9 gj).2 (.inl rfl))), dev_kept h2 hk (hne gd ((h9 gd).2 (.inr (.inl rfl)))) (fun k hk2 => hne k ((h9 k).2 (.inr (.inr (.inl hk2))))), h3, ?_, ⟨h5, hF _ _ _ h6⟩, ⟨h7, hF _ _ _ h8⟩, h9⟩
  obtain ⟨hv, rows, hr, hR, hf⟩ := h4
  refine ⟨hv, rows, hr, Kd.R_kept hR hk (fun k hk2 => hne k ((h9 k).2 (.inr (.inr (.inr hk2))))), fun j x c hx hc => ?_⟩
  obtain ⟨A1, c1, rfl, l1, g1⟩ := k35_openF (hf j x c hx hc)
  exact mk_EF W' _ x l1 (hF _ _ _ g1)
theorem rc_set {W W' : World} {P : Nat → Prop} {g : Nat} {s : St} {AL AT AB : Option Addr} {cl ct cb : Nat} (h : RC W P s AL cl AT ct AB cb) (hk : Kept W W' (fun q => q = g)) (hp : ∀ q, P q → ¬ q = g) : RC W' P s AL cl AT ct AB cb :=
  ⟨⟨h.l.1, Kd.F_kept h.l.2 hk hp⟩, ⟨h.t.1, Kd.F_kept h.t.2 hk hp⟩, ⟨h.b.1, Kd.F_kept h.b.2 hk hp⟩⟩
/-- a journal's value is stored anew: no byte row lies there -/
theorem F_set5 {W : World} {ok : Nat → Prop} {g : Nat} {a b c a' b' c' : Value} {x y x' y' : Int} {A : Option Addr} {n : Nat} {xs : List Int} (hw : W.heap[g]? = some (.cells #[a, b, .int .i64 x, .int .i64 y, c] TRJ (0, 0))) (ha : ∀ z, a ≠ .int .u8 z) (hb : ∀ z, b ≠ .int .u8 z) (hc : ∀ z, c ≠ .int .u8 z) (ha' : ∀ z, a' ≠ .int .u8 z) (hb' : ∀ z, b' ≠ .int .u8 z)
    (h : Kd.F (Kd.int .u8) W ok A n xs) : Kd.F (Kd.int .u8) (((((W.setCell ⟨g, 0, none⟩ a').setCell ⟨g, 1, none⟩ b').setCell ⟨g, 2, none⟩ (.int .i64 x')).setCell ⟨g, 3, none⟩ (.int .i64 y')).setCell ⟨g, 4, none⟩ c') ok A n xs := by
  have k0 : (W.setCell ⟨g, 0, none⟩ a').heap[g]? = some (.cells #[a', b, .int .i64 x, .int .i64 y, c] TRJ (0, 0)) := blk_put hw 0 _ rfl
  have k1 : ((W.setCell ⟨g, 0, none⟩ a').setCell ⟨g, 1, none⟩ b').heap[g]? = some (.cells #[a', b', .int .i64 x, .int .i64 y, c] TRJ (0, 0)) := blk_put k0 1 _ rfl
  have k2 : (((W.setCell ⟨g, 0, none⟩ a').setCell ⟨g, 1, none⟩ b').setCell ⟨g, 2, none⟩ (.int .i64 x')).heap[g]? = some (.cells #[a', b', .int .i64 x', .int .i64 y, c] TRJ (0, 0)) := blk_put k1 2 _ rfl
  have k3 : ((((W.setCell ⟨g, 0, none⟩ a').setCell ⟨g, 1, none⟩ b').setCell ⟨g, 2, none⟩ (.int .i64 x')).setCell ⟨g, 3, none⟩ (.int .i64 y')).heap[g]? = some (.cells #[a', b', .int .i64 x', .int .i64 y', c] TRJ (0, 0)) := blk_put k2 3 _ rfl
  exact F_set (F_set (F_set (F_set (F_set h (no_byte hw ha hb hc)) (no_byte k0 ha' hb hc)) (no_byte k1 ha' hb' hc)) (no_byte k2 ha' hb' hc)) (no_byte k3 ha' hb' hc)
end Go.Proofs.Ytogjnipojakfjaa.JJour

/- The walk of the law JournalDoes. -/
namespace Go.Proofs.Ytogjnipojakfjaa.JJour
open Go.RowKit Go.Proofs.Ytogjnipojakfjaa.PJd Go.Proofs.YtogjnipojakfjaaW.PrintWords Go.Proofs.YtogjnipojakfjaaW.PrintLast Go.Proofs.YtogjnipojakfjaaW.PrintMore
open LSame (Byt)
open LChain (msgS tagS zeroT)
open DDev (Dev dev_below dev_kept dev_drewN dev_mono T8 TD heldN)
set_option linter.unusedVariables false
set_option linter.unusedSimpArgs false
abbrev Opn := S56
abbrev kO := k56
theorem rlarge_l0 (L : List Opn) : ∀ (d i : Nat), d + i = min L.length 20 → (∀ j : Nat, j < i → (rd_T56 L (j : Int)).f3.length ≤ 300) → ∃ r, Ev (fun m => notaryref49_Large.l0 m L (i : Int)) r ∧ (r = false → L.length ≤ 20 ∧ ∀ j : Nat, j < L.length → (rd_T56 L (j : Int)).f3.length ≤ 300)
  | 0, i => fun h hj => by
    refine ⟨decide ((L.length : Int) > 20), ?_, fun h2 => by have := of_decide_eq_false h2; exact ⟨by omega, fun j hj2 => hj j (by omega)⟩⟩
    have hj1 : Ev (fun m => notaryref49_Large.j1 m L (i : Int) false) (decide ((L.length : Int) > 20)) := Ev.step (fun m => notaryref49_Large.j1.eq_2 ..) (LEv.neg (by decide) (Ev.now _))
    refine Ev.step (fun m => notaryref49_Large.l0.eq_2 ..) ?_
    by_cases hl : (i : Int) < (L.length : Int)
    · refine LEv.pos hl ?_
      rw [decide_eq_false (by omega)]
      exact hj1
    · exact LEv.neg hl hj1
  | d + 1, i => fun h hj => by
    have hl : (i : Int) < (L.length : Int) := by omega
    have hw : wrap64 ((i : Int) + 1) = ((i + 1 : Nat) : Int) := by rw [LEv.w64 _ (by omega) (by omega)]; omega
    have go : ∀ r, Ev (fun m => notaryref49_Large.j1 m L (i : Int) true) r → Ev (fun m => notaryref49_Large.l0 m L (i : Int)) r := fun r k => by
      refine Ev.step (fun m => notaryref49_Large.l0.eq_2 ..) (LEv.pos hl ?_)
      rw [decide_eq_true (by omega)]
      exact k
    by_cases hb : (((rd_T56 L (i : Int)).f3).length : Int) > 300
    · exact ⟨true, go _ (Ev.step (fun m => notaryref49_Large.j1.eq_2 ..) (LEv.pos rfl (LEv.pos (by omega) (LEv.pos hl (LEv.pos hb (Ev.now _)))))), fun h => by simp at h⟩
    by_cases hb2 : (((rd_T56 L (i : Int)).f1.f1).length : Int) > 2000
    · exact ⟨true, go _ (Ev.step (fun m => notaryref49_Large.j1.eq_2 ..) (LEv.pos rfl (LEv.pos (by omega) (LEv.pos hl (LEv.neg hb (LEv.pos hb2 (Ev.now _))))))), fun h => by simp at h⟩
    obtain ⟨r, hr, hh⟩ := rlarge_l0 L d (i + 1) (by omega) (fun j hj2 => by
      by_cases hji : j = i
      · rw [hji]; omega
      · exact hj j (by omega))
    refine ⟨r, go _ (Ev.step (fun m => notaryref49_Large.j1.eq_2 ..) (LEv.pos rfl (LEv.pos (by omega) (LEv.pos hl (LEv.neg hb (LEv.neg hb2 ?_)))))), hh⟩
    rw [hw]
    exact hr
theorem rlarge_ev (L : List Opn) : ∃ r, Ev (fun m => notaryref49_Large.f m L) r ∧ (r = false → L.length ≤ 20 ∧ ∀ j : Nat, j < L.length → (rd_T56 L (j : Int)).f3.length ≤ 300) := by
  obtain ⟨r, h1, h2⟩ := rlarge_l0 L (min L.length 20) 0 (by omega) (fun j hj => by omega)
  exact ⟨r, Ev.congr (fun m => notaryref49_Large.f.eq_1 ..) h1, h2⟩
theorem rlarge_ret (k : Nat) (A : Option Addr) (c : Nat) (l : List Opn) (r : Bool) (w : World) (h0 : Kd.C kO w A l.length l) (h1 : l.length ≤ c) (h : notaryref49_Large.f k l = some r) :
    Calls Try.prog 27 #[.slice A l.length c] w fun e w' => e = .returned (.bool r) ∧ Below w.heap.size w w' :=
  (notaryref49_Large.calls k A c l r w h0 h1 h).mono (fun e w' ⟨a, n, hb⟩ => ⟨a, by rw [hb]; exact pw_below_drewN (Below.refl _ _) n⟩)
theorem rnew_any (n : Int) : notaryref48_New.f n = some (heldN n 65536, 0, []) := by
  unfold notaryref48_New.f notaryref48_Between.f heldN mn mx
  by_cases h1 : n < 0
  · rw [if_pos h1, if_pos h1]
    rfl
  · rw [if_neg h1, if_neg h1]
    by_cases h2 : n > 65536
    · rw [if_pos h2, if_pos (by omega)]; rfl
    · rw [if_neg h2, if_neg (by omega)]; rfl
theorem doS_good (s : St) (hG : Good s) (k : Int) (e : Ent) (heb : Byt e.f1) (n : Int) (y : List Int) (hyb : Byt y) : Good (doS s k e n y).2 ∧ (doS s k e n y).2.key = s.key := by
  unfold doS
  split
  · refine ⟨appS_good s e hG heb, ?_⟩
    unfold appS
    split
    · split <;> rfl
    · rfl
  split
  · exact ⟨⟨hG.r0, hG.r1, hG.b0, by simp, by simp, hG.bb, hG.tl, hG.tb, hG.kl, hG.kb, hG.nl, hG.nb, hG.le⟩, rfl⟩
  split
  · refine ⟨openS_good s.key s.room _ _ hG.r0 hG.r1 ?_ (Int.natCast_nonneg _) (hG.bb.take _) hG.kb hG.kl, rfl⟩
    have := hG.b0
    rw [List.length_take]
    omega
  split
  · have h : Byt (appB s.room s.bs y).2 ∧ ((appB s.room s.bs y).2.length : Int) ≤ s.room := by
      unfold appB
      split
      · exact ⟨hG.bb, hG.b0⟩
      · refine ⟨hG.bb.append hyb, ?_⟩
        simp only [List.length_append]
        omega
    exact ⟨openS_good s.key s.room s.sure _ hG.r0 hG.r1 h.2 hG.s0 h.1 hG.kb hG.kl, rfl⟩
  · exact ⟨hG, rfl⟩
theorem rc_kept {w we : World} {P S : Nat → Prop} {s : St} {AL AT AB : Option Addr} {cl ct cb : Nat} (h : RC w P s AL cl AT ct AB cb) (hk : Kept w we S) (hp : ∀ q, P q → ¬ S q) : RC we P s AL cl AT ct AB cb :=
  ⟨⟨h.l.1, Kd.F_kept h.l.2 hk hp⟩, ⟨h.t.1, Kd.F_kept h.t.2 hk hp⟩, ⟨h.b.1, Kd.F_kept h.b.2 hk hp⟩⟩
theorem do_k (key : List Int) (w0 : World) (gj gd : Nat) (O : Nat → Prop) (s : St) (hkey : s.key = key) (hG : Good s) (Ak : Option Addr) (ck : Nat) (k : Int) (e : Ent) (heb : Byt e.f1) (n : Int) (y : List Int) (hyb : Byt y) (hyl : y.length ≤ 65536) (er : Int) (sp : St) (hdo : doS s k e n y = (er, sp)) (Ae Ay : Option Addr) (ce cy : Nat) (W : World) (h : Jn W w0.heap.size gj gd O s) (HB0_ : Below w0.heap.size w0 W) (hck : key.length ≤ ck) (hK : Kd.F (Kd.int .u8) W (fun q => ¬ O q) Ak key.length key) (hce : e.f1.length ≤ ce) (hE : Kd.F (Kd.int .u8) W (fun q => ¬ O q) Ae e.f1.length e.f1) (hcy : y.length ≤ cy) (hY : Kd.F (Kd.int .u8) W (fun q => ¬ O q) Ay y.length y) :
    Calls Try.prog 28 #[.slice Ak key.length ck, .pointer (some ⟨gj, 0, none⟩), .pointer (some ⟨gd, 0, none⟩), .agg #[.int .i64 k, .int .i64 e.f0, .slice Ae e.f1.length ce, .int .i64 n, .slice Ay y.length cy]] W fun x w' => ∃ gj' O', x = .returned (.tuple #[.pointer (some ⟨gj', 0, none⟩), .int .i64 er]) ∧ Jn w' w0.heap.size gj' gd O' sp ∧ Kept W w' O ∧ (∀ q, q < W.heap.size → O' q → O q) ∧ Below w0.heap.size w0 w' := by
  subst hkey
  have := do.calls w0 gj gd O s hG Ak ck k e heb n y hyb hyl Ae Ay ce cy W h HB0_ hck hK hce hE hcy hY
  rw [hdo] at this
  exact this
theorem rdo_k (key : List Int) (s : St) (hkey : s.key = key) (hG : Good s) (Ak : Option Addr) (ck : Nat) (k : Int) (e : Ent) (heb : Byt e.f1) (n : Int) (y : List Int) (hyb : Byt y) (hyl : y.length ≤ 65536) (er : Int) (sp : St) (hdo : doS s k e n y = (er, sp)) (Ae Ay : Option Addr) (ce cy : Nat) (AL AT AB : Option Addr) (cl ct cb : Nat) (P : Nat → Prop) (W : World) (hck : key.length ≤ ck) (hK : Kd.C (Kd.int .u8) W Ak key.length key) (hRC : RC W P s AL cl AT ct AB cb) (hce : e.f1.length ≤ ce) (hE : Kd.F (Kd.int .u8) W P Ae e.f1.length e.f1) (hcy : y.length ≤ cy) (hY : Kd.C (Kd.int .u8) W Ay y.length y) :
    Calls Try.prog 29 #[.slice Ak key.length ck, .agg #[.slice AL s.L.length cl, .slice AT s.tag.length ct, .int .i64 s.room, .int .i64 s.sure, .slice AB s.bs.length cb], .agg #[.int .i64 k, .int .i64 e.f0, .slice Ae e.f1.length ce, .int .i64 n, .slice Ay y.length cy]] W fun x w' => ∃ AL' cl' AT' ct' AB' cb', x = .returned (.tuple #[.agg #[.slice AL' sp.L.length cl', .slice AT' sp.tag.length ct', .int .i64 sp.room, .int .i64 sp.sure, .slice AB' sp.bs.length cb'], .int .i64 er]) ∧ RC w' (fun q => P q ∨ W.heap.size ≤ q) sp AL' cl' AT' ct' AB' cb' ∧ Below W.heap.size W w' := by
  subst hkey
  have := rdo s hG Ak ck k e heb n y hyb hyl Ae Ay ce cy AL AT AB cl ct cb P W hck hK hRC hce hE hcy hY
  rw [hdo] at this
  exact this
set_option maxHeartbeats 32000000 in
set_option maxRecDepth 100000 in
theorem does (w : World) (key : List Int) (Ak : Option Addr) (ck : Nat) (room : Int) (l : List Opn) (Al : Option Addr) (cl0 : Nat) (hck : key.length ≤ ck) (hK : Kd.C (Kd.int .u8) w Ak key.length key) (hkb : Byt key) (hcl : l.length ≤ cl0) (hL : Kd.C kO w Al l.length l) (hlb : ∀ o ∈ l, Byt o.f1.f1 ∧ Byt o.f3) :
    Calls Try.prog 6 #[.slice Ak key.length ck, .int .i64 room, .slice Al l.length cl0] w fun x w' => x = .returned (.bool true) ∧ Below w.heap.size w w' := by
  obtain ⟨la, hla, hsa⟩ := rlarge_ev l
  obtain ⟨k1, hk1⟩ := Ev.rounds hla
  have HK := Aside0.mk (And.intro hck hK)
  have HKB := Aside0.mk hkb
  have HL := Aside0.mk (And.intro hcl hL)
  have HLB := Aside0.mk hlb
  have HK1 := Aside0.mk hk1
  clear hck hK hkb hcl hL hlb hla hk1
  cases la with
  | true =>
    clear hsa
    go_enter Try.func6, Try.ntmps6
    go_wp2_with (first | (go_at_call 27; (with_reducible refine (rlarge_ret k1 Al cl0 l true _ (Kd.C_below HL.out.2 (by with_reducible repeat (first | exact Below.refl _ _ | apply below_alloc | apply below_drew))) HL.out.1 HK1.out).mono ?_); rintro x w1 ⟨rfl, hb1⟩; (have HB1 : Aside0 (Below w.heap.size w w1) := ⟨below_step (by with_reducible repeat (first | exact Below.refl _ _ | apply below_alloc | apply below_drew)) hb1⟩); clear hb1) | (go_at_call 9; (with_reducible refine (awake.calls _).mono ?_); rintro x wa ⟨rfl, hba⟩; (have HBA : Aside0 (Below w1.heap.size w1 wa) := ⟨below_step (by with_reducible repeat (first | exact Below.refl _ _ | apply below_alloc | apply below_drew)) hba⟩); clear hba))
    go_ret
    exact ⟨rfl, HB1.out.trans (HBA.out.mono HB1.out.size)⟩
  | false =>
  obtain ⟨hl20, hl300⟩ := hsa rfl
  by_cases hk100 : (key.length : Int) > 100
  · have hd : decide ((key.length : Int) > 100) = true := decide_eq_true hk100
    have hd2 : decide (100 < key.length) = true := decide_eq_true (by omega)
    clear hk100 hl20 hl300 hsa
    go_enter Try.func6, Try.ntmps6
    go_wp2_with (first | (go_at_call 27; (with_reducible refine (rlarge_ret k1 Al cl0 l false _ (Kd.C_below HL.out.2 (by with_reducible repeat (first | exact Below.refl _ _ | apply below_alloc | apply below_drew))) HL.out.1 HK1.out).mono ?_); rintro x w1 ⟨rfl, hb1⟩; (have HB1 : Aside0 (Below w.heap.size w w1) := ⟨below_step (by with_reducible repeat (first | exact Below.refl _ _ | apply below_alloc | apply below_drew)) hb1⟩); clear hb1) | (go_at_call 9; (with_reducible refine (awake.calls _).mono ?_); rintro x wa ⟨rfl, hba⟩; (have HBA : Aside0 (Below w1.heap.size w1 wa) := ⟨below_step (by with_reducible repeat (first | exact Below.refl _ _ | apply below_alloc | apply below_drew)) hba⟩); clear hba))
    go_ret
    exact ⟨rfl, HB1.out.trans (HBA.out.mono HB1.out.size)⟩
  have hd : decide ((key.length : Int) > 100) = false := decide_eq_false hk100
  have hd2 : decide (100 < key.length) = false := decide_eq_false (by omega)
  have HL20 := Aside0.mk hl20
  have HL300 := Aside0.mk hl300
  have HKL : Aside0 (key.length ≤ 1000) := ⟨by omega⟩
  have hr0 : 0 ≤ heldN room 65536 ∧ heldN room 65536 ≤ 65536 := by unfold heldN mn mx; split <;> split <;> omega
  obtain ⟨rm, hrm⟩ : ∃ rm, rm = heldN room 65536 := ⟨_, rfl⟩
  have hnw := rnew_any room
  rw [← hrm] at hr0 hnw
  obtain ⟨s, hs0⟩ : ∃ s, s = openS key rm 0 [] := ⟨_, rfl⟩
  have hg0 := openS_good key rm 0 [] hr0.1 hr0.2 (by simp; exact hr0.1) (by decide) Byt.nil HKB.out HKL.out
  rw [← hs0] at hg0
  have HRM := Aside0.mk hrm
  have HNW := Aside0.mk hnw
  have HS0 := Aside0.mk hs0
  have HG0 := Aside0.mk hg0
  have HKY : Aside0 (s.key = key) := ⟨by rw [hs0]; rfl⟩
  clear hk100 hl20 hl300 hsa hr0 hrm hnw hs0 hg0
  go_enter Try.func6, Try.ntmps6
  go_upto_region 6 with (first | (go_at_call 21; (refine (ropen_n key Ak ck rm 0 [] 0 rfl A5 c5 (fun q => w4.heap.size ≤ q) _ HK.out.1 (Kd.C_below HK.out.2 (HB4.out.trans ((below_step HB5.out (by with_reducible repeat (first | exact Below.refl _ _ | apply below_alloc | apply below_drew))).mono HB4.out.size))) (Nat.zero_le _) (Kd.F_below HO5.out (by with_reducible repeat (first | exact Below.refl _ _ | apply below_alloc | apply below_drew))) Byt.nil (by decide) HKB.out HKL.out (by decide) s HS0.out).mono ?_); rintro x w6 ⟨AL, cl, AT, ct, AB, cb, rfl, h0_, h1_, h4_, hb6⟩; (have HB6 : Aside0 (Below w4.heap.size w4 w6) := ⟨below_step (below_step HB5.out (by with_reducible repeat (first | exact Below.refl _ _ | apply below_alloc | apply below_drew))) hb6⟩); (have HR6 : Aside0 (RC w6 (fun q => w4.heap.size ≤ q) s AL cl AT ct AB cb) := ⟨⟨⟨h0_.1, Kd.F_mono h0_.2 (fun q hq => Nat.le_trans HB5.out.size hq)⟩, ⟨h1_.1, Kd.F_mono h1_.2 (fun q hq => Nat.le_trans HB5.out.size hq)⟩, h4_⟩⟩); clear h0_ h1_ h4_ hb6) | (go_at_call 19; (with_reducible refine (notaryref48_New.calls room rm 0 [] _ HNW.out).mono ?_); rintro x w5 ⟨v5, rfl, ho5, hb5⟩; (obtain ⟨A5, c5, e5⟩ := Kd.R_slice ho5); (replace e5 : v5 = .slice A5 0 c5 := e5); subst e5; (have HO5 : Aside0 (Kd.F (Kd.int .u8) w5 (fun q => w4.heap.size ≤ q) A5 ([] : List Int).length []) := ⟨Kd.F_mono (Kd.R_F (Kd.R_bound ho5)) (fun q hq => hq.2.1)⟩); (have HB5 : Aside0 (Below w4.heap.size w4 w5) := ⟨below_step (by with_reducible repeat (first | exact Below.refl _ _ | apply below_alloc | apply below_drew)) hb5⟩); clear ho5 hb5) | (go_at_call 10; (with_reducible refine (Open.calls w gd (fun _ => False) rm 0 [] (.slice none 0 0) key Ak ck _ (dev_below HD2.out (by with_reducible repeat (first | exact Below.refl _ _ | apply below_alloc | apply below_drew))) (below_step HB2.out (by with_reducible repeat (first | exact Below.refl _ _ | apply below_alloc | apply below_drew))) HK.out.1 (Kd.C_below HK.out.2 (below_step HB2.out (by with_reducible repeat (first | exact Below.refl _ _ | apply below_alloc | apply below_drew)))) (by decide) Byt.nil HKB.out HKL.out).mono ?_); rintro x w4 ⟨gj, O4, rfl, hj4, hk4, ho4, hb4⟩; (rw [← HS0.out] at hj4); (have HJ4 := Aside0.mk hj4); (have HB4 : Aside0 (Below w.heap.size w w4) := ⟨hb4⟩); clear hj4 hk4 ho4 hb4) | (go_at_call 11; (with_reducible refine (DDev.New.calls room _).mono ?_); rintro x w2 ⟨gd, rfl, hg2, hb2, hd2⟩; (rw [← HRM.out] at hd2); (have HB2 : Aside0 (Below w.heap.size w w2) := ⟨HB1.out.trans (Below.mono (below_step (by with_reducible repeat (first | exact Below.refl _ _ | apply below_alloc | apply below_drew)) hb2) HB1.out.size)⟩); (have HD2 : Aside0 (Dev w2 w.heap.size gd (fun _ => False) rm 0 [] (.slice none 0 0)) := ⟨dev_lower hd2 HB1.out.size⟩); clear hd2 hb2 hg2) | (go_at_call 27; (with_reducible refine (rlarge_ret k1 Al cl0 l false _ (Kd.C_below HL.out.2 (by with_reducible repeat (first | exact Below.refl _ _ | apply below_alloc | apply below_drew))) HL.out.1 HK1.out).mono ?_); rintro x w1 ⟨rfl, hb1⟩; (have HB1 : Aside0 (Below w.heap.size w w1) := ⟨below_step (by with_reducible repeat (first | exact Below.refl _ _ | apply below_alloc | apply below_drew)) hb1⟩); clear hb1))
  obtain ⟨gw, hgw⟩ : ∃ gw, gw = w6.heap.size := ⟨_, rfl⟩
  obtain ⟨w7, hw7⟩ : ∃ w7 : World, w7 = w6.alloc (.cells #[.slice AL s.L.length cl, .slice AT s.tag.length ct, .int .i64 s.room, .int .i64 s.sure, .slice AB s.bs.length cb] TRJ) := ⟨_, rfl⟩
  have hb7 : Below w6.heap.size w6 w7 := by rw [hw7]; exact below_alloc (Below.refl _ _) _
  have hb47 : Below w4.heap.size w4 w7 := HB6.out.trans (hb7.mono HB6.out.size)
  have hown := jn_own HJ4.out
  have h6 := HB6.out.size
  have I1 := Aside0.mk (jn_below HJ4.out hb47)
  have I2 : Aside0 (¬ O4 gw) := ⟨fun h => by have := (hown _ h).2; omega⟩
  have I3 : Aside0 (RC w7 (fun q => ¬ O4 q ∧ q ≠ gw) s AL cl AT ct AB cb) := ⟨rc_mono (rc_below (rc_bound HR6.out) hb7) (fun q hq => ⟨fun h => by have h1 := (hown _ h).2; have h2 : w4.heap.size ≤ q := hq.1; omega, by have := hq.2; omega⟩)⟩
  have I4 : Aside0 (Below w.heap.size w w7) := ⟨HB4.out.trans (hb47.mono HB4.out.size)⟩
  have I5 : Aside0 (w7.heap[gw]? = some (.cells #[.slice AL s.L.length cl, .slice AT s.tag.length ct, .int .i64 s.room, .int .i64 s.sure, .slice AB s.bs.length cb] TRJ (0, 0))) := ⟨by rw [hw7, hgw]; exact blk_new _ _⟩
  have GW : Aside0 (w.heap.size ≤ gw) := ⟨by have := HB4.out.size; omega⟩
  try simp only [← hgw]
  try simp only [← hw7]
  try rw [← hw7]
  clear hgw hw7 hb7 hb47 hown h6 HJ4 HR6 HB6 HB5 HB4 HO5 HB1 HB2 HD2
  go_wp2
  go_loopg [8, 10] l.length (fun q v8 v10 w' => ∃ (i gj : Nat) (s : St) (O : Nat → Prop) (AL : Option Addr) (cl : Nat) (AT : Option Addr) (ct : Nat) (AB : Option Addr) (cb : Nat), v8 = .pointer (some ⟨gj, 0, none⟩) ∧ v10 = .int .i64 (i : Int) ∧ i + q = l.length ∧ Aside0 (Jn w' w.heap.size gj gd O s) ∧ Aside0 (Good s) ∧ Aside0 (s.key = key) ∧ Aside0 (w'.heap[gw]? = some (.cells #[.slice AL s.L.length cl, .slice AT s.tag.length ct, .int .i64 s.room, .int .i64 s.sure, .slice AB s.bs.length cb] TRJ (0, 0))) ∧ Aside0 (¬ O gw) ∧ Aside0 (RC w' (fun q => ¬ O q ∧ q ≠ gw) s AL cl AT ct AB cb) ∧ Aside0 (Below w.heap.size w w'))
  case atStart => exact ⟨0, gj, s, O4, AL, cl, AT, ct, AB, cb, rfl, rfl, by omega, I1, HG0, HKY, I5, I2, I3, I4⟩
  case round =>
    clear I1 I2 I3 I4 I5 HG0 HKY HS0
    obtain ⟨i, gj, s, O, AL, cl, AT, ct, AB, cb, rfl, rfl, hiq, HJ, HG, HKY, KW, HNG, HRC, HB⟩ := hrel
    cases gk with
    | zero =>
      have d1 : decide ((i : Int) < (l.length : Int)) = false := decide_eq_false (by omega)
      have d2 : decide (i < l.length) = false := decide_eq_false (by omega)
      go_wp2_with (go_at_call 9; (with_reducible refine (awake.calls _).mono ?_); rintro x wa ⟨rfl, hba⟩; (have HBA : Aside0 (Below wr.heap.size wr wa) := ⟨below_step (by with_reducible repeat (first | exact Below.refl _ _ | apply below_alloc | apply below_drew)) hba⟩); clear hba)
      go_ret
      exact ⟨rfl, HB.out.trans (HBA.out.mono HB.out.size)⟩
    | succ q =>
      have d1 : decide ((i : Int) < (l.length : Int)) = true := decide_eq_true (by omega)
      have d2 : decide (i < l.length) = true := decide_eq_true (by omega)
      have p0 : 0 ≤ (i : Int) := by omega
      have p1 : (i : Int) < (l.length : Int) := by omega
      have hw1 : IntKind.i64.wrap ((i : Int) + 1) = ((i + 1 : Nat) : Int) := by rw [IntWalk.i64_in _ (by have := HL20.out; omega)]; omega
      obtain ⟨ad, Ae, ce, Ay, cy, ea, m0, m1, m2, m3, m4, hle, hce, hly, hcy⟩ := at_T56 HL.out.2 (i : Int) p0 p1
      obtain ⟨o, ho⟩ : ∃ o, o = rd_T56 l (i : Int) := ⟨_, rfl⟩
      have hoy : o.f3.length ≤ 65536 := by have := HL300.out i (by omega); rw [ho]; omega
      have hob : Byt o.f1.f1 ∧ Byt o.f3 := by
        rw [ho]
        unfold rd_T56
        rw [Int.toNat_natCast, List.getD_eq_getElem?_getD, List.getElem?_eq_getElem (show i < l.length by omega)]
        exact HLB.out _ (List.getElem_mem _)
      rw [← ho] at m0 m1 m2 m3 m4 hle hce hly hcy
      rw [Int.toNat_natCast] at m0 m1 m2 m3 m4
      subst ea
      have n0 := pw_cell_below HB.out m0
      have n1 := pw_cell_below HB.out m1
      have n2 := pw_cell_below HB.out m2
      have n3 := pw_cell_below HB.out m3
      have n4 := pw_cell_below HB.out m4
      have HOW := Aside0.mk (jn_own HJ.out)
      have HEF := Aside0.mk (And.intro hle (offF (Kd.C_F heapI hce) HB.out HOW.out))
      have HYF := Aside0.mk (And.intro hly (offF (Kd.C_F heapI hcy) HB.out HOW.out))
      have HKF := Aside0.mk (offF (Kd.C_F heapI HK.out.2) HB.out HOW.out)
      have HOB := Aside0.mk (And.intro hob.1 (And.intro hob.2 hoy))
      have HYC := Aside0.mk hcy
      have HEC := Aside0.mk hce
      have HIQ := Aside0.mk hiq
      obtain ⟨er, sp, hdo⟩ : ∃ er sp, doS s o.f0 o.f1 o.f2 o.f3 = (er, sp) := ⟨_, _, rfl⟩
      have hgd := doS_good s HG.out o.f0 o.f1 HOB.out.1 o.f2 o.f3 HOB.out.2.1
      rw [hdo] at hgd
      have HDO := Aside0.mk hdo
      have HGP := Aside0.mk hgd
      clear ho hle hce hly hcy hoy hob hiq hdo hgd
      replace p0 := eq_true p0
      replace p1 := eq_true p1
      go_upto_region 12 with (go_at_call 28; (with_reducible refine (do_k key w gj gd O s HKY.out HG.out Ak ck o.f0 o.f1 HOB.out.1 o.f2 o.f3 HOB.out.2.1 HOB.out.2.2 er sp HDO.out Ae Ay ce cy _ (jn_below HJ.out (by with_reducible repeat (first | exact Below.refl _ _ | apply below_alloc | apply below_drew))) (below_step HB.out (by with_reducible repeat (first | exact Below.refl _ _ | apply below_alloc | apply below_drew))) HK.out.1 (Kd.F_below HKF.out (by with_reducible repeat (first | exact Below.refl _ _ | apply below_alloc | apply below_drew))) HEF.out.1 (Kd.F_below HEF.out.2 (by with_reducible repeat (first | exact Below.refl _ _ | apply below_alloc | apply below_drew))) HYF.out.1 (Kd.F_below HYF.out.2 (by with_reducible repeat (first | exact Below.refl _ _ | apply below_alloc | apply below_drew)))).mono ?_); rintro x w4 ⟨gj4, O4, rfl, hj4, hk4, ho4, hb4⟩; (have HJ4 := Aside0.mk hj4); (have HK4 : Aside0 (Kept wr w4 O) := ⟨hk4⟩); (have HO4 : Aside0 (∀ q, q < wr.heap.size → O4 q → O q) := ⟨ho4⟩); (have HB4 : Aside0 (Below w.heap.size w w4) := ⟨hb4⟩); (have kw4 := blk_kept KW.out hk4 HNG.out); (have KW4 := Aside0.mk kw4); (have g0 : w4.cell? ⟨gw, 0, none⟩ = some (.slice AL s.L.length cl) := (blk_cell kw4 0).trans rfl); (have g1 : w4.cell? ⟨gw, 1, none⟩ = some (.slice AT s.tag.length ct) := (blk_cell kw4 1).trans rfl); (have g2 : w4.cell? ⟨gw, 2, none⟩ = some (.int .i64 s.room) := (blk_cell kw4 2).trans rfl); (have g3 : w4.cell? ⟨gw, 3, none⟩ = some (.int .i64 s.sure) := (blk_cell kw4 3).trans rfl); (have g4 : w4.cell? ⟨gw, 4, none⟩ = some (.slice AB s.bs.length cb) := (blk_cell kw4 4).trans rfl); (have b0 := pw_cell_below HB4.out m0); (have b1 := pw_cell_below HB4.out m1); (have b2 := pw_cell_below HB4.out m2); (have b3 := pw_cell_below HB4.out m3); (have b4 := pw_cell_below HB4.out m4); clear hj4 hk4 ho4 hb4 kw4)
      have hgw : gw < wr.heap.size := blk_lt KW.out
      have RC4 : Aside0 (RC w4 (fun q => (¬ O q ∧ q ≠ gw) ∧ q < wr.heap.size) s AL cl AT ct AB cb) := ⟨rc_mono (rc_kept (rc_bound HRC.out) HK4.out (fun q hq h_ => absurd h_ hq.1.1)) (fun q hq => hq)⟩
      have hwr := HB.out.size
      have HE4 : Aside0 (o.f1.f1.length ≤ ce ∧ Kd.F (Kd.int .u8) w4 (fun q => (¬ O q ∧ q ≠ gw) ∧ q < wr.heap.size) Ae o.f1.f1.length o.f1.f1) := ⟨HEF.out.1, Kd.F_mono (Kd.F_below (Kd.C_F heapI HEC.out) HB4.out) (fun q hq => ⟨⟨fun h_ => by have := (HOW.out q h_).1; omega, by have := GW.out; omega⟩, Nat.lt_of_lt_of_le hq hwr⟩)⟩
      have HGL := Aside0.mk hgw
      clear hgw hwr
      go_region_held3 (fun w' => w'.cell? ⟨gw, 0, none⟩ = some (.slice AL s.L.length cl) ∧ w'.cell? ⟨gw, 1, none⟩ = some (.slice AT s.tag.length ct) ∧ w'.cell? ⟨gw, 2, none⟩ = some (.int .i64 s.room) ∧ w'.cell? ⟨gw, 3, none⟩ = some (.int .i64 s.sure) ∧ w'.cell? ⟨gw, 4, none⟩ = some (.slice AB s.bs.length cb) ∧ w'.cell? (ad.add (i * 5)) = some (.int .i64 o.f0) ∧ w'.cell? ⟨(ad.add (i * 5)).block, (ad.add (i * 5)).off + 1, none⟩ = some (.int .i64 o.f1.f0) ∧ w'.cell? ⟨(ad.add (i * 5)).block, (ad.add (i * 5)).off + 2, none⟩ = some (.slice Ae o.f1.f1.length ce) ∧ w'.cell? ⟨(ad.add (i * 5)).block, (ad.add (i * 5)).off + 3, none⟩ = some (.int .i64 o.f2) ∧ w'.cell? ⟨(ad.add (i * 5)).block, (ad.add (i * 5)).off + 4, none⟩ = some (.slice Ay o.f3.length cy)) (first | with_reducible exact ⟨pw_cell_below (by with_reducible repeat (first | exact HB45.out | exact Below.refl _ _ | apply below_alloc | apply below_drew | (refine below_set ?_ (Nat.le_refl _)) | (refine below_set ?_ HB45.out.size))) g0, pw_cell_below (by with_reducible repeat (first | exact HB45.out | exact Below.refl _ _ | apply below_alloc | apply below_drew | (refine below_set ?_ (Nat.le_refl _)) | (refine below_set ?_ HB45.out.size))) g1, pw_cell_below (by with_reducible repeat (first | exact HB45.out | exact Below.refl _ _ | apply below_alloc | apply below_drew | (refine below_set ?_ (Nat.le_refl _)) | (refine below_set ?_ HB45.out.size))) g2, pw_cell_below (by with_reducible repeat (first | exact HB45.out | exact Below.refl _ _ | apply below_alloc | apply below_drew | (refine below_set ?_ (Nat.le_refl _)) | (refine below_set ?_ HB45.out.size))) g3, pw_cell_below (by with_reducible repeat (first | exact HB45.out | exact Below.refl _ _ | apply below_alloc | apply below_drew | (refine below_set ?_ (Nat.le_refl _)) | (refine below_set ?_ HB45.out.size))) g4, pw_cell_below (by with_reducible repeat (first | exact HB45.out | exact Below.refl _ _ | apply below_alloc | apply below_drew | (refine below_set ?_ (Nat.le_refl _)) | (refine below_set ?_ HB45.out.size))) b0, pw_cell_below (by with_reducible repeat (first | exact HB45.out | exact Below.refl _ _ | apply below_alloc | apply below_drew | (refine below_set ?_ (Nat.le_refl _)) | (refine below_set ?_ HB45.out.size))) b1, pw_cell_below (by with_reducible repeat (first | exact HB45.out | exact Below.refl _ _ | apply below_alloc | apply below_drew | (refine below_set ?_ (Nat.le_refl _)) | (refine below_set ?_ HB45.out.size))) b2, pw_cell_below (by with_reducible repeat (first | exact HB45.out | exact Below.refl _ _ | apply below_alloc | apply below_drew | (refine below_set ?_ (Nat.le_refl _)) | (refine below_set ?_ HB45.out.size))) b3, pw_cell_below (by with_reducible repeat (first | exact HB45.out | exact Below.refl _ _ | apply below_alloc | apply below_drew | (refine below_set ?_ (Nat.le_refl _)) | (refine below_set ?_ HB45.out.size))) b4⟩ | go_keep) (first | (go_at_call 29; with_reducible refine (rdo_k key s HKY.out HG.out Ak ck o.f0 o.f1 HOB.out.1 o.f2 o.f3 HOB.out.2.1 HOB.out.2.2 er sp HDO.out Ae Ay ce cy AL AT AB cl ct cb (fun q => (¬ O q ∧ q ≠ gw) ∧ q < wr.heap.size) _ HK.out.1 (Kd.C_below HK.out.2 (below_step HB4.out (by with_reducible repeat (first | exact Below.refl _ _ | apply below_alloc | apply below_drew)))) (rc_below RC4.out (by with_reducible repeat (first | exact Below.refl _ _ | apply below_alloc | apply below_drew))) HE4.out.1 (Kd.F_below HE4.out.2 (by with_reducible repeat (first | exact Below.refl _ _ | apply below_alloc | apply below_drew))) HYF.out.1 (Kd.C_below HYC.out (below_step HB4.out (by with_reducible repeat (first | exact Below.refl _ _ | apply below_alloc | apply below_drew))))).mono ?_; rintro x w5 ⟨AL2, cl2, AT2, ct2, AB2, cb2, rfl, hrc5, hb5⟩; (have hb45 : Below w4.heap.size w4 w5 := below_step (by with_reducible repeat (first | exact Below.refl _ _ | apply below_alloc | apply below_drew)) hb5); (have y0 := pw_cell_below hb45 g0); (have y1 := pw_cell_below hb45 g1); (have y2 := pw_cell_below hb45 g2); (have y3 := pw_cell_below hb45 g3); (have y4 := pw_cell_below hb45 g4); (have t0 := pw_cell_below hb45 b0); (have t1 := pw_cell_below hb45 b1); (have t2 := pw_cell_below hb45 b2); (have t3 := pw_cell_below hb45 b3); (have t4 := pw_cell_below hb45 b4); (have ny0 := World.new_ne w5 _ y0); (have ny1 := World.new_ne w5 _ y1); (have ny2 := World.new_ne w5 _ y2); (have ny3 := World.new_ne w5 _ y3); (have ny4 := World.new_ne w5 _ y4); (have nt0 := World.new_ne w5 _ t0); (have nt1 := World.new_ne w5 _ t1); (have nt2 := World.new_ne w5 _ t2); (have nt3 := World.new_ne w5 _ t3); (have nt4 := World.new_ne w5 _ t4); (have HRC5 := Aside0.mk hrc5); (have HB45 := Aside0.mk hb45); (have HB5 := Aside0.mk hb5); (try (with_reducible have hz9 : Below (w4.alloc (.cells #[.slice none 0 0, .slice none 0 0, .int .i64 0, .int .i64 0, .slice none 0 0] TRJ)).drew.heap.size (w4.alloc (.cells #[.slice none 0 0, .slice none 0 0, .int .i64 0, .int .i64 0, .slice none 0 0] TRJ)).drew w5 := hb5); (have hk9 : w5.heap[w4.heap.size]? = some (.cells #[.slice none 0 0, .slice none 0 0, .int .i64 0, .int .i64 0, .slice none 0 0] TRJ (0, 0)) := blk_below (blk_drew (blk_new w4 _)) hz9); (have HK9 := Aside0.mk hk9); (have qu0 := (blk_cell hk9 0).trans (show _ = some (.slice none 0 0) from rfl)); (have qf0 := blk_frozen hk9 0); (have q0 := blk_put hk9 0 (.slice AL2 sp.L.length cl2) rfl); (have qu1 := (blk_cell q0 1).trans (show _ = some (.slice none 0 0) from rfl)); (have qf1 := blk_frozen q0 1); (have q1 := blk_put q0 1 (.slice AT2 sp.tag.length ct2) rfl); (have qu2 := (blk_cell q1 2).trans (show _ = some (.int .i64 0) from rfl)); (have qf2 := blk_frozen q1 2); (have q2 := blk_put q1 2 (.int .i64 sp.room) rfl); (have qu3 := (blk_cell q2 3).trans (show _ = some (.int .i64 0) from rfl)); (have qf3 := blk_frozen q2 3); (have q3 := blk_put q2 3 (.int .i64 sp.sure) rfl); (have qu4 := (blk_cell q3 4).trans (show _ = some (.slice none 0 0) from rfl)); (have qf4 := blk_frozen q3 4); (have q4 := blk_put q3 4 (.slice AB2 sp.bs.length cb2) rfl); (have HQ9 := Aside0.mk q4); clear q0 q1 q2 q3 q4; clear hz9 hk9); clear hrc5 hb45 hb5))
      · rename_i hHeld
        clear hHeld
        obtain ⟨b13, hb13⟩ : ∃ b13, b13 = w5.heap.size := ⟨_, rfl⟩
        obtain ⟨wz, hwz⟩ : ∃ wz : World, wz = w5.alloc (.cells #[.slice AL2 sp.L.length cl2, .slice AT2 sp.tag.length ct2, .int .i64 sp.room, .int .i64 sp.sure, .slice AB2 sp.bs.length cb2] TRJ) := ⟨_, rfl⟩
        have hbz : Below w4.heap.size w4 wz := by rw [hwz]; exact below_alloc HB45.out _
        have kz : wz.heap[b13]? = some (.cells #[.slice AL2 sp.L.length cl2, .slice AT2 sp.tag.length ct2, .int .i64 sp.room, .int .i64 sp.sure, .slice AB2 sp.bs.length cb2] TRJ (0, 0)) := by rw [hwz, hb13]; exact blk_new _ _
        have hrz : RC wz (fun q => (fun q => (¬ O q ∧ q ≠ gw) ∧ q < wr.heap.size) q ∨ w4.heap.size ≤ q) sp AL2 cl2 AT2 ct2 AB2 cb2 := rc_mono (rc_below HRC5.out (by rw [hwz]; exact below_alloc (Below.refl _ _) _)) (fun q hq => hq.imp (fun h_ => h_) (fun h_ => h_))
        try rw [← hwz]
        try simp only [← hb13]
        clear hwz hb13 HRC5 HB5
        clear y0 t0 ny0 nt0 g0 b0 n0 m0 y1 t1 ny1 nt1 g1 b1 n1 m1 y2 t2 ny2 nt2 g2 b2 n2 m2 y3 t3 ny3 nt3 g3 b3 n3 m3 y4 t4 ny4 nt4 g4 b4 n4 m4
        have hown4 := jn_own HJ4.out
        have hk41 := HK4.out.1
        have hgl := HGL.out
        have NG4 : Aside0 (¬ O4 gw) := ⟨fun h_ => HNG.out (HO4.out gw hgl h_)⟩
        have RZ : Aside0 (RC wz (fun q => ¬ O4 q ∧ q ≠ gw) sp AL2 cl2 AT2 ct2 AB2 cb2) := ⟨rc_mono hrz (fun q hq => by
          rcases hq with hq | hq
          · exact ⟨fun h_ => hq.1.1 (HO4.out q hq.2 h_), hq.1.2⟩
          · exact ⟨fun h_ => by have := (hown4 q h_).2; omega, by omega⟩)⟩
        have kwz := blk_below KW4.out hbz
        have HJZ := Aside0.mk (jn_below HJ4.out hbz)
        have HBZ := Aside0.mk hbz
        have KWZ := Aside0.mk kwz
        have z0 : wz.cell? ⟨b13, 0, none⟩ = some (.slice AL2 sp.L.length cl2) := (blk_cell kz 0).trans rfl
        have z1 : wz.cell? ⟨b13, 1, none⟩ = some (.slice AT2 sp.tag.length ct2) := (blk_cell kz 1).trans rfl
        have z2 : wz.cell? ⟨b13, 2, none⟩ = some (.int .i64 sp.room) := (blk_cell kz 2).trans rfl
        have z3 : wz.cell? ⟨b13, 3, none⟩ = some (.int .i64 sp.sure) := (blk_cell kz 3).trans rfl
        have z4 : wz.cell? ⟨b13, 4, none⟩ = some (.slice AB2 sp.bs.length cb2) := (blk_cell kz 4).trans rfl
        have qu0 := (blk_cell kwz 0).trans (show _ = some (.slice AL s.L.length cl) from rfl)
        have qf0 := blk_frozen kwz 0
        have q0 := blk_put kwz 0 (.slice AL2 sp.L.length cl2) rfl
        have qu1 := (blk_cell q0 1).trans (show _ = some (.slice AT s.tag.length ct) from rfl)
        have qf1 := blk_frozen q0 1
        have q1 := blk_put q0 1 (.slice AT2 sp.tag.length ct2) rfl
        have qu2 := (blk_cell q1 2).trans (show _ = some (.int .i64 s.room) from rfl)
        have qf2 := blk_frozen q1 2
        have q2 := blk_put q1 2 (.int .i64 sp.room) rfl
        have qu3 := (blk_cell q2 3).trans (show _ = some (.int .i64 s.sure) from rfl)
        have qf3 := blk_frozen q2 3
        have q3 := blk_put q2 3 (.int .i64 sp.sure) rfl
        have qu4 := (blk_cell q3 4).trans (show _ = some (.slice AB s.bs.length cb) from rfl)
        have qf4 := blk_frozen q3 4
        have q4 := blk_put q3 4 (.slice AB2 sp.bs.length cb2) rfl
        have HQ := Aside0.mk q4
        have ee : (er != er) = false := by simp
        clear hown4 hk41 hgl hrz hbz kz kwz q0 q1 q2 q3 q4
        go_upto_region 15 with (fail)
        obtain ⟨wg, hwg⟩ : ∃ wg : World, wg = (((((wz.setCell ⟨gw, 0, none⟩ (.slice AL2 sp.L.length cl2)).setCell ⟨gw, 1, none⟩ (.slice AT2 sp.tag.length ct2)).setCell ⟨gw, 2, none⟩ (.int .i64 sp.room)).setCell ⟨gw, 3, none⟩ (.int .i64 sp.sure)).setCell ⟨gw, 4, none⟩ (.slice AB2 sp.bs.length cb2)) := ⟨_, rfl⟩
        have hkg : Kept wz wg (fun q => q = gw) := by rw [hwg]; exact Kept.setCell (S := fun q => q = gw) (p := ⟨gw, 4, none⟩) (Kept.setCell (S := fun q => q = gw) (p := ⟨gw, 3, none⟩) (Kept.setCell (S := fun q => q = gw) (p := ⟨gw, 2, none⟩) (Kept.setCell (S := fun q => q = gw) (p := ⟨gw, 1, none⟩) (Kept.setCell (S := fun q => q = gw) (p := ⟨gw, 0, none⟩) (Kept.refl _ _) (.inl rfl) _) (.inl rfl) _) (.inl rfl) _) (.inl rfl) _) (.inl rfl) _
        have kg : wg.heap[gw]? = some (.cells #[.slice AL2 sp.L.length cl2, .slice AT2 sp.tag.length ct2, .int .i64 sp.room, .int .i64 sp.sure, .slice AB2 sp.bs.length cb2] TRJ (0, 0)) := by rw [hwg]; exact HQ.out
        have HJg : Aside0 (Jn wg w.heap.size gj4 gd O4 sp) := ⟨jn_set HJZ.out NG4.out (fun ok A xs hf => by rw [hwg]; exact F_set5 KWZ.out (fun z => by simp) (fun z => by simp) (fun z => by simp) (fun z => by simp) (fun z => by simp) hf) hkg (blk_lt KWZ.out)⟩
        have HRg : Aside0 (RC wg (fun q => ¬ O4 q ∧ q ≠ gw) sp AL2 cl2 AT2 ct2 AB2 cb2) := ⟨rc_set RZ.out hkg (fun q hq => hq.2)⟩
        have HBg : Aside0 (Below w.heap.size w wg) := ⟨by rw [hwg]; exact below_set (below_set (below_set (below_set (below_set (HB4.out.trans (HBZ.out.mono HB4.out.size)) GW.out) GW.out) GW.out) GW.out) GW.out⟩
        have KG := Aside0.mk kg
        try rw [← hwg]
        have v0 : wg.cell? ⟨gw, 0, none⟩ = some (.slice AL2 sp.L.length cl2) := (blk_cell kg 0).trans rfl
        have v1 : wg.cell? ⟨gw, 1, none⟩ = some (.slice AT2 sp.tag.length ct2) := (blk_cell kg 1).trans rfl
        have v2 : wg.cell? ⟨gw, 2, none⟩ = some (.int .i64 sp.room) := (blk_cell kg 2).trans rfl
        have v3 : wg.cell? ⟨gw, 3, none⟩ = some (.int .i64 sp.sure) := (blk_cell kg 3).trans rfl
        have v4 : wg.cell? ⟨gw, 4, none⟩ = some (.slice AB2 sp.bs.length cb2) := (blk_cell kg 4).trans rfl
        clear hwg hkg kg qu0 qf0 z0 qu1 qf1 z1 qu2 qf2 z2 qu3 qf3 z3 qu4 qf4 z4
        go_wp2_with (go_at_call 20; (with_reducible refine (like.calls w gj4 gd O4 sp HGP.out.1 AL2 AT2 AB2 cl2 ct2 cb2 sp.room sp.sure _ (jn_below HJg.out (by with_reducible repeat (first | exact Below.refl _ _ | apply below_alloc | apply below_drew))) HRg.out.l.1 (Kd.C_below (Kd.F_now HRg.out.l.2) (by with_reducible repeat (first | exact Below.refl _ _ | apply below_alloc | apply below_drew))) HRg.out.t.1 (Kd.C_below (Kd.F_now HRg.out.t.2) (by with_reducible repeat (first | exact Below.refl _ _ | apply below_alloc | apply below_drew))) HRg.out.b.1 (Kd.C_below (Kd.F_now HRg.out.b.2) (by with_reducible repeat (first | exact Below.refl _ _ | apply below_alloc | apply below_drew)))).mono ?_); rintro x wl ⟨rfl, hbl⟩; (have HBl : Aside0 (Below wg.heap.size wg wl) := ⟨below_step (by with_reducible repeat (first | exact Below.refl _ _ | apply below_alloc | apply below_drew)) hbl⟩); clear hbl)
        go_roundg q
        case measure => omega
        case rel => exact ⟨i + 1, gj4, sp, O4, AL2, cl2, AT2, ct2, AB2, cb2, rfl, rfl, by have := HIQ.out; omega, ⟨jn_below HJg.out HBl.out⟩, ⟨HGP.out.1⟩, ⟨HGP.out.2.trans HKY.out⟩, ⟨blk_below KG.out HBl.out⟩, NG4, ⟨rc_below HRg.out HBl.out⟩, ⟨HBg.out.trans (HBl.out.mono HBg.out.size)⟩⟩
      · rename_i hHeld
        clear hHeld
        obtain ⟨b13, hb13⟩ : ∃ b13, b13 = w4.heap.size := ⟨_, rfl⟩
        obtain ⟨wz, hwz⟩ : ∃ wz : World, wz = (((((w5.setCell ⟨w4.heap.size, 0, none⟩ (.slice AL2 sp.L.length cl2)).setCell ⟨w4.heap.size, 1, none⟩ (.slice AT2 sp.tag.length ct2)).setCell ⟨w4.heap.size, 2, none⟩ (.int .i64 sp.room)).setCell ⟨w4.heap.size, 3, none⟩ (.int .i64 sp.sure)).setCell ⟨w4.heap.size, 4, none⟩ (.slice AB2 sp.bs.length cb2)) := ⟨_, rfl⟩
        have hbz : Below w4.heap.size w4 wz := by rw [hwz]; exact below_set (below_set (below_set (below_set (below_set (HB45.out) (Nat.le_refl _)) (Nat.le_refl _)) (Nat.le_refl _)) (Nat.le_refl _)) (Nat.le_refl _)
        have kz : wz.heap[b13]? = some (.cells #[.slice AL2 sp.L.length cl2, .slice AT2 sp.tag.length ct2, .int .i64 sp.room, .int .i64 sp.sure, .slice AB2 sp.bs.length cb2] TRJ (0, 0)) := by rw [hwz, hb13]; exact HQ9.out
        have hkz : Kept w5 wz (fun q => q = w4.heap.size) := by rw [hwz]; exact Kept.setCell (S := fun q => q = w4.heap.size) (p := ⟨w4.heap.size, 4, none⟩) (Kept.setCell (S := fun q => q = w4.heap.size) (p := ⟨w4.heap.size, 3, none⟩) (Kept.setCell (S := fun q => q = w4.heap.size) (p := ⟨w4.heap.size, 2, none⟩) (Kept.setCell (S := fun q => q = w4.heap.size) (p := ⟨w4.heap.size, 1, none⟩) (Kept.setCell (S := fun q => q = w4.heap.size) (p := ⟨w4.heap.size, 0, none⟩) (Kept.refl _ _) (.inl rfl) _) (.inl rfl) _) (.inl rfl) _) (.inl rfl) _) (.inl rfl) _
        have hk41 := HK4.out.1
        have hrz : RC wz (fun q => (fun q => (¬ O q ∧ q ≠ gw) ∧ q < wr.heap.size) q ∨ w4.heap.size ≤ q) sp AL2 cl2 AT2 ct2 AB2 cb2 := rc_mono (rc_kept HRC5.out hkz (fun q hq e_ => by
          rcases hq with hq | hq
          · have := hq.2; omega
          · have h2 : (w4.alloc (.cells #[.slice none 0 0, .slice none 0 0, .int .i64 0, .int .i64 0, .slice none 0 0] TRJ)).drew.heap.size ≤ q := hq
            have h3 : (w4.alloc (.cells #[.slice none 0 0, .slice none 0 0, .int .i64 0, .int .i64 0, .slice none 0 0] TRJ)).drew.heap.size = w4.heap.size + 1 := by show (w4.alloc (.cells #[.slice none 0 0, .slice none 0 0, .int .i64 0, .int .i64 0, .slice none 0 0] TRJ)).heap.size = _; simp
            omega)) (fun q hq => hq.imp (fun h_ => h_) (fun h_ => by
            have h2 : (w4.alloc (.cells #[.slice none 0 0, .slice none 0 0, .int .i64 0, .int .i64 0, .slice none 0 0] TRJ)).drew.heap.size ≤ q := h_
            have h3 : (w4.alloc (.cells #[.slice none 0 0, .slice none 0 0, .int .i64 0, .int .i64 0, .slice none 0 0] TRJ)).drew.heap.size = w4.heap.size + 1 := by show (w4.alloc (.cells #[.slice none 0 0, .slice none 0 0, .int .i64 0, .int .i64 0, .slice none 0 0] TRJ)).heap.size = _; simp
            omega))
        try rw [← hwz]
        try simp only [← hb13]
        clear hwz hb13 HRC5 HB5 hkz hk41 HQ9 HK9 qu0 qf0 qu1 qf1 qu2 qf2 qu3 qf3 qu4 qf4
        clear y0 t0 ny0 nt0 g0 b0 n0 m0 y1 t1 ny1 nt1 g1 b1 n1 m1 y2 t2 ny2 nt2 g2 b2 n2 m2 y3 t3 ny3 nt3 g3 b3 n3 m3 y4 t4 ny4 nt4 g4 b4 n4 m4
        have hown4 := jn_own HJ4.out
        have hk41 := HK4.out.1
        have hgl := HGL.out
        have NG4 : Aside0 (¬ O4 gw) := ⟨fun h_ => HNG.out (HO4.out gw hgl h_)⟩
        have RZ : Aside0 (RC wz (fun q => ¬ O4 q ∧ q ≠ gw) sp AL2 cl2 AT2 ct2 AB2 cb2) := ⟨rc_mono hrz (fun q hq => by
          rcases hq with hq | hq
          · exact ⟨fun h_ => hq.1.1 (HO4.out q hq.2 h_), hq.1.2⟩
          · exact ⟨fun h_ => by have := (hown4 q h_).2; omega, by omega⟩)⟩
        have kwz := blk_below KW4.out hbz
        have HJZ := Aside0.mk (jn_below HJ4.out hbz)
        have HBZ := Aside0.mk hbz
        have KWZ := Aside0.mk kwz
        have z0 : wz.cell? ⟨b13, 0, none⟩ = some (.slice AL2 sp.L.length cl2) := (blk_cell kz 0).trans rfl
        have z1 : wz.cell? ⟨b13, 1, none⟩ = some (.slice AT2 sp.tag.length ct2) := (blk_cell kz 1).trans rfl
        have z2 : wz.cell? ⟨b13, 2, none⟩ = some (.int .i64 sp.room) := (blk_cell kz 2).trans rfl
        have z3 : wz.cell? ⟨b13, 3, none⟩ = some (.int .i64 sp.sure) := (blk_cell kz 3).trans rfl
        have z4 : wz.cell? ⟨b13, 4, none⟩ = some (.slice AB2 sp.bs.length cb2) := (blk_cell kz 4).trans rfl
        have qu0 := (blk_cell kwz 0).trans (show _ = some (.slice AL s.L.length cl) from rfl)
        have qf0 := blk_frozen kwz 0
        have q0 := blk_put kwz 0 (.slice AL2 sp.L.length cl2) rfl
        have qu1 := (blk_cell q0 1).trans (show _ = some (.slice AT s.tag.length ct) from rfl)
        have qf1 := blk_frozen q0 1
        have q1 := blk_put q0 1 (.slice AT2 sp.tag.length ct2) rfl
        have qu2 := (blk_cell q1 2).trans (show _ = some (.int .i64 s.room) from rfl)
        have qf2 := blk_frozen q1 2
        have q2 := blk_put q1 2 (.int .i64 sp.room) rfl
        have qu3 := (blk_cell q2 3).trans (show _ = some (.int .i64 s.sure) from rfl)
        have qf3 := blk_frozen q2 3
        have q3 := blk_put q2 3 (.int .i64 sp.sure) rfl
        have qu4 := (blk_cell q3 4).trans (show _ = some (.slice AB s.bs.length cb) from rfl)
        have qf4 := blk_frozen q3 4
        have q4 := blk_put q3 4 (.slice AB2 sp.bs.length cb2) rfl
        have HQ := Aside0.mk q4
        have ee : (er != er) = false := by simp
        clear hown4 hk41 hgl hrz hbz kz kwz q0 q1 q2 q3 q4
        go_upto_region 15 with (fail)
        obtain ⟨wg, hwg⟩ : ∃ wg : World, wg = (((((wz.setCell ⟨gw, 0, none⟩ (.slice AL2 sp.L.length cl2)).setCell ⟨gw, 1, none⟩ (.slice AT2 sp.tag.length ct2)).setCell ⟨gw, 2, none⟩ (.int .i64 sp.room)).setCell ⟨gw, 3, none⟩ (.int .i64 sp.sure)).setCell ⟨gw, 4, none⟩ (.slice AB2 sp.bs.length cb2)) := ⟨_, rfl⟩
        have hkg : Kept wz wg (fun q => q = gw) := by rw [hwg]; exact Kept.setCell (S := fun q => q = gw) (p := ⟨gw, 4, none⟩) (Kept.setCell (S := fun q => q = gw) (p := ⟨gw, 3, none⟩) (Kept.setCell (S := fun q => q = gw) (p := ⟨gw, 2, none⟩) (Kept.setCell (S := fun q => q = gw) (p := ⟨gw, 1, none⟩) (Kept.setCell (S := fun q => q = gw) (p := ⟨gw, 0, none⟩) (Kept.refl _ _) (.inl rfl) _) (.inl rfl) _) (.inl rfl) _) (.inl rfl) _) (.inl rfl) _
        have kg : wg.heap[gw]? = some (.cells #[.slice AL2 sp.L.length cl2, .slice AT2 sp.tag.length ct2, .int .i64 sp.room, .int .i64 sp.sure, .slice AB2 sp.bs.length cb2] TRJ (0, 0)) := by rw [hwg]; exact HQ.out
        have HJg : Aside0 (Jn wg w.heap.size gj4 gd O4 sp) := ⟨jn_set HJZ.out NG4.out (fun ok A xs hf => by rw [hwg]; exact F_set5 KWZ.out (fun z => by simp) (fun z => by simp) (fun z => by simp) (fun z => by simp) (fun z => by simp) hf) hkg (blk_lt KWZ.out)⟩
        have HRg : Aside0 (RC wg (fun q => ¬ O4 q ∧ q ≠ gw) sp AL2 cl2 AT2 ct2 AB2 cb2) := ⟨rc_set RZ.out hkg (fun q hq => hq.2)⟩
        have HBg : Aside0 (Below w.heap.size w wg) := ⟨by rw [hwg]; exact below_set (below_set (below_set (below_set (below_set (HB4.out.trans (HBZ.out.mono HB4.out.size)) GW.out) GW.out) GW.out) GW.out) GW.out⟩
        have KG := Aside0.mk kg
        try rw [← hwg]
        have v0 : wg.cell? ⟨gw, 0, none⟩ = some (.slice AL2 sp.L.length cl2) := (blk_cell kg 0).trans rfl
        have v1 : wg.cell? ⟨gw, 1, none⟩ = some (.slice AT2 sp.tag.length ct2) := (blk_cell kg 1).trans rfl
        have v2 : wg.cell? ⟨gw, 2, none⟩ = some (.int .i64 sp.room) := (blk_cell kg 2).trans rfl
        have v3 : wg.cell? ⟨gw, 3, none⟩ = some (.int .i64 sp.sure) := (blk_cell kg 3).trans rfl
        have v4 : wg.cell? ⟨gw, 4, none⟩ = some (.slice AB2 sp.bs.length cb2) := (blk_cell kg 4).trans rfl
        clear hwg hkg kg qu0 qf0 z0 qu1 qf1 z1 qu2 qf2 z2 qu3 qf3 z3 qu4 qf4 z4
        go_wp2_with (go_at_call 20; (with_reducible refine (like.calls w gj4 gd O4 sp HGP.out.1 AL2 AT2 AB2 cl2 ct2 cb2 sp.room sp.sure _ (jn_below HJg.out (by with_reducible repeat (first | exact Below.refl _ _ | apply below_alloc | apply below_drew))) HRg.out.l.1 (Kd.C_below (Kd.F_now HRg.out.l.2) (by with_reducible repeat (first | exact Below.refl _ _ | apply below_alloc | apply below_drew))) HRg.out.t.1 (Kd.C_below (Kd.F_now HRg.out.t.2) (by with_reducible repeat (first | exact Below.refl _ _ | apply below_alloc | apply below_drew))) HRg.out.b.1 (Kd.C_below (Kd.F_now HRg.out.b.2) (by with_reducible repeat (first | exact Below.refl _ _ | apply below_alloc | apply below_drew)))).mono ?_); rintro x wl ⟨rfl, hbl⟩; (have HBl : Aside0 (Below wg.heap.size wg wl) := ⟨below_step (by with_reducible repeat (first | exact Below.refl _ _ | apply below_alloc | apply below_drew)) hbl⟩); clear hbl)
        go_roundg q
        case measure => omega
        case rel => exact ⟨i + 1, gj4, sp, O4, AL2, cl2, AT2, ct2, AB2, cb2, rfl, rfl, by have := HIQ.out; omega, ⟨jn_below HJg.out HBl.out⟩, ⟨HGP.out.1⟩, ⟨HGP.out.2.trans HKY.out⟩, ⟨blk_below KG.out HBl.out⟩, NG4, ⟨rc_below HRg.out HBl.out⟩, ⟨HBg.out.trans (HBl.out.mono HBg.out.size)⟩⟩
end Go.Proofs.Ytogjnipojakfjaa.JJour

/- The row's walk: whatever is done to a journal. -/
namespace Go.Proofs.Ytogjnipojakfjaa.Walk
set_option linter.unusedVariables false
open Go.RowKit Go.Proofs.Ytogjnipojakfjaa.PJd Go.Proofs.Ytogjnipojakfjaa.SOpen Go.Proofs.YtogjnipojakfjaaW.PrintWords Go.Proofs.YtogjnipojakfjaaW.PrintLast Go.Proofs.YtogjnipojakfjaaW.PrintMore
open JJour (Ent kE)
theorem opBytes : SOpen.Op Try.prog 22 (Kd.slice 5 (Kd.int .u8)) (fun l => l.length ≤ maxLen ∧ ∀ x ∈ l, (Lit.int .u8 x).wf = true) :=
  op_mono (op_slice Try.underlying22 (by kernel_rfl) (op_int Try.underlying5)) (fun _ h => h)
theorem opEntry : SOpen.Op Try.prog 35 kE (fun x => ∀ b ∈ x.f1, (Lit.int .u8 b).wf = true) :=
  op_mono (op_struct _ (fun p => ⟨p.1, p.2⟩) (fun _ => rfl) Try.underlying35 (by kernel_rfl) (fun m => seq_cons (op_int Try.underlying3 m) (seq_one (opBytes m)))) (fun _ h => h.2.2)
theorem opOp : SOpen.Op Try.prog 56 JJour.kO (fun x => (∀ b ∈ x.f1.f1, (Lit.int .u8 b).wf = true) ∧ ∀ b ∈ x.f3, (Lit.int .u8 b).wf = true) :=
  op_mono (op_struct _ (fun p => ⟨p.1, p.2.1, p.2.2.1, p.2.2.2⟩) (fun _ => rfl) Try.underlying56 (by kernel_rfl) (fun m => seq_cons (op_int Try.underlying3 m) (seq_cons (opEntry m) (seq_cons (op_int Try.underlying3 m) (seq_one (opBytes m)))))) (fun _ h => ⟨h.2.1, h.2.2.2.2⟩)
theorem opOps : SOpen.Op Try.prog 51 (Kd.slice 56 JJour.kO) (fun l => l.length ≤ maxLen ∧ ∀ x ∈ l, (∀ b ∈ x.f1.f1, (Lit.int .u8 b).wf = true) ∧ ∀ b ∈ x.f3, (Lit.int .u8 b).wf = true) :=
  op_mono (op_slice Try.underlying51 (by kernel_rfl) opOp) (fun _ h => h)
theorem JournalDoes (w : World) (A0 : Option Addr) (c0 : Nat) (l0 : List Int) (hc0 : l0.length ≤ c0) (hC0 : Kd.C (Kd.int .u8) w A0 l0.length l0) (hw0 : l0.length ≤ maxLen ∧ ∀ x ∈ l0, (Lit.int .u8 x).wf = true) (room : Int) (hr : (Lit.int .i64 room).wf = true)
    (A2 : Option Addr) (c2 : Nat) (l2 : List JJour.Opn) (hc2 : l2.length ≤ c2) (hC2 : Kd.C JJour.kO w A2 l2.length l2) (hw2 : l2.length ≤ maxLen ∧ ∀ x ∈ l2, (∀ b ∈ x.f1.f1, (Lit.int .u8 b).wf = true) ∧ ∀ b ∈ x.f3, (Lit.int .u8 b).wf = true) :
    Calls Try.prog 6 #[.slice A0 l0.length c0, .int .i64 room, .slice A2 l2.length c2] w fun x w' => x = .returned (.bool true) ∧ Below w.heap.size w w' :=
  JJour.does w l0 A0 c0 room l2 A2 c2 hc0 hC0 (LSame.byt_u8 hw0.2) hc2 hC2 (fun o ho => ⟨LSame.byt_u8 (hw2.2 o ho).1, LSame.byt_u8 (hw2.2 o ho).2⟩)
end Go.Proofs.Ytogjnipojakfjaa.Walk
