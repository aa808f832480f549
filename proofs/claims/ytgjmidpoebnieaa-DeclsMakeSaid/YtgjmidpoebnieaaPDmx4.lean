-- SLIM: a printed text of which the unused ways are cut off
-- PRINTED by print.py (a twelfth state) out of the translation. Not trusted: Lean checks it.
import Derived.Test.YtgjmidpoebnieaaPDmx0
import Derived.Test.YtgjmidpoebnieaaPDmx3
namespace Go.Proofs.Ytgjmidpoebnieaa.PDm
open Go.RowKit Go.Proofs.YtgjmidpoebnieaaW.PrintWords Go.Proofs.YtgjmidpoebnieaaW.PrintLast Go.Proofs.YtgjmidpoebnieaaW.PrintMore
attribute [local go_sem] max2_int min2_int max_two min_two max_three min_three max_four min_four   -- for this text's walks alone
set_option linter.unusedVariables false
set_option linter.unusedSimpArgs false

/-! ### decls_Drop: function 9 (given) -/
/-- what is left of a list of declarations: all but the one at i, made anew; false: one of them names it -/
def decls_Drop.rest (k : Nat) (i : Int) (pl : List Int) : List S24 → Int → List S24 → Option (List S24 × Bool)
  | [], _, out => some (out, true)
  | d :: ds, j, out => if j = i then decls_Drop.rest k i pl ds (j + 1) out else (decls_names.g k d i).bind fun b => if b = true then some ([], false) else (decls_walk.f k pl d).bind fun y => if out.length < 1000000000 then decls_Drop.rest k i pl ds (j + 1) (out ++ [y]) else none
def decls_Drop.bad : Int × Int × ByteArray × List S24 × Int × Int × Bool := (0, 0, ⟨#[]⟩, [], 0, 0, false)
def decls_Drop.f (k : Nat) (a0 a1 : Int) (a2 : ByteArray) (a3 : List S24) (a4 a5 : Int) (i : Int) : Option (Int × Int × ByteArray × List S24 × Int × Int × Bool) := if a3.length < 1000000000 then (if a0 = 36 then (if i < 0 then some decls_Drop.bad else if (a3.length : Int) ≤ i then some decls_Drop.bad else if (rd_T24 a3 i).f0 = 33 ∧ (rd_T24 a3 i).f1 = 1 then some decls_Drop.bad else (decls_without.f k i (a3.length : Int)).bind fun pl => (decls_Drop.rest k i pl a3 0 []).bind fun q => some (if q.2 = true then (a0, a1, a2, q.1, a4, a5, true) else decls_Drop.bad)) else some decls_Drop.bad) else none
theorem decls_Drop.rest_mono (k : Nat) (i : Int) (pl : List Int) : ∀ l j out, LeO (decls_Drop.rest k i pl l j out) (decls_Drop.rest (k + 1) i pl l j out)
  | [], _, _ => LeO.refl _
  | d :: ds, j, out => LeO.ite (decls_Drop.rest_mono k i pl ds (j + 1) out) (LeO.bind (decls_names.g_mono d i k) fun b => LeO.ite (LeO.refl _) (LeO.bind (decls_walk.mono pl d k) fun y => LeO.ite (decls_Drop.rest_mono k i pl ds (j + 1) (out ++ [y])) (LeO.refl _)))
theorem decls_Drop.mono : ∀ a0 a1 a2 a3 a4 a5 i k, LeO (decls_Drop.f k a0 a1 a2 a3 a4 a5 i) (decls_Drop.f (k + 1) a0 a1 a2 a3 a4 a5 i) := fun a0 a1 a2 a3 a4 a5 i k =>
  LeO.ite (LeO.ite (LeO.ite (LeO.refl _) (LeO.ite (LeO.refl _) (LeO.ite (LeO.refl _) (LeO.bind (decls_without.mono _ _ k) fun pl => LeO.bind (decls_Drop.rest_mono k i pl _ _ _) fun q => LeO.refl _)))) (LeO.refl _)) (LeO.refl _)
set_option maxHeartbeats 4000000 in
set_option maxRecDepth 100000 in
theorem decls_Drop.calls (k : Nat) (a0 a1 : Int) (a2 : ByteArray) (A : Option Addr) (c : Nat) (a3 : List S24) (a4 a5 : Int) (i : Int) (r1 : Int) (r2 : Int) (r3 : ByteArray) (r4 : List (S24)) (r5 : Int) (r6 : Int) (r7 : Bool) (w : World) (hA : Kd.C k24 w A a3.length a3) (hc : a3.length ≤ c) (h : decls_Drop.f k a0 a1 a2 a3 a4 a5 i = some (r1, r2, r3, r4, r5, r6, r7)) :
    Calls Try.prog 9 #[.agg #[.int .i64 a0, .int .i64 a1, .string a2, .slice A a3.length c, .int .i64 a4, .int .i64 a5], .int .i64 i] w fun e w' => ∃ v3_ : Value, e = .returned (.tuple #[.agg #[.int .i64 r1, .int .i64 r2, .string r3, v3_, .int .i64 r5, .int .i64 r6], .bool r7]) ∧ Kd.V k24 24 w' w.heap.size (fun k_ => (w.heap.size ≤ k_)) v3_ r4 ∧ Below w.heap.size w w' := by
  have hu := Try.underlying24
  have hu2 := Try.underlying49
  unfold decls_Drop.f at h
  by_cases hl : a3.length < 1000000000
  case neg => rw [if_neg hl] at h; exact absurd h (by simp)
  rw [if_pos hl] at h
  have HR := Aside0.mk hA
  have HC := Aside0.mk hc
  have HL := Aside0.mk hl
  clear hA hc hl
  by_cases c0 : a0 = 36
  case neg =>
    rw [if_neg c0] at h
    have e := Option.some.inj h
    simp only [decls_Drop.bad, Prod.mk.injEq] at e
    obtain ⟨rfl, rfl, rfl, rfl, rfl, rfl, rfl⟩ := e
    have c0b : (a0 != 36) = true := by simpa using c0
    clear h c0
    go_enter Try.func9, Try.ntmps9
    go_wp2
    refine bodyPost_ret (results_ct rfl _ _ (w.heap.size + 1) 24 #[.int .i64 0, .int .i64 0, .string (⟨#[]⟩ : ByteArray), .slice none 0 0, .int .i64 0, .int .i64 0] (0, 0) _ rfl (by have h := blk_new (w.alloc (.cells #[.int .i64 a0, .int .i64 a1, .string a2, .slice A a3.length c, .int .i64 a4, .int .i64 a5] 24)) (.cells #[.int .i64 0, .int .i64 0, .string (⟨#[]⟩ : ByteArray), .slice none 0 0, .int .i64 0, .int .i64 0] 24); rwa [show (w.alloc (.cells #[.int .i64 a0, .int .i64 a1, .string a2, .slice A a3.length c, .int .i64 a4, .int .i64 a5] 24)).heap.size = w.heap.size + 1 by simp] at h) Try.underlying24 rfl (by kernel_rfl)) rfl ?_
    exact ⟨_, rfl, Kd.V_nil _ _ _ _ _, below_alloc (below_alloc (Below.refl _ _) _) _⟩
  rw [if_pos c0] at h
  subst c0
  by_cases c1 : i < 0
  · rw [if_pos c1] at h
    have c1b : decide (i < 0) = true := decide_eq_true c1
    clear c1
    have e := Option.some.inj h
    simp only [decls_Drop.bad, Prod.mk.injEq] at e
    obtain ⟨rfl, rfl, rfl, rfl, rfl, rfl, rfl⟩ := e
    clear h
    go_enter Try.func9, Try.ntmps9
    go_wp2
    refine bodyPost_ret (results_ct rfl _ _ (w.heap.size + 1) 24 #[.int .i64 0, .int .i64 0, .string (⟨#[]⟩ : ByteArray), .slice none 0 0, .int .i64 0, .int .i64 0] (0, 0) _ rfl (by have h := blk_new (w.alloc (.cells #[.int .i64 36, .int .i64 a1, .string a2, .slice A a3.length c, .int .i64 a4, .int .i64 a5] 24)) (.cells #[.int .i64 0, .int .i64 0, .string (⟨#[]⟩ : ByteArray), .slice none 0 0, .int .i64 0, .int .i64 0] 24); rwa [show (w.alloc (.cells #[.int .i64 36, .int .i64 a1, .string a2, .slice A a3.length c, .int .i64 a4, .int .i64 a5] 24)).heap.size = w.heap.size + 1 by simp] at h) Try.underlying24 rfl (by kernel_rfl)) rfl ?_
    exact ⟨_, rfl, Kd.V_nil _ _ _ _ _, below_alloc (below_alloc (Below.refl _ _) _) _⟩
  rw [if_neg c1] at h
  have c1b : decide (i < 0) = false := decide_eq_false c1
  by_cases c2 : (a3.length : Int) ≤ i
  · rw [if_pos c2] at h
    have c2b : decide ((a3.length : Int) ≤ i) = true := decide_eq_true c2
    clear c1 c2
    have e := Option.some.inj h
    simp only [decls_Drop.bad, Prod.mk.injEq] at e
    obtain ⟨rfl, rfl, rfl, rfl, rfl, rfl, rfl⟩ := e
    clear h
    go_enter Try.func9, Try.ntmps9
    go_wp2
    refine bodyPost_ret (results_ct rfl _ _ (w.heap.size + 1) 24 #[.int .i64 0, .int .i64 0, .string (⟨#[]⟩ : ByteArray), .slice none 0 0, .int .i64 0, .int .i64 0] (0, 0) _ rfl (by have h := blk_new (w.alloc (.cells #[.int .i64 36, .int .i64 a1, .string a2, .slice A a3.length c, .int .i64 a4, .int .i64 a5] 24)) (.cells #[.int .i64 0, .int .i64 0, .string (⟨#[]⟩ : ByteArray), .slice none 0 0, .int .i64 0, .int .i64 0] 24); rwa [show (w.alloc (.cells #[.int .i64 36, .int .i64 a1, .string a2, .slice A a3.length c, .int .i64 a4, .int .i64 a5] 24)).heap.size = w.heap.size + 1 by simp] at h) Try.underlying24 rfl (by kernel_rfl)) rfl ?_
    exact ⟨_, rfl, Kd.V_nil _ _ _ _ _, below_alloc (below_alloc (Below.refl _ _) _) _⟩
  rw [if_neg c2] at h
  have c2b : decide ((a3.length : Int) ≤ i) = false := decide_eq_false c2
  have p0 : 0 ≤ i := by omega
  have p1 : i < (a3.length : Int) := by omega
  obtain ⟨ad, A3, c3, e0, m0, m1, _⟩ := at_T24 HR.out i p0 p1
  obtain ⟨X, hX⟩ : ∃ X, X = rd_T24 a3 i := ⟨_, rfl⟩
  rw [← hX] at m0 m1 h
  subst e0
  have n0 : ∀ o1 o2, ((w.alloc o1).alloc o2).cell? (ad.add (i.toNat * 6)) = some (.int .i64 X.f0) := fun _ _ => pw_cell_below (below_alloc (below_alloc (Below.refl _ _) _) _) m0
  have n1 : ∀ o1 o2, ((w.alloc o1).alloc o2).cell? ⟨(ad.add (i.toNat * 6)).block, (ad.add (i.toNat * 6)).off + 1, none⟩ = some (.int .i64 X.f1) := fun _ _ => pw_cell_below (below_alloc (below_alloc (Below.refl _ _) _) _) m1
  clear m0 m1 c1 c2 hX
  by_cases c3 : X.f0 = 33 ∧ X.f1 = 1
  · rw [if_pos c3] at h
    have c3a : (X.f0 == 33) = true := by simpa using c3.1
    have c3b : (X.f1 == 1) = true := by simpa using c3.2
    clear c3
    have e := Option.some.inj h
    simp only [decls_Drop.bad, Prod.mk.injEq] at e
    obtain ⟨rfl, rfl, rfl, rfl, rfl, rfl, rfl⟩ := e
    clear h
    go_enter Try.func9, Try.ntmps9
    go_wp2
    refine bodyPost_ret (results_ct rfl _ _ (w.heap.size + 1) 24 #[.int .i64 0, .int .i64 0, .string (⟨#[]⟩ : ByteArray), .slice none 0 0, .int .i64 0, .int .i64 0] (0, 0) _ rfl (by have h := blk_new (w.alloc (.cells #[.int .i64 36, .int .i64 a1, .string a2, .slice (some ad) a3.length c, .int .i64 a4, .int .i64 a5] 24)) (.cells #[.int .i64 0, .int .i64 0, .string (⟨#[]⟩ : ByteArray), .slice none 0 0, .int .i64 0, .int .i64 0] 24); rwa [show (w.alloc (.cells #[.int .i64 36, .int .i64 a1, .string a2, .slice (some ad) a3.length c, .int .i64 a4, .int .i64 a5] 24)).heap.size = w.heap.size + 1 by simp] at h) Try.underlying24 rfl (by kernel_rfl)) rfl ?_
    exact ⟨_, rfl, Kd.V_nil _ _ _ _ _, below_alloc (below_alloc (Below.refl _ _) _) _⟩
  rw [if_neg c3] at h
  obtain ⟨pl, hpl, h⟩ := Option.bind_eq_some_iff.mp h
  obtain ⟨q, hq, h⟩ := Option.bind_eq_some_iff.mp h
  have HPL := Aside0.mk hpl
  have HQ := Aside0.mk hq
  have HH := Aside0.mk (Option.some.inj h)
  have HP := Aside0.mk (And.intro p0 p1)
  clear h hpl hq
  go_enter Try.func9, Try.ntmps9
  have hX : (X.f0 == 33) = false ∨ ((X.f0 == 33) = true ∧ (X.f1 == 1) = false) := by
    by_cases h1 : X.f0 = 33
    · exact .inr ⟨by simpa using h1, by simpa using fun h2 => c3 ⟨h1, h2⟩⟩
    · exact .inl (by simpa using h1)
  clear c3
  go_upto_region 1 with (fail)
  obtain ⟨W, hW⟩ : ∃ W : World, W = (w.alloc (.cells #[.int .i64 36, .int .i64 a1, .string a2, .slice (some ad) a3.length c, .int .i64 a4, .int .i64 a5] 24)).alloc (.cells #[.int .i64 0, .int .i64 0, .string (⟨#[]⟩ : ByteArray), .slice none 0 0, .int .i64 0, .int .i64 0] 24) := ⟨_, rfl⟩
  have n0 := n0 (.cells #[.int .i64 36, .int .i64 a1, .string a2, .slice (some ad) a3.length c, .int .i64 a4, .int .i64 a5] 24) (.cells #[.int .i64 0, .int .i64 0, .string (⟨#[]⟩ : ByteArray), .slice none 0 0, .int .i64 0, .int .i64 0] 24)
  have n1 := n1 (.cells #[.int .i64 36, .int .i64 a1, .string a2, .slice (some ad) a3.length c, .int .i64 a4, .int .i64 a5] 24) (.cells #[.int .i64 0, .int .i64 0, .string (⟨#[]⟩ : ByteArray), .slice none 0 0, .int .i64 0, .int .i64 0] 24)
  have h0 : W.heap[w.heap.size]? = some (.cells #[.int .i64 36, .int .i64 a1, .string a2, .slice (some ad) a3.length c, .int .i64 a4, .int .i64 a5] 24 (0, 0)) := by rw [hW]; exact blk_alloc (blk_new _ _) _
  have h1 : W.heap[w.heap.size + 1]? = some (.cells #[.int .i64 0, .int .i64 0, .string (⟨#[]⟩ : ByteArray), .slice none 0 0, .int .i64 0, .int .i64 0] 24 (0, 0)) := by rw [hW]; have h := blk_new (w.alloc (.cells #[.int .i64 36, .int .i64 a1, .string a2, .slice (some ad) a3.length c, .int .i64 a4, .int .i64 a5] 24)) (.cells #[.int .i64 0, .int .i64 0, .string (⟨#[]⟩ : ByteArray), .slice none 0 0, .int .i64 0, .int .i64 0] 24); rwa [show (w.alloc (.cells #[.int .i64 36, .int .i64 a1, .string a2, .slice (some ad) a3.length c, .int .i64 a4, .int .i64 a5] 24)).heap.size = w.heap.size + 1 by simp] at h
  have hb : Below w.heap.size w W := by rw [hW]; exact below_alloc (below_alloc (Below.refl _ _) _) _
  have hs : W.heap.size = w.heap.size + 2 := by rw [hW]; simp
  rw [← hW] at n0 n1
  rw [← hW]
  have x0 : W.cell? ⟨w.heap.size, 0, none⟩ = some (.int .i64 36) := (blk_cell h0 0).trans rfl
  have x3 : W.cell? ⟨w.heap.size, 3, none⟩ = some (.slice (some ad) a3.length c) := (blk_cell h0 3).trans rfl
  have H0 := Aside0.mk h0
  have H1 := Aside0.mk h1
  have HB := Aside0.mk hb
  have HS := Aside0.mk hs
  clear hW h0 h1 hb hs
  go_cut [41] (fun v41 wc => v41 = .bool false ∧ wc = W)
  case first =>
    rcases hX with h | ⟨h, h'⟩
    · go_wp2
      go_meet
      case rel => exact ⟨rfl, rfl⟩
    · go_wp2
      go_meet
      case rel => exact ⟨rfl, rfl⟩
  case rest =>
    obtain ⟨rfl, rfl⟩ := hcut
    clear hX n0 n1 x0
    go_wp2_with (go_at_call 25; (with_reducible refine (decls_without.calls k i (a3.length : Int) pl _ HPL.out).mono ?_); rintro e w2 ⟨vo, rfl, hr2, hb2⟩; (obtain ⟨Ao, co, rfl, hlo, hco⟩ := Kd.R_reads hr2); (have y3 : ∀ o, (w2.alloc o).cell? ⟨w.heap.size, 3, none⟩ = some (.slice (some ad) a3.length c) := fun o => pw_cell_below (below_alloc hb2 o) x3); (have HO := Aside0.mk (Kd.F_mono (Kd.F_bound (Kd.R_F hr2)) (ok' := fun z => z < w2.heap.size) (fun _ h => h.2))); (have HLO := Aside0.mk hlo); (have HB2 := Aside0.mk hb2); clear hr2 hb2 hlo hco)
    obtain ⟨g6, hg6⟩ : ∃ g6, g6 = w2.heap.size := ⟨_, rfl⟩
    obtain ⟨Wl, hWl⟩ : ∃ Wl : World, Wl = w2.alloc (.cells #[.slice Ao pl.length co] 49) := ⟨_, rfl⟩
    have hb3 : Below wc.heap.size wc Wl := by rw [hWl]; exact below_alloc HB2.out _
    have k0 := Aside0.mk (blk_below H0.out hb3)
    have k1 := Aside0.mk (blk_below H1.out hb3)
    have k6 : Aside0 (Wl.heap[g6]? = some (.cells #[.slice Ao pl.length co] 49 (0, 0))) := ⟨by rw [hWl, hg6]; exact blk_new _ _⟩
    have kf : Aside0 (Kd.F (Kd.int .i64) Wl (fun z => z < g6) Ao pl.length pl) := ⟨by rw [hWl, hg6]; exact Kd.F_alloc HO.out _⟩
    have kb : Aside0 (Below w.heap.size w Wl) := ⟨below_step HB.out hb3⟩
    have ks : Aside0 (g6 + 1 ≤ Wl.heap.size) := ⟨by rw [hWl, hg6]; simp⟩
    have kz : Aside0 (w.heap.size + 2 ≤ g6) := ⟨by have := HB2.out.size; have := HS.out; omega⟩
    try rw [← hWl]
    try rw [← hg6]
    have hw0 : w2.heap.size = g6 := hg6.symm
    clear hWl hb3 hw0 hg6 HO HB2 H0 H1 HB HS x3 y3
    go_loopg [51, 7] a3.length (fun n v51 v7 w' => ∃ (j : Nat) (out : List S24), v51 = .int .i64 (j : Int) ∧ j + n = a3.length ∧ Aside0 (decls_Drop.rest k i pl (a3.drop j) (j : Int) out = some q) ∧ Aside0 (w'.heap[w.heap.size]? = some (.cells #[.int .i64 36, .int .i64 a1, .string a2, .slice (some ad) a3.length c, .int .i64 a4, .int .i64 a5] 24 (0, 0))) ∧ Aside0 (w'.heap[w.heap.size + 1]? = some (.cells #[.int .i64 0, .int .i64 0, .string (⟨#[]⟩ : ByteArray), .slice none 0 0, .int .i64 0, .int .i64 0] 24 (0, 0))) ∧ Aside0 (w'.heap[g6]? = some (.cells #[.slice Ao pl.length co] 49 (0, 0))) ∧ Aside0 (Kd.F (Kd.int .i64) w' (fun z => z < g6) Ao pl.length pl) ∧ Aside0 (Kd.N k24 24 w' (g6 + 1) (fun z => g6 < z) v7 out) ∧ Aside0 (Below w.heap.size w w') ∧ Aside0 (g6 + 1 ≤ w'.heap.size))
    case atStart => exact ⟨0, [], rfl, by omega, HQ, k0, k1, k6, kf, ⟨Kd.N_nil _ _ _ _ _⟩, kb, ks⟩
    case round =>
      clear k0 k1 k6 kf kb ks HQ
      obtain ⟨j, out, rfl, hjq, HQ, H0, H1, H6, HF, HV, HB, HS⟩ := hrel
      cases gk with
      | zero =>
        obtain rfl : j = a3.length := by omega
        have hd : decide ((a3.length : Int) < (a3.length : Int)) = false := by simp
        have hq := HQ.out
        rw [List.drop_length] at hq
        obtain rfl : (out, true) = q := Option.some.inj hq
        have e := HH.out
        simp only [if_true, Prod.mk.injEq] at e
        obtain ⟨rfl, rfl, rfl, rfl, rfl, rfl, rfl⟩ := e
        clear hq HH HQ
        obtain ⟨A7, c7, rfl⟩ := Kd.N_slice HV.out
        have x3 : wr.cell? ⟨w.heap.size, 3, none⟩ = some (.slice (some ad) a3.length c) := (blk_cell H0.out 3).trans rfl
        have f0 : wr.frozen? ⟨w.heap.size, 3, none⟩ = false := blk_frozen H0.out 3
        have y0 := Aside0.mk (blk_put H0.out 3 (.slice A7 out.length c7) rfl)
        have y1 := Aside0.mk (blk_far (p := ⟨w.heap.size, 3, none⟩) H1.out (show w.heap.size + 1 ≠ w.heap.size by omega) (.slice A7 out.length c7))
        have yb : Aside0 (Below w.heap.size w (wr.setCell ⟨w.heap.size, 3, none⟩ (.slice A7 out.length c7))) := ⟨below_set HB.out (show w.heap.size ≤ w.heap.size by omega)⟩
        go_wp2_with (first | (refine wpList_load_row rfl 24 (.tmp 2) rfl w.heap.size rfl 24 _ (0, 0) _ y0.out Try.underlying24 rfl (by kernel_rfl) ?_) | (refine decls_walk.put_row (w0 := w) w.heap.size rfl 24 (.tmp 4) (.tmp 73) rfl (w.heap.size + 1) #[.int .i64 36, .int .i64 a1, .string a2, .slice A7 out.length c7, .int .i64 a4, .int .i64 a5] rfl rfl 24 _ y1.out (by kernel_rfl) rfl (by simp [Value.oneCell']) yb.out (by omega) ?_; intro W3 hg3 ho3 hz3 hb3; (have HG3 := Aside0.mk hg3); (have HO3 := Aside0.mk ho3); (have HB3 := Aside0.mk hb3); clear hg3 ho3 hz3 hb3))
        refine bodyPost_ret (results_ct rfl _ _ (w.heap.size + 1) 24 _ (0, 0) _ rfl HG3.out Try.underlying24 rfl (by kernel_rfl)) rfl ?_
        have HV2 := Kd.N_far (p := ⟨w.heap.size, 3, none⟩) HV.out (fun k hk => show k ≠ w.heap.size by have h1 : g6 < k := hk; have := kz.out; omega) (.slice A7 out.length c7)
        have HV3 := Kd.N_step HV2 (fun k hk hlt => HO3.out k (by have h1 : g6 < k := hk; have := kz.out; omega))
        exact ⟨_, rfl, Kd.V_mono (Kd.N_V HV3) (fun k hk => by have := kz.out; omega), HB3.out⟩
      | succ n =>
        have hjn : j < a3.length := by omega
        have hd : decide ((j : Int) < (a3.length : Int)) = true := decide_eq_true (by omega)
        have p2 : 0 ≤ (j : Int) := by omega
        have p3 : (j : Int) < (a3.length : Int) := by omega
        have hq := HQ.out
        rw [List.drop_eq_getElem_cons hjn, decls_Drop.rest] at hq
        obtain ⟨bd, A4, c4, e4, m0, m1, m2, m3, m4, m5, hl4, hc4⟩ := at_T24 (Kd.C_below HR.out HB.out) (j : Int) p2 p3
        obtain rfl : bd = ad := (Option.some.inj e4).symm
        have hZ : rd_T24 a3 (j : Int) = a3[j] := by unfold rd_T24; simp [List.getD_eq_getElem?_getD, List.getElem?_eq_getElem hjn]
        rw [hZ] at m0 m1 m2 m3 m4 m5 hl4 hc4
        clear hZ
        obtain ⟨Z, hZe⟩ : ∃ Z, Z = a3[j] := ⟨_, rfl⟩
        rw [← hZe] at m0 m1 m2 m3 m4 m5 hl4 hc4 hq
        clear hZe e4
        rw [Int.toNat_natCast] at m0 m1 m2 m3 m4 m5
        have hw : IntKind.i64.wrap ((j : Int) + 1) = ((j + 1 : Nat) : Int) := by
          have := HL.out
          rw [i64_w]
          unfold Go.RowKit.wrap64
          omega
        have HC4 := Aside0.mk hc4
        have HL4 := Aside0.mk hl4
        clear hc4 hl4
        by_cases hji : (j : Int) = i
        · rw [if_pos hji] at hq
          have HQ1 := Aside0.mk hq
          have hjb : ((j : Int) == i) = true := by simpa using hji
          clear hq HQ hji
          go_wp2_with (fail)
          go_roundg n
          case measure => omega
          case rel => exact ⟨j + 1, out, rfl, by omega, HQ1, ⟨blk_alloc H0.out _⟩, ⟨blk_alloc H1.out _⟩, ⟨blk_alloc H6.out _⟩, ⟨Kd.F_alloc HF.out _⟩, ⟨Kd.N_alloc HV.out _⟩, ⟨below_alloc HB.out _⟩, ⟨by have := HS.out; simp; omega⟩⟩
        · rw [if_neg hji] at hq
          have hjb : ((j : Int) == i) = false := by simpa using hji
          obtain ⟨b, hb, hq⟩ := Option.bind_eq_some_iff.mp hq
          have HBN := Aside0.mk hb
          clear HQ hji hb
          cases b with
          | true =>
            rw [if_pos rfl] at hq
            obtain rfl : ([], false) = q := Option.some.inj hq
            have e := HH.out
            simp only [decls_Drop.bad, Bool.false_eq_true, if_false, Prod.mk.injEq] at e
            obtain ⟨rfl, rfl, rfl, rfl, rfl, rfl, rfl⟩ := e
            clear hq HH
            go_wp2_with (first | (refine decls_walk.put_row (w0 := w) w.heap.size rfl 24 (.tmp 4) (.tmp 62) rfl (w.heap.size + 1) #[.int .i64 0, .int .i64 0, .string (⟨#[]⟩ : ByteArray), .slice none 0 0, .int .i64 0, .int .i64 0] rfl rfl 24 _ y1.out (by kernel_rfl) rfl (by simp [Value.oneCell']) yb.out (by omega) ?_; intro W3 hg3 ho3 hz3 hb3; (have HG3 := Aside0.mk hg3); (have HB3 := Aside0.mk hb3); clear hg3 ho3 hz3 hb3) | (go_at_call 26; (with_reducible refine (decls_names.gcalls k Z A4 c4 i true _ (Kd.C_below HC4.out (by with_reducible repeat (first | exact Below.refl _ _ | apply below_alloc))) HL4.out HBN.out).mono ?_); rintro e w4 ⟨rfl, hb4⟩; (have hd4 : Below wr.heap.size wr w4 := below_step (by with_reducible repeat (first | exact Below.refl _ _ | apply below_alloc)) hb4); (have y1 := Aside0.mk (blk_below H1.out hd4)); (have yb := Aside0.mk (below_step HB.out hd4)); clear hb4 hd4))
            refine bodyPost_ret (results_ct rfl _ _ (w.heap.size + 1) 24 _ (0, 0) _ rfl HG3.out Try.underlying24 rfl (by kernel_rfl)) rfl ?_
            exact ⟨_, rfl, Kd.V_nil _ _ _ _ _, HB3.out⟩
          | false =>
            rw [if_neg (by decide)] at hq
            obtain ⟨Y, hY, hq⟩ := Option.bind_eq_some_iff.mp hq
            by_cases hol : out.length < 1000000000
            case neg => rw [if_neg hol] at hq; exact absurd hq (by simp)
            rw [if_pos hol] at hq
            have HQ1 := Aside0.mk hq
            have HY := Aside0.mk hY
            have HOL := Aside0.mk hol
            clear hq hY hol
            go_wp2_with (first | ((with_reducible refine gate_builtin (b := .append) (xs := #[.tmp 63, .tmp 68]) rfl ?_); at_builtin; refine Kd.N_append k24 (w0 := w5) (g6 + 1) rfl (.tmp 63) (.tmp 68) 22 24 (.agg #[(.int .i64 0), (.int .i64 0), (.string ⟨#[]⟩), (.slice none 0 0), (.int .i64 0), (.int .i64 0)]) 72 rfl Try.underlying22 info24 rfl (by decide) (by omega) _ out Y [.int .i64 Y.f0, .int .i64 Y.f1, .string Y.f2, .slice A5 Y.f3.length c5, .int .i64 Y.f4, .int .i64 Y.f5] (fun z => g6 < z) (fun z => wr.heap.size ≤ z) rfl rfl (decls_walk.mkF _ _ Y HC5.out HF5.out) (fun z hz => ⟨by have h1 : wr.heap.size ≤ z := hz; have := HS.out; omega, fun e => by have := Kd.N_lt HV.out z e.symm; have h1 : wr.heap.size ≤ z := hz; omega⟩) (fun z hz => by have := K9.out; omega) (Kd.N_below HV.out HB5.out) (Below.refl _ _) K9.out (by have := HOL.out; omega) ?_; intro v9 w9 hn9 hb9 hg9 hat9; (have HN9 := Aside0.mk hn9); (have HG9 := Aside0.mk hg9); (have HB9 := Aside0.mk hb9); clear hn9 hb9 hg9 hat9) | (go_at_call 27; (with_reducible refine (decls_walk.calls k Z A4 c4 pl Ao co Y _ (Kd.C_below HC4.out HB4.out) HL4.out (Kd.C_below (Kd.F_now HF.out) HB4.out) HLO.out HY.out).mono ?_); rintro e w5 ⟨A5, c5, rfl, hc5, hf5, hb5⟩; (have hd5 : Below wr.heap.size wr w5 := below_step HB4.out hb5); (have HB5 := Aside0.mk hd5); (have HF5 := Aside0.mk (Kd.F_mono hf5 (ok' := fun z => wr.heap.size ≤ z) (fun z hz => Nat.le_trans HB4.out.size hz))); (have HC5 := Aside0.mk hc5); (have K9 : Aside0 (g6 + 1 ≤ w5.heap.size) := ⟨Nat.le_trans HS.out hd5.size⟩); clear hc5 hf5 hb5 hd5) | (go_at_call 26; (with_reducible refine (decls_names.gcalls k Z A4 c4 i false _ (Kd.C_below HC4.out (by with_reducible repeat (first | exact Below.refl _ _ | apply below_alloc))) HL4.out HBN.out).mono ?_); rintro e w4 ⟨rfl, hb4⟩; (have hd4 : Below wr.heap.size wr w4 := below_step (by with_reducible repeat (first | exact Below.refl _ _ | apply below_alloc)) hb4); (have HB4 := Aside0.mk hd4); (have z6 : w4.cell? ⟨g6, 0, none⟩ = some (.slice Ao pl.length co) := (blk_cell (blk_below H6.out hd4) 0).trans rfl); (have kz9 := blk_below (blk_new wr (.cells #[.int .i64 Z.f0, .int .i64 Z.f1, .string Z.f2, .slice A4 Z.f3.length c4, .int .i64 Z.f4, .int .i64 Z.f5] 24)) hb4); (have z0 := (blk_cell kz9 0).trans (show _ = some (.int .i64 Z.f0) from rfl)); (have z1 := (blk_cell kz9 1).trans (show _ = some (.int .i64 Z.f1) from rfl)); (have z2 := (blk_cell kz9 2).trans (show _ = some (.string Z.f2) from rfl)); (have z3 := (blk_cell kz9 3).trans (show _ = some (.slice A4 Z.f3.length c4) from rfl)); (have z4 := (blk_cell kz9 4).trans (show _ = some (.int .i64 Z.f4) from rfl)); (have z5 := (blk_cell kz9 5).trans (show _ = some (.int .i64 Z.f5) from rfl)); clear hb4 hd4 kz9))
            go_roundg n
            case measure => omega
            case rel =>
              have hne : ∀ b, b < g6 + 1 → some b ≠ (_ : Value).ownBlock := fun b hb e => by have := Kd.N_base HV.out b e.symm; omega
              exact ⟨j + 1, out ++ [Y], rfl, by omega, HQ1, ⟨blk_grown (blk_below H0.out HB5.out) HG9.out (hne _ (by have := kz.out; omega))⟩, ⟨blk_grown (blk_below H1.out HB5.out) HG9.out (hne _ (by have := kz.out; omega))⟩, ⟨blk_grown (blk_below H6.out HB5.out) HG9.out (hne _ (by omega))⟩, ⟨Kd.F_grown (Kd.F_below HF.out HB5.out) HG9.out (fun b hb => hne b (Nat.lt_succ_of_lt hb))⟩, HN9, ⟨(below_step HB.out HB5.out).trans (HB9.out.mono (by have := kz.out; omega))⟩, ⟨Nat.le_trans K9.out HB9.out.size⟩⟩

/-! ### notarylaw32_awake: function 8 -/
def notarylaw32_awake.f (k : Nat)  : Option (Bool) := (decls_Drop.f k 36 0 (⟨#[]⟩ : ByteArray) (([(⟨32, 0, (⟨#[]⟩ : ByteArray), ([] : List (S24)), 0, 0⟩ : S24), (⟨31, 0, (⟨#[]⟩ : ByteArray), ([] : List (S24)), 0, 0⟩ : S24)] : List (S24))) 0 0 0).bind fun bt130 => (if bt130.2.2.2.2.2.2 = true then (if (bt130.2.2.2.1.length : Int) = 1 then (if 0 < (bt130.2.2.2.1.length : Int) then (some (((rd_T24 bt130.2.2.2.1 0).f0) == 31)) else (none)) else (some false)) else (some false))
theorem notarylaw32_awake.mono : ∀ k, LeO (notarylaw32_awake.f k ) (notarylaw32_awake.f (k + 1) ) := by
  intro  k
  unfold notarylaw32_awake.f
  repeat' first | (with_reducible exact decls_Drop.mono _ _ _ _ _ _ _ _) | (with_reducible exact LeO.refl _) | (with_reducible refine LeO.bind ?_ (fun _ => ?_))
set_option maxHeartbeats 8000000 in
set_option maxRecDepth 100000 in
theorem notarylaw32_awake.calls (k : Nat)  (r : Bool) (w : World) (h : notarylaw32_awake.f k  = some r) :
    Calls Try.prog 8 #[] w fun e w' => e = .returned (.bool r) ∧ Below w.heap.size w w' := by
  have hu24 := Try.underlying24
  have HB := Aside0.mk (Below.refl w.heap.size w)
  have H : ((decls_Drop.f k 36 0 (⟨#[]⟩ : ByteArray) (([(⟨32, 0, (⟨#[]⟩ : ByteArray), ([] : List (S24)), 0, 0⟩ : S24), (⟨31, 0, (⟨#[]⟩ : ByteArray), ([] : List (S24)), 0, 0⟩ : S24)] : List (S24))) 0 0 0).bind fun bt130 => (if bt130.2.2.2.2.2.2 = true then (if (bt130.2.2.2.1.length : Int) = 1 then (if 0 < (bt130.2.2.2.1.length : Int) then (some (((rd_T24 bt130.2.2.2.1 0).f0) == 31)) else (none)) else (some false)) else (some false))) = some r := h
  clear h
  obtain ⟨y127, hy127⟩ : ∃ y_ : List (S24), y_ = (([(⟨32, 0, (⟨#[]⟩ : ByteArray), ([] : List (S24)), 0, 0⟩ : S24), (⟨31, 0, (⟨#[]⟩ : ByteArray), ([] : List (S24)), 0, 0⟩ : S24)] : List (S24))) := ⟨_, rfl⟩
  replace H : ((decls_Drop.f k 36 0 (⟨#[]⟩ : ByteArray) y127 0 0 0).bind fun bt130 => (if bt130.2.2.2.2.2.2 = true then (if (bt130.2.2.2.1.length : Int) = 1 then (if 0 < (bt130.2.2.2.1.length : Int) then (some (((rd_T24 bt130.2.2.2.1 0).f0) == 31)) else (none)) else (some false)) else (some false))) = some r := by (rw [hy127]; with_reducible exact H)
  have Ny127 := Aside0.mk hy127
  clear hy127
  replace H := Option.bind_eq_some_iff.mp H
  obtain ⟨⟨t130, t131, t132, t133, t136, t137, t138⟩, A10, H⟩ := H
  replace H : (if t138 = true then (if (t133.length : Int) = 1 then (if 0 < (t133.length : Int) then (some (((rd_T24 t133 0).f0) == 31)) else (none)) else (some false)) else (some false)) = some r := H
  have A1 := Aside0.mk A10
  clear A10
  by_cases c2 : t138 = true
  rotate_left
  · replace c2 := Bool.eq_false_iff.mpr c2
    subst c2
    have H1 : (some false) = some r := by rw [if_neg (show ¬ (false = true) by decide)] at H; exact H
    clear H
    have H := H1
    clear H1
    obtain rfl := Option.some.inj H
    go_enter Try.func8, Try.ntmps8
    go_wp2_with (first | ((with_reducible refine gate_dst (N := 6) rfl ?_); (try (refine gate_guard (by rfl) ?_; dsimp only)); refine Kd.R_lit k24 _ 24 ?hg (N := 6) ?hd (xs := ([(⟨32, 0, (⟨#[]⟩ : ByteArray), ([] : List (S24)), 0, 0⟩ : S24), (⟨31, 0, (⟨#[]⟩ : ByteArray), ([] : List (S24)), 0, 0⟩ : S24)] : List (S24))) (inner := [.int .i64 32, .int .i64 0, .string (⟨#[]⟩ : ByteArray), .slice none 0 0, .int .i64 0, .int .i64 0, .int .i64 31, .int .i64 0, .string (⟨#[]⟩ : ByteArray), .slice none 0 0, .int .i64 0, .int .i64 0]) (ok := fun _ => True) (okp := fun _ => True) ?hr ?hp (fun _ hk => hk) trivial (Below.refl _ _) (Nat.le_refl _) (by simp) ?_; (case hd => rfl); (case hg => rfl); (case hr => (go_simp; done)); (case hp => exact (Reps.c6 (show Kd.M k24 _ _ _ (⟨32, 0, (⟨#[]⟩ : ByteArray), ([] : List (S24)), 0, 0⟩ : S24) [.int .i64 32, .int .i64 0, .string (⟨#[]⟩ : ByteArray), .slice none 0 0, .int .i64 0, .int .i64 0] from (k24_mkM _ _ _ (⟨32, 0, (⟨#[]⟩ : ByteArray), ([] : List (S24)), 0, 0⟩ : S24) (Kd.R_nil _ _ _ _ _))) (Reps.c6 (show Kd.M k24 _ _ _ (⟨31, 0, (⟨#[]⟩ : ByteArray), ([] : List (S24)), 0, 0⟩ : S24) [.int .i64 31, .int .i64 0, .string (⟨#[]⟩ : ByteArray), .slice none 0 0, .int .i64 0, .int .i64 0] from (k24_mkM _ _ _ (⟨31, 0, (⟨#[]⟩ : ByteArray), ([] : List (S24)), 0, 0⟩ : S24) (Kd.R_nil _ _ _ _ _))) (Reps.none _ _)))); intro v128 w21 ho22 hb hg_ hnew_; clear hg_ hnew_; (rw [← Ny127.out] at ho22); have n0_ := Aside0.mk (Kd.R_lower ho22 (below_size HB.out)); have n1_ := Aside0.mk (below_step HB.out hb); clear HB; have HO129 := n0_; have HB := n1_; clear n0_ n1_; clear hb ho22; obtain ⟨Ao23, co23, eo23⟩ := Kd.R_slice HO129.out; subst eo23) | ((with_reducible refine gate_callee (f := 9) rfl ?_); refine goesL_ (some 8) rfl rfl Try.func9 (by kernel_rfl) rfl #[.agg #[.int .i64 36, .int .i64 0, .string (⟨#[]⟩ : ByteArray), .slice Ao23 y127.length co23, .int .i64 0, .int .i64 0], .int .i64 0] rfl (by (try simp only [List.map_toArray, List.map_cons, List.map_nil]); (rfl)) ?_; (with_reducible refine (decls_Drop.calls k 36 0 (⟨#[]⟩ : ByteArray) _ _ y127 0 0 0 t130 t131 t132 t133 t136 t137 false _ ?side1 ?side2 A1.out).mono ?_); (case side1 => repeat ((exact (Kd.R_reads' HO129.out).2.2))); (case side2 => exact (Kd.R_reads' HO129.out).2.1); rintro e w24 ⟨v134, rfl, ho0, hb⟩; refine ⟨_, rfl, ?_⟩; have n0_ := Aside0.mk (Kd.R_below (by exact HO129.out) hb); have n1_ := Aside0.mk (Kd.V_lower (Kd.V_mono (ok' := fun k_ => some k_ ≠ (.slice Ao23 y127.length co23 : Value).ownBlock) ho0 (fun k_ hk_ => (Kd.fresh' (Kd.R_lt (by exact HO129.out)) k_ hk_))) (below_size HB.out)); have n2_ := Aside0.mk (below_step HB.out hb); clear HO129; clear HB; have HO129 := n0_; have HO135 := n1_; have HB := n2_; clear n0_ n1_ n2_; (try clear hb); (try clear ho0)) | ((with_reducible refine gate_dst (N := 1) rfl ?_); (try (refine gate_guard (by rfl) ?_; dsimp only)); refine box_event ?hg (N := 1) ?hd (cs := #[.int .i64 0, .int .i64 0, .string (⟨#[]⟩ : ByteArray), .slice none 0 0, .int .i64 0, .int .i64 0]) (t := 24) ?hr ?_; (case hd => rfl); (case hg => rfl); (case hr => (go_simp; done)); intro gb139 hg w25 hbox hb; have n0_ := Aside0.mk (Kd.R_below (Kd.R_elderB (by exact HO129.out) gb139 (Nat.le_of_eq hg.symm)) hb); have n1_ := Aside0.mk (Kd.V_below (Kd.V_elderB (by exact HO135.out) gb139 (Nat.le_of_eq hg.symm)) hb); have n2_ := Aside0.mk (below_step HB.out hb); have n3_ := Aside0.mk (hbox); have n4_ := Aside0.mk ((by rw [hg]; exact (below_size HB.out) : w.heap.size ≤ gb139)); have n5_ := Aside0.mk ((by rw [hg]; exact (below_size HB.out) : w.heap.size ≤ gb139)); clear HO129; clear HO135; clear HB; have HO129 := n0_; have HO135 := n1_; have HB := n2_; have BK139 := n3_; have GW139 := n4_; have GE139 := n5_; clear n0_ n1_ n2_ n3_ n4_ n5_; clear hb hbox hg; have hcz26_0 : w25.cell? ⟨gb139, 0, none⟩ = some (.int .i64 0) := (blk_cell BK139.out 0).trans rfl; have hcz26_1 : w25.cell? ⟨gb139, 1, none⟩ = some (.int .i64 0) := (blk_cell BK139.out 1).trans rfl; have hcz26_2 : w25.cell? ⟨gb139, 2, none⟩ = some (.string (⟨#[]⟩ : ByteArray)) := (blk_cell BK139.out 2).trans rfl; have hcz26_3 : w25.cell? ⟨gb139, 3, none⟩ = some (.slice none 0 0) := (blk_cell BK139.out 3).trans rfl; have hcz26_4 : w25.cell? ⟨gb139, 4, none⟩ = some (.int .i64 0) := (blk_cell BK139.out 4).trans rfl; have hcz26_5 : w25.cell? ⟨gb139, 5, none⟩ = some (.int .i64 0) := (blk_cell BK139.out 5).trans rfl; have hfz26_0 := blk_frozen BK139.out 0; have hfz26_1 := blk_frozen BK139.out 1; have hfz26_2 := blk_frozen BK139.out 2; have hfz26_3 := blk_frozen BK139.out 3; have hfz26_4 := blk_frozen BK139.out 4; have hfz26_5 := blk_frozen BK139.out 5; obtain ⟨Ao27, co27, eo27⟩ := Kd.V_slice HO135.out; subst eo27))
    go_ret
    exact ⟨by (rfl), by repeat (with_reducible first | exact HB.out | refine below_set ?_ GE139.out)⟩


  subst c2
  have H1 : (if (t133.length : Int) = 1 then (if 0 < (t133.length : Int) then (some (((rd_T24 t133 0).f0) == 31)) else (none)) else (some false)) = some r := by rw [if_pos rfl] at H; exact H
  clear H
  have H := H1
  clear H1
  by_cases c3 : (t133.length : Int) = 1
  rotate_left
  · rw [if_neg c3] at H
    have c3b0 : ((t133.length : Int) == 1) = false := beq_eq_false_iff_ne.mpr c3
    have c3b1 : ((t133.length : Int) != 1) = true := bne_iff_ne.mpr c3
    obtain rfl := Option.some.inj H
    go_enter Try.func8, Try.ntmps8
    go_wp2_with (first | ((with_reducible refine gate_dst (N := 6) rfl ?_); (try (refine gate_guard (by rfl) ?_; dsimp only)); refine Kd.R_lit k24 _ 24 ?hg (N := 6) ?hd (xs := ([(⟨32, 0, (⟨#[]⟩ : ByteArray), ([] : List (S24)), 0, 0⟩ : S24), (⟨31, 0, (⟨#[]⟩ : ByteArray), ([] : List (S24)), 0, 0⟩ : S24)] : List (S24))) (inner := [.int .i64 32, .int .i64 0, .string (⟨#[]⟩ : ByteArray), .slice none 0 0, .int .i64 0, .int .i64 0, .int .i64 31, .int .i64 0, .string (⟨#[]⟩ : ByteArray), .slice none 0 0, .int .i64 0, .int .i64 0]) (ok := fun _ => True) (okp := fun _ => True) ?hr ?hp (fun _ hk => hk) trivial (Below.refl _ _) (Nat.le_refl _) (by simp) ?_; (case hd => rfl); (case hg => rfl); (case hr => (go_simp; done)); (case hp => exact (Reps.c6 (show Kd.M k24 _ _ _ (⟨32, 0, (⟨#[]⟩ : ByteArray), ([] : List (S24)), 0, 0⟩ : S24) [.int .i64 32, .int .i64 0, .string (⟨#[]⟩ : ByteArray), .slice none 0 0, .int .i64 0, .int .i64 0] from (k24_mkM _ _ _ (⟨32, 0, (⟨#[]⟩ : ByteArray), ([] : List (S24)), 0, 0⟩ : S24) (Kd.R_nil _ _ _ _ _))) (Reps.c6 (show Kd.M k24 _ _ _ (⟨31, 0, (⟨#[]⟩ : ByteArray), ([] : List (S24)), 0, 0⟩ : S24) [.int .i64 31, .int .i64 0, .string (⟨#[]⟩ : ByteArray), .slice none 0 0, .int .i64 0, .int .i64 0] from (k24_mkM _ _ _ (⟨31, 0, (⟨#[]⟩ : ByteArray), ([] : List (S24)), 0, 0⟩ : S24) (Kd.R_nil _ _ _ _ _))) (Reps.none _ _)))); intro v128 w14 ho15 hb hg_ hnew_; clear hg_ hnew_; (rw [← Ny127.out] at ho15); have n0_ := Aside0.mk (Kd.R_lower ho15 (below_size HB.out)); have n1_ := Aside0.mk (below_step HB.out hb); clear HB; have HO129 := n0_; have HB := n1_; clear n0_ n1_; clear hb ho15; obtain ⟨Ao16, co16, eo16⟩ := Kd.R_slice HO129.out; subst eo16) | ((with_reducible refine gate_callee (f := 9) rfl ?_); refine goesL_ (some 8) rfl rfl Try.func9 (by kernel_rfl) rfl #[.agg #[.int .i64 36, .int .i64 0, .string (⟨#[]⟩ : ByteArray), .slice Ao16 y127.length co16, .int .i64 0, .int .i64 0], .int .i64 0] rfl (by (try simp only [List.map_toArray, List.map_cons, List.map_nil]); (rfl)) ?_; (with_reducible refine (decls_Drop.calls k 36 0 (⟨#[]⟩ : ByteArray) _ _ y127 0 0 0 t130 t131 t132 t133 t136 t137 true _ ?side1 ?side2 A1.out).mono ?_); (case side1 => repeat ((exact (Kd.R_reads' HO129.out).2.2))); (case side2 => exact (Kd.R_reads' HO129.out).2.1); rintro e w17 ⟨v134, rfl, ho0, hb⟩; refine ⟨_, rfl, ?_⟩; have n0_ := Aside0.mk (Kd.R_below (by exact HO129.out) hb); have n1_ := Aside0.mk (Kd.V_lower (Kd.V_mono (ok' := fun k_ => some k_ ≠ (.slice Ao16 y127.length co16 : Value).ownBlock) ho0 (fun k_ hk_ => (Kd.fresh' (Kd.R_lt (by exact HO129.out)) k_ hk_))) (below_size HB.out)); have n2_ := Aside0.mk (below_step HB.out hb); clear HO129; clear HB; have HO129 := n0_; have HO135 := n1_; have HB := n2_; clear n0_ n1_ n2_; (try clear hb); (try clear ho0)) | ((with_reducible refine gate_dst (N := 1) rfl ?_); (try (refine gate_guard (by rfl) ?_; dsimp only)); refine box_event ?hg (N := 1) ?hd (cs := #[.int .i64 0, .int .i64 0, .string (⟨#[]⟩ : ByteArray), .slice none 0 0, .int .i64 0, .int .i64 0]) (t := 24) ?hr ?_; (case hd => rfl); (case hg => rfl); (case hr => (go_simp; done)); intro gb139 hg w18 hbox hb; have n0_ := Aside0.mk (Kd.R_below (Kd.R_elderB (by exact HO129.out) gb139 (Nat.le_of_eq hg.symm)) hb); have n1_ := Aside0.mk (Kd.V_below (Kd.V_elderB (by exact HO135.out) gb139 (Nat.le_of_eq hg.symm)) hb); have n2_ := Aside0.mk (below_step HB.out hb); have n3_ := Aside0.mk (hbox); have n4_ := Aside0.mk ((by rw [hg]; exact (below_size HB.out) : w.heap.size ≤ gb139)); have n5_ := Aside0.mk ((by rw [hg]; exact (below_size HB.out) : w.heap.size ≤ gb139)); clear HO129; clear HO135; clear HB; have HO129 := n0_; have HO135 := n1_; have HB := n2_; have BK139 := n3_; have GW139 := n4_; have GE139 := n5_; clear n0_ n1_ n2_ n3_ n4_ n5_; clear hb hbox hg; have hcz19_0 : w18.cell? ⟨gb139, 0, none⟩ = some (.int .i64 0) := (blk_cell BK139.out 0).trans rfl; have hcz19_1 : w18.cell? ⟨gb139, 1, none⟩ = some (.int .i64 0) := (blk_cell BK139.out 1).trans rfl; have hcz19_2 : w18.cell? ⟨gb139, 2, none⟩ = some (.string (⟨#[]⟩ : ByteArray)) := (blk_cell BK139.out 2).trans rfl; have hcz19_3 : w18.cell? ⟨gb139, 3, none⟩ = some (.slice none 0 0) := (blk_cell BK139.out 3).trans rfl; have hcz19_4 : w18.cell? ⟨gb139, 4, none⟩ = some (.int .i64 0) := (blk_cell BK139.out 4).trans rfl; have hcz19_5 : w18.cell? ⟨gb139, 5, none⟩ = some (.int .i64 0) := (blk_cell BK139.out 5).trans rfl; have hfz19_0 := blk_frozen BK139.out 0; have hfz19_1 := blk_frozen BK139.out 1; have hfz19_2 := blk_frozen BK139.out 2; have hfz19_3 := blk_frozen BK139.out 3; have hfz19_4 := blk_frozen BK139.out 4; have hfz19_5 := blk_frozen BK139.out 5; obtain ⟨Ao20, co20, eo20⟩ := Kd.V_slice HO135.out; subst eo20))
    go_ret
    exact ⟨by (rfl), by repeat (with_reducible first | exact HB.out | refine below_set ?_ GE139.out)⟩
  rw [if_pos c3] at H
  have c3b0 : ((t133.length : Int) == 1) = true := beq_iff_eq.mpr c3
  have c3b1 : ((t133.length : Int) != 1) = false := bne_eq_false_iff_eq.mpr c3
  clear c3
  by_cases c4 : 0 < (t133.length : Int)
  rotate_left
  · rw [if_neg c4] at H
    exact absurd H (by simp)
  rw [if_pos c4] at H
  have c4b0 : decide (0 < (t133.length : Int)) = true := decide_eq_true c4
  have c4b1 : decide (0 < t133.length) = true := decide_eq_true (by omega)
  clear c4
  obtain rfl := Option.some.inj H
  go_enter Try.func8, Try.ntmps8
  go_wp2_with (first | ((with_reducible refine gate_dst (N := 6) rfl ?_); (try (refine gate_guard (by rfl) ?_; dsimp only)); refine Kd.R_lit k24 _ 24 ?hg (N := 6) ?hd (xs := ([(⟨32, 0, (⟨#[]⟩ : ByteArray), ([] : List (S24)), 0, 0⟩ : S24), (⟨31, 0, (⟨#[]⟩ : ByteArray), ([] : List (S24)), 0, 0⟩ : S24)] : List (S24))) (inner := [.int .i64 32, .int .i64 0, .string (⟨#[]⟩ : ByteArray), .slice none 0 0, .int .i64 0, .int .i64 0, .int .i64 31, .int .i64 0, .string (⟨#[]⟩ : ByteArray), .slice none 0 0, .int .i64 0, .int .i64 0]) (ok := fun _ => True) (okp := fun _ => True) ?hr ?hp (fun _ hk => hk) trivial (Below.refl _ _) (Nat.le_refl _) (by simp) ?_; (case hd => rfl); (case hg => rfl); (case hr => (go_simp; done)); (case hp => exact (Reps.c6 (show Kd.M k24 _ _ _ (⟨32, 0, (⟨#[]⟩ : ByteArray), ([] : List (S24)), 0, 0⟩ : S24) [.int .i64 32, .int .i64 0, .string (⟨#[]⟩ : ByteArray), .slice none 0 0, .int .i64 0, .int .i64 0] from (k24_mkM _ _ _ (⟨32, 0, (⟨#[]⟩ : ByteArray), ([] : List (S24)), 0, 0⟩ : S24) (Kd.R_nil _ _ _ _ _))) (Reps.c6 (show Kd.M k24 _ _ _ (⟨31, 0, (⟨#[]⟩ : ByteArray), ([] : List (S24)), 0, 0⟩ : S24) [.int .i64 31, .int .i64 0, .string (⟨#[]⟩ : ByteArray), .slice none 0 0, .int .i64 0, .int .i64 0] from (k24_mkM _ _ _ (⟨31, 0, (⟨#[]⟩ : ByteArray), ([] : List (S24)), 0, 0⟩ : S24) (Kd.R_nil _ _ _ _ _))) (Reps.none _ _)))); intro v128 w5 ho6 hb hg_ hnew_; clear hg_ hnew_; (rw [← Ny127.out] at ho6); have n0_ := Aside0.mk (Kd.R_lower ho6 (below_size HB.out)); have n1_ := Aside0.mk (below_step HB.out hb); clear HB; have HO129 := n0_; have HB := n1_; clear n0_ n1_; clear hb ho6; obtain ⟨Ao7, co7, eo7⟩ := Kd.R_slice HO129.out; subst eo7) | ((with_reducible refine gate_callee (f := 9) rfl ?_); refine goesL_ (some 8) rfl rfl Try.func9 (by kernel_rfl) rfl #[.agg #[.int .i64 36, .int .i64 0, .string (⟨#[]⟩ : ByteArray), .slice Ao7 y127.length co7, .int .i64 0, .int .i64 0], .int .i64 0] rfl (by (try simp only [List.map_toArray, List.map_cons, List.map_nil]); (rfl)) ?_; (with_reducible refine (decls_Drop.calls k 36 0 (⟨#[]⟩ : ByteArray) _ _ y127 0 0 0 t130 t131 t132 t133 t136 t137 true _ ?side1 ?side2 A1.out).mono ?_); (case side1 => repeat ((exact (Kd.R_reads' HO129.out).2.2))); (case side2 => exact (Kd.R_reads' HO129.out).2.1); rintro e w8 ⟨v134, rfl, ho0, hb⟩; refine ⟨_, rfl, ?_⟩; have n0_ := Aside0.mk (Kd.R_below (by exact HO129.out) hb); have n1_ := Aside0.mk (Kd.V_lower (Kd.V_mono (ok' := fun k_ => some k_ ≠ (.slice Ao7 y127.length co7 : Value).ownBlock) ho0 (fun k_ hk_ => (Kd.fresh' (Kd.R_lt (by exact HO129.out)) k_ hk_))) (below_size HB.out)); have n2_ := Aside0.mk (below_step HB.out hb); clear HO129; clear HB; have HO129 := n0_; have HO135 := n1_; have HB := n2_; clear n0_ n1_ n2_; (try clear hb); (try clear ho0)) | ((with_reducible refine gate_dst (N := 1) rfl ?_); (try (refine gate_guard (by rfl) ?_; dsimp only)); refine box_event ?hg (N := 1) ?hd (cs := #[.int .i64 0, .int .i64 0, .string (⟨#[]⟩ : ByteArray), .slice none 0 0, .int .i64 0, .int .i64 0]) (t := 24) ?hr ?_; (case hd => rfl); (case hg => rfl); (case hr => (go_simp; done)); intro gb139 hg w9 hbox hb; have n0_ := Aside0.mk (Kd.R_below (Kd.R_elderB (by exact HO129.out) gb139 (Nat.le_of_eq hg.symm)) hb); have n1_ := Aside0.mk (Kd.V_below (Kd.V_elderB (by exact HO135.out) gb139 (Nat.le_of_eq hg.symm)) hb); have n2_ := Aside0.mk (below_step HB.out hb); have n3_ := Aside0.mk (hbox); have n4_ := Aside0.mk ((by rw [hg]; exact (below_size HB.out) : w.heap.size ≤ gb139)); have n5_ := Aside0.mk ((by rw [hg]; exact (below_size HB.out) : w.heap.size ≤ gb139)); clear HO129; clear HO135; clear HB; have HO129 := n0_; have HO135 := n1_; have HB := n2_; have BK139 := n3_; have GW139 := n4_; have GE139 := n5_; clear n0_ n1_ n2_ n3_ n4_ n5_; clear hb hbox hg; have hcz10_0 : w9.cell? ⟨gb139, 0, none⟩ = some (.int .i64 0) := (blk_cell BK139.out 0).trans rfl; have hcz10_1 : w9.cell? ⟨gb139, 1, none⟩ = some (.int .i64 0) := (blk_cell BK139.out 1).trans rfl; have hcz10_2 : w9.cell? ⟨gb139, 2, none⟩ = some (.string (⟨#[]⟩ : ByteArray)) := (blk_cell BK139.out 2).trans rfl; have hcz10_3 : w9.cell? ⟨gb139, 3, none⟩ = some (.slice none 0 0) := (blk_cell BK139.out 3).trans rfl; have hcz10_4 : w9.cell? ⟨gb139, 4, none⟩ = some (.int .i64 0) := (blk_cell BK139.out 4).trans rfl; have hcz10_5 : w9.cell? ⟨gb139, 5, none⟩ = some (.int .i64 0) := (blk_cell BK139.out 5).trans rfl; have hfz10_0 := blk_frozen BK139.out 0; have hfz10_1 := blk_frozen BK139.out 1; have hfz10_2 := blk_frozen BK139.out 2; have hfz10_3 := blk_frozen BK139.out 3; have hfz10_4 := blk_frozen BK139.out 4; have hfz10_5 := blk_frozen BK139.out 5; obtain ⟨Ao11, co11, eo11⟩ := Kd.V_slice HO135.out; subst eo11) | ((with_reducible refine gate_store (t := 24) (p := 1) rfl ?_); refine store_event (t := 24) (p := 1) (v := ?vo_w12) (w1 := ((((((w9.setCell ⟨gb139, 0, none⟩ (.int .i64 t130)).setCell ⟨gb139, 1, none⟩ (.int .i64 t131)).setCell ⟨gb139, 2, none⟩ (.string t132)).setCell ⟨gb139, 3, none⟩ (.slice Ao11 t133.length co11)).setCell ⟨gb139, 4, none⟩ (.int .i64 t136)).setCell ⟨gb139, 5, none⟩ (.int .i64 t137))) ?hg ?ho ?hn ?hr ?_; (case ho => rfl); (case hg => rfl); (case hn => rfl); (case hr => (go_simp; done)); intro w12 hw; have n0_ : Aside0 (Kd.R k24 24 w12 w.heap.size (fun k_ => k_ ≠ gb139) (.slice Ao7 y127.length co7) y127) := ⟨(by rw [hw]; exact (by exact Kd.R_mono (Kd.R_far (p := ⟨gb139, 5, none⟩) (Kd.R_far (p := ⟨gb139, 4, none⟩) (Kd.R_far (p := ⟨gb139, 3, none⟩) (Kd.R_far (p := ⟨gb139, 2, none⟩) (Kd.R_far (p := ⟨gb139, 1, none⟩) (Kd.R_far (p := ⟨gb139, 0, none⟩) (Kd.R_mono HO129.out (fun k_ hk => (⟨hk, hk.2⟩ : _ ∧ k_ ≠ gb139))) (fun _ hk => hk.2) (.int .i64 t130)) (fun _ hk => hk.2) (.int .i64 t131)) (fun _ hk => hk.2) (.string t132)) (fun _ hk => hk.2) (.slice Ao11 t133.length co11)) (fun _ hk => hk.2) (.int .i64 t136)) (fun _ hk => hk.2) (.int .i64 t137)) (fun _ hk => hk.1.2)))⟩; have n1_ : Aside0 (Kd.V k24 24 w12 w.heap.size (fun k_ => some k_ ≠ (.slice Ao7 y127.length co7 : Value).ownBlock ∧ k_ ≠ gb139) (.slice Ao11 t133.length co11) t133) := ⟨(by rw [hw]; exact (by exact Kd.V_mono (Kd.V_far (p := ⟨gb139, 5, none⟩) (Kd.V_far (p := ⟨gb139, 4, none⟩) (Kd.V_far (p := ⟨gb139, 3, none⟩) (Kd.V_far (p := ⟨gb139, 2, none⟩) (Kd.V_far (p := ⟨gb139, 1, none⟩) (Kd.V_far (p := ⟨gb139, 0, none⟩) (Kd.V_mono HO135.out (fun k_ hk => (⟨hk, hk.2⟩ : _ ∧ k_ ≠ gb139))) (fun _ hk => hk.2) (.int .i64 t130)) (fun _ hk => hk.2) (.int .i64 t131)) (fun _ hk => hk.2) (.string t132)) (fun _ hk => hk.2) (.slice Ao11 t133.length co11)) (fun _ hk => hk.2) (.int .i64 t136)) (fun _ hk => hk.2) (.int .i64 t137)) (fun _ hk => ⟨hk.1.1, hk.1.2⟩)))⟩; have n2_ : Aside0 (w12.heap[gb139]? = some (.cells #[.int .i64 t130, .int .i64 t131, .string t132, .slice Ao11 t133.length co11, .int .i64 t136, .int .i64 t137] 24 (0, 0))) := ⟨(by rw [hw]; exact (by refine blk_put (cs := #[.int .i64 t130, .int .i64 t131, .string t132, .slice Ao11 t133.length co11, .int .i64 t136, .int .i64 0]) ?_ 5 _ rfl; refine blk_put (cs := #[.int .i64 t130, .int .i64 t131, .string t132, .slice Ao11 t133.length co11, .int .i64 0, .int .i64 0]) ?_ 4 _ rfl; refine blk_put (cs := #[.int .i64 t130, .int .i64 t131, .string t132, .slice none 0 0, .int .i64 0, .int .i64 0]) ?_ 3 _ rfl; refine blk_put (cs := #[.int .i64 t130, .int .i64 t131, .string (⟨#[]⟩ : ByteArray), .slice none 0 0, .int .i64 0, .int .i64 0]) ?_ 2 _ rfl; refine blk_put (cs := #[.int .i64 t130, .int .i64 0, .string (⟨#[]⟩ : ByteArray), .slice none 0 0, .int .i64 0, .int .i64 0]) ?_ 1 _ rfl; refine blk_put (cs := #[.int .i64 0, .int .i64 0, .string (⟨#[]⟩ : ByteArray), .slice none 0 0, .int .i64 0, .int .i64 0]) ?_ 0 _ rfl; exact BK139.out))⟩; have n3_ : Aside0 (Below w.heap.size w w12) := ⟨(by rw [hw]; exact (by repeat (with_reducible first | exact HB.out | refine below_set ?_ GE139.out)))⟩; clear hw; clear HO129; clear HO135; clear BK139; clear HB; have HO129 := n0_; have HO135 := n1_; have BK139 := n2_; have HB := n3_; clear n0_ n1_ n2_ n3_; have hcz13_0 : w12.cell? ⟨gb139, 0, none⟩ = some (.int .i64 t130) := (blk_cell BK139.out 0).trans rfl; have hcz13_1 : w12.cell? ⟨gb139, 1, none⟩ = some (.int .i64 t131) := (blk_cell BK139.out 1).trans rfl; have hcz13_2 : w12.cell? ⟨gb139, 2, none⟩ = some (.string t132) := (blk_cell BK139.out 2).trans rfl; have hcz13_3 : w12.cell? ⟨gb139, 3, none⟩ = some (.slice Ao11 t133.length co11) := (blk_cell BK139.out 3).trans rfl; have hcz13_4 : w12.cell? ⟨gb139, 4, none⟩ = some (.int .i64 t136) := (blk_cell BK139.out 4).trans rfl; have hcz13_5 : w12.cell? ⟨gb139, 5, none⟩ = some (.int .i64 t137) := (blk_cell BK139.out 5).trans rfl; have hfz13_0 := blk_frozen BK139.out 0; have hfz13_1 := blk_frozen BK139.out 1; have hfz13_2 := blk_frozen BK139.out 2; have hfz13_3 := blk_frozen BK139.out 3; have hfz13_4 := blk_frozen BK139.out 4; have hfz13_5 := blk_frozen BK139.out 5; have p140 : 0 ≤ (0 : Int) := (by omega); have q140 : 0 < (t133.length : Int) := of_decide_eq_true (by (with_reducible assumption)); obtain ⟨ad140, A140_3, c140_3, e140, hx140_0, hx140_1, hx140_2, hx140_3, hx140_4, hx140_5, hl140_3, hi140_3⟩ := at_T24 (Kd.V_reads' HO135.out).2.2 0 p140 q140; cases e140; obtain ⟨ce140, hce140, hMe140, hcc140⟩ := Kd.V_get HO135.out z24 0 p140 (by (exact q140)); obtain ⟨ua140_3, uc140_3, rfl, ul140_3, ge140_3⟩ := k24_openF hMe140; have hv140_3 := hcc140 3 _ rfl; rw [add_field _ _ 3 (by omega)] at hv140_3; replace hv140_3 := Option.some.inj (hv140_3.symm.trans hx140_3); injection hv140_3 with hva_ hvn_ hvc_; rw [hva_] at ge140_3; rw [hvc_] at ul140_3; have HL140_3 := Aside0.mk (show Kd.V k24 24 _ w.heap.size _ _ ((rd_T24 t133 0).f3) from Kd.V_mk ul140_3 ge140_3); clear hva_ hvn_ hvc_ ge140_3 ul140_3; clear hcc140 hce140; have qi140 : (0 < t133.length) = True := eq_true (by omega); (try rw [show (0 : Int).toNat = 0 from rfl] at hx140_0); (try rw [show 0 * 6 = 0 from rfl] at hx140_0); (try rw [Addr.add_zero'] at hx140_0); (try rw [show (0 : Int).toNat = 0 from rfl] at hx140_1); (try rw [show 0 * 6 = 0 from rfl] at hx140_1); (try rw [Addr.add_zero'] at hx140_1); (try rw [show (0 : Int).toNat = 0 from rfl] at hx140_2); (try rw [show 0 * 6 = 0 from rfl] at hx140_2); (try rw [Addr.add_zero'] at hx140_2); (try rw [show (0 : Int).toNat = 0 from rfl] at hx140_3); (try rw [show 0 * 6 = 0 from rfl] at hx140_3); (try rw [Addr.add_zero'] at hx140_3); (try rw [show (0 : Int).toNat = 0 from rfl] at hx140_4); (try rw [show 0 * 6 = 0 from rfl] at hx140_4); (try rw [Addr.add_zero'] at hx140_4); (try rw [show (0 : Int).toNat = 0 from rfl] at hx140_5); (try rw [show 0 * 6 = 0 from rfl] at hx140_5); (try rw [Addr.add_zero'] at hx140_5); have HR140_3 := Aside0.mk hi140_3; have HC140_3 := Aside0.mk hl140_3; clear hi140_3 hl140_3; replace p140 := eq_true p140; replace q140 := eq_true q140))
  go_ret
  exact ⟨by (rfl), HB.out⟩/-! ### notaryref32_To: function 11 -/
mutual
def notaryref32_To.l0 : Nat → List Int → Int → List Int → Int → Option (List Int × Bool)
  | 0, _, _, _, _ => none
  | k + 1, x0, x1, x6, x7 => if x7 < x1 then (notaryref32_To.l1 k x0 x1 x6 x7 (-1) 0) else (some (x6, true))
def notaryref32_To.l1 : Nat → List Int → Int → List Int → Int → Int → Int → Option (List Int × Bool)
  | 0, _, _, _, _, _, _ => none
  | k + 1, x0, x1, x6, x7, x8, x9 => if x9 < x1 then (if 0 ≤ x9 then (if x9 < (x0.length : Int) then (if (rd x0 x9) = x7 then (notaryref32_To.l1 k x0 x1 x6 x7 x9 (wrap64 (x9 + 1))) else (notaryref32_To.l1 k x0 x1 x6 x7 x8 (wrap64 (x9 + 1)))) else (none)) else (none)) else (if x8 < 0 then (some (([] : List Int), false)) else (if x6.length < 17592186044416 then (notaryref32_To.l0 k x0 x1 (x6 ++ [x8]) (wrap64 (x7 + 1))) else (none)))
end
def notaryref32_To.f (k : Nat) (l0 : List Int) (a1 : Int) : Option (List Int × Bool) := if (l0.length : Int) = a1 then (notaryref32_To.l0 k l0 a1 ([] : List Int) 0) else (some (([] : List Int), false))
theorem notaryref32_To.mono_l : ∀ k, (∀ y0 y1 y2 y3, LeO (notaryref32_To.l0 k y0 y1 y2 y3) (notaryref32_To.l0 (k + 1) y0 y1 y2 y3)) ∧ (∀ y0 y1 y2 y3 y4 y5, LeO (notaryref32_To.l1 k y0 y1 y2 y3 y4 y5) (notaryref32_To.l1 (k + 1) y0 y1 y2 y3 y4 y5))
  | 0 => ⟨fun _ _ _ _ r h => by simp [notaryref32_To.l0] at h, fun _ _ _ _ _ _ r h => by simp [notaryref32_To.l1] at h⟩
  | k + 1 => by
    obtain ⟨ih0, ih1⟩ := notaryref32_To.mono_l k
    refine ⟨?_, ?_⟩
    · intro y0 y1 y2 y3
      unfold notaryref32_To.l0
      repeat' first | (with_reducible exact ih1 _ _ _ _ _ _) | (with_reducible exact LeO.refl _) | (with_reducible refine LeO.ite ?_ ?_)
    · intro y0 y1 y2 y3 y4 y5
      unfold notaryref32_To.l1
      repeat' first | (with_reducible exact ih0 _ _ _ _) | (with_reducible exact ih1 _ _ _ _ _ _) | (with_reducible exact LeO.refl _) | (with_reducible refine LeO.ite ?_ ?_)
theorem notaryref32_To.mono : ∀ a0 a1 k, LeO (notaryref32_To.f k a0 a1) (notaryref32_To.f (k + 1) a0 a1) := by
  intro a0 a1 k
  obtain ⟨ih0, ih1⟩ := notaryref32_To.mono_l k
  unfold notaryref32_To.f
  repeat' first | (with_reducible exact ih0 _ _ _ _) | (with_reducible exact LeO.refl _) | (with_reducible refine LeO.ite ?_ ?_)
set_option maxHeartbeats 8000000 in
set_option maxRecDepth 100000 in
theorem notaryref32_To.calls (k : Nat) (A0 : Option Addr) (c0 : Nat) (l0 : List Int) (a1 : Int) (r1 : List Int) (r2 : Bool) (w : World) (hr0 : Kd.C (Kd.int .i64) w A0 l0.length l0) (hc0 : l0.length ≤ c0) (h : notaryref32_To.f k l0 a1 = some (r1, r2)) :
    Calls Try.prog 11 #[.slice A0 l0.length c0, .int .i64 a1] w fun e w' => ∃ v0_ : Value, e = .returned (.tuple #[v0_, .bool r2]) ∧ Kd.R (Kd.int .i64) 3 w' w.heap.size (fun _ => True) v0_ r1 ∧ Below w.heap.size w w' := by
  have HR0 := Aside0.mk hr0
  have HC0 := Aside0.mk hc0
  clear hr0 hc0
  have HB := Aside0.mk (Below.refl w.heap.size w)
  have H : (if (l0.length : Int) = a1 then (notaryref32_To.l0 k l0 a1 ([] : List Int) 0) else (some (([] : List Int), false))) = some (r1, r2) := h
  clear h
  by_cases c3 : (l0.length : Int) = a1
  rotate_left
  · rw [if_neg c3] at H
    have c3b0 : ((l0.length : Int) == a1) = false := beq_eq_false_iff_ne.mpr c3
    have c3b1 : ((l0.length : Int) != a1) = true := bne_iff_ne.mpr c3
    obtain ⟨y141, hy141⟩ : ∃ y_ : List Int, y_ = ([] : List Int) := ⟨_, rfl⟩
    replace H : (some (y141, false)) = some (r1, r2) := by (rw [hy141]; with_reducible exact H)
    have Ny141 := Aside0.mk hy141
    clear hy141
    simp only [Option.some.injEq, Prod.mk.injEq] at H
    obtain ⟨rfl, rfl⟩ := H
    go_enter Try.func11, Try.ntmps11
    go_wp2_with ((((with_reducible refine gate_dst (N := 14) rfl ?_); refine Kd.R_lit (Kd.int .i64) _ 3 ?hg (N := 14) ?hd (xs := ([] : List Int)) (inner := []) (ok := fun _ => True) (okp := fun _ => True) ?hr ?hp (fun _ hk => hk) trivial (Below.refl _ _) (Nat.le_refl _) (by simp) ?_; (case hd => rfl); (case hg => rfl); (case hr => (go_simp; done)); (case hp => exact (Reps.none _ _)); intro v142 w16 ho17 hb hg_ hnew_; clear hg_ hnew_; (rw [← Ny141.out] at ho17); have n0_ := Aside0.mk (Kd.R_lower ho17 (below_size HB.out)); have n1_ := Aside0.mk (below_step HB.out hb); clear HB; have HO143 := n0_; have HB := n1_; clear n0_ n1_; clear hb ho17)))
    go_ret2
    exact ⟨_, by (rfl), by exact HO143.out, HB.out⟩


  rw [if_pos c3] at H
  have c3b0 : ((l0.length : Int) == a1) = true := beq_iff_eq.mpr c3
  have c3b1 : ((l0.length : Int) != a1) = false := bne_eq_false_iff_eq.mpr c3
  clear c3
  obtain ⟨y144, hy144⟩ : ∃ y_ : List Int, y_ = ([] : List Int) := ⟨_, rfl⟩
  replace H : (notaryref32_To.l0 k l0 a1 y144 0) = some (r1, r2) := by (rw [hy144]; with_reducible exact H)
  have Ny144 := Aside0.mk hy144
  clear hy144
  have H' := Aside0.mk H
  clear H
  go_enter Try.func11, Try.ntmps11
  go_wp2_with ((((with_reducible refine gate_dst (N := 15) rfl ?_); refine Kd.R_lit (Kd.int .i64) _ 3 ?hg (N := 15) ?hd (xs := ([] : List Int)) (inner := []) (ok := fun _ => True) (okp := fun _ => True) ?hr ?hp (fun _ hk => hk) trivial (Below.refl _ _) (Nat.le_refl _) (by simp) ?_; (case hd => rfl); (case hg => rfl); (case hr => (go_simp; done)); (case hp => exact (Reps.none _ _)); intro v145 w4 ho5 hb hg_ hnew_; clear hg_ hnew_; (rw [← Ny144.out] at ho5); have n0_ := Aside0.mk (Kd.R_lower ho5 (below_size HB.out)); have n1_ := Aside0.mk (below_step HB.out hb); clear HB; have HO146 := n0_; have HB := n1_; clear n0_ n1_; clear hb ho5)))
  go_loopg [6, 7] k (fun kq v6 v7 w' => ∃ (x6_1 : List Int) (x7_1 : Int), v7 = .int .i64 x7_1 ∧ Aside0 (notaryref32_To.l0 kq l0 a1 x6_1 x7_1 = some (r1, r2)) ∧ Aside0 (kq ≤ k) ∧ Aside0 (Kd.R (Kd.int .i64) 3 w' w.heap.size (fun _ => True) v6 x6_1) ∧ Aside0 (Below w.heap.size w w'))
  case atStart => exact ⟨(y144), (0), (by (rfl)), H', ⟨Nat.le_refl _⟩, ⟨by exact HO146.out⟩, ⟨HB.out⟩⟩
  clear H'
  try clear c3b0
  try clear c3b1
  obtain ⟨x6_1, x7_1, rfl, HA, HK1, HO_6, HB⟩ := hrel
  rcases gk with _ | k1
  · exact absurd HA.out (by simp [notaryref32_To.l0])
  have H := HA.out
  clear HA
  simp only [notaryref32_To.l0] at H
  by_cases c6 : x7_1 < a1
  rotate_left
  · rw [if_neg c6] at H
    have c6b0 : decide (x7_1 < a1) = false := decide_eq_false c6
    clear c6
    simp only [Option.some.injEq, Prod.mk.injEq] at H
    obtain ⟨rfl, rfl⟩ := H
    go_wp2
    go_ret2
    exact ⟨_, by (rfl), by exact HO_6.out, HB.out⟩
  rw [if_pos c6] at H
  have c6b0 : decide (x7_1 < a1) = true := decide_eq_true c6
  clear c6
  have H' := Aside0.mk H
  clear H
  go_wp2
  go_loopg [8, 9] k1 (fun kq v8 v9 w' => ∃ (x8_2 : Int) (x9_2 : Int), v8 = .int .i64 x8_2 ∧ v9 = .int .i64 x9_2 ∧ Aside0 (notaryref32_To.l1 kq l0 a1 x6_1 x7_1 x8_2 x9_2 = some (r1, r2)) ∧ Aside0 (kq ≤ k1) ∧ Aside0 (Kd.R (Kd.int .i64) 3 w' w.heap.size (fun _ => True) u6 x6_1) ∧ Aside0 (Below w.heap.size w w'))
  case atStart => exact ⟨(-1), (0), (by (rfl)), (by (rfl)), H', ⟨Nat.le_refl _⟩, ⟨by exact HO_6.out⟩, ⟨HB.out⟩⟩
  clear H'
  try clear c6b0
  obtain ⟨x8_2, x9_2, rfl, rfl, HA, HK2, HO_6, HB⟩ := hrel
  rcases gk with _ | k2
  · exact absurd HA.out (by simp [notaryref32_To.l1])
  have H := HA.out
  clear HA
  simp only [notaryref32_To.l1] at H
  by_cases c7 : x9_2 < a1
  · rw [if_pos c7] at H
    have c7b0 : decide (x9_2 < a1) = true := decide_eq_true c7
    clear c7
    by_cases c8 : 0 ≤ x9_2
    rotate_left
    · rw [if_neg c8] at H
      exact absurd H (by simp)
    rw [if_pos c8] at H
    have c8b0 : decide (0 ≤ x9_2) = true := decide_eq_true c8
    clear c8
    by_cases c9 : x9_2 < (l0.length : Int)
    rotate_left
    · rw [if_neg c9] at H
      exact absurd H (by simp)
    rw [if_pos c9] at H
    have c9b0 : decide (x9_2 < (l0.length : Int)) = true := decide_eq_true c9
    clear c9
    by_cases c10 : (rd l0 x9_2) = x7_1
    rotate_left
    · rw [if_neg c10] at H
      have c10b0 : ((rd l0 x9_2) == x7_1) = false := beq_eq_false_iff_ne.mpr c10
      have c10b1 : ((rd l0 x9_2) != x7_1) = true := bne_iff_ne.mpr c10
      have H' := Aside0.mk H
      clear H
      have p147 : 0 ≤ (x9_2 : Int) := of_decide_eq_true (by (with_reducible assumption))
      have q147 : x9_2 < (l0.length : Int) := of_decide_eq_true (by (with_reducible assumption))
      obtain ⟨ad147, e147, hx147_0⟩ := Kd.at_int HR0.out x9_2 p147 q147
      cases e147
      replace hx147_0 := pw_cell_below HB.out hx147_0
      replace p147 := eq_true p147
      replace q147 := eq_true q147
      go_wp2
      go_roundg k2
      case measure => have := HK1.out; have := HK2.out; omega
      case rel => exact ⟨(x8_2), (wrap64 (x9_2 + 1)), (by (rfl)), (by (rfl)), H', ⟨by have := HK1.out; have := HK2.out; omega⟩, ⟨by exact HO_6.out⟩, ⟨HB.out⟩⟩
    rw [if_pos c10] at H
    have c10b0 : ((rd l0 x9_2) == x7_1) = true := beq_iff_eq.mpr c10
    have c10b1 : ((rd l0 x9_2) != x7_1) = false := bne_eq_false_iff_eq.mpr c10
    clear c10
    have H' := Aside0.mk H
    clear H
    have p147 : 0 ≤ (x9_2 : Int) := of_decide_eq_true (by (with_reducible assumption))
    have q147 : x9_2 < (l0.length : Int) := of_decide_eq_true (by (with_reducible assumption))
    obtain ⟨ad147, e147, hx147_0⟩ := Kd.at_int HR0.out x9_2 p147 q147
    cases e147
    replace hx147_0 := pw_cell_below HB.out hx147_0
    replace p147 := eq_true p147
    replace q147 := eq_true q147
    go_wp2
    go_roundg k2
    case measure => have := HK1.out; have := HK2.out; omega
    case rel => exact ⟨(x9_2), (wrap64 (x9_2 + 1)), (by (rfl)), (by (rfl)), H', ⟨by have := HK1.out; have := HK2.out; omega⟩, ⟨by exact HO_6.out⟩, ⟨HB.out⟩⟩
  rw [if_neg c7] at H
  have c7b0 : decide (x9_2 < a1) = false := decide_eq_false c7
  clear c7
  by_cases c11 : x8_2 < 0
  · rw [if_pos c11] at H
    have c11b0 : decide (x8_2 < 0) = true := decide_eq_true c11
    clear c11
    obtain ⟨y148, hy148⟩ : ∃ y_ : List Int, y_ = ([] : List Int) := ⟨_, rfl⟩
    replace H : (some (y148, false)) = some (r1, r2) := by (rw [hy148]; with_reducible exact H)
    have Ny148 := Aside0.mk hy148
    clear hy148
    simp only [Option.some.injEq, Prod.mk.injEq] at H
    obtain ⟨rfl, rfl⟩ := H
    go_wp2_with ((((with_reducible refine gate_dst (N := 35) rfl ?_); refine Kd.R_lit (Kd.int .i64) _ 3 ?hg (N := 35) ?hd (xs := ([] : List Int)) (inner := []) (ok := fun _ => True) (okp := fun _ => True) ?hr ?hp (fun _ hk => hk) trivial (Below.refl _ _) (Nat.le_refl _) (by simp) ?_; (case hd => rfl); (case hg => rfl); (case hr => (go_simp; done)); (case hp => exact (Reps.none _ _)); intro v149 w12 ho13 hb hg_ hnew_; clear hg_ hnew_; (rw [← Ny148.out] at ho13); have n0_ := Aside0.mk (Kd.R_elder' (by exact HO_6.out) (Kd.R_base ho13) hb); have n1_ := Aside0.mk (Kd.R_lower (Kd.R_new' ho13 (Kd.R_lt (by exact HO_6.out))) (below_size HB.out)); have n2_ := Aside0.mk (below_step HB.out hb); clear HO_6; clear HB; have HO_6 := n0_; have HO150 := n1_; have HB := n2_; clear n0_ n1_ n2_; clear hb ho13)))
    go_ret2
    exact ⟨_, by (rfl), by exact Kd.R_mono HO150.out (fun _ hk => trivial), HB.out⟩
  rw [if_neg c11] at H
  have c11b0 : decide (x8_2 < 0) = false := decide_eq_false c11
  clear c11
  by_cases c14 : x6_1.length < 17592186044416
  rotate_left
  · rw [if_neg c14] at H
    exact absurd H (by simp)
  rw [if_pos c14] at H
  have LMc14 := Aside0.mk c14
  clear c14
  obtain ⟨y151, hy151⟩ : ∃ y_ : List Int, y_ = (x6_1 ++ [x8_2]) := ⟨_, rfl⟩
  replace H : (notaryref32_To.l0 k2 l0 a1 y151 (wrap64 (x7_1 + 1))) = some (r1, r2) := by (rw [hy151]; with_reducible exact H)
  have Ny151 := Aside0.mk hy151
  clear hy151
  have H' := Aside0.mk H
  clear H
  go_wp2_with ((((with_reducible refine gate_builtin (b := .append) (xs := #[.tmp 36, .tmp 38]) rfl ?_); at_builtin; refine Kd.R_append (Kd.int .i64) (w0 := w) w.heap.size rfl (.tmp 36) (.tmp 38) 25 3 (.int .i64 0) 8 rfl Try.underlying25 info3 rfl (by decide) (by omega) u6 x6_1 x8_2 [.int .i64 x8_2] (fun _ => True) (fun _ => False) rfl rfl ?aP (fun _ hk => hk.elim) ?aF ?aO ?aB ?aS ?aL ?_; (case aP => exact rfl); (case aB => exact HB.out); (case aF => exact (fun _ _ => trivial)); (case aO => exact (by exact HO_6.out)); (case aS => exact (below_size HB.out)); (case aL => have := LMc14.out; omega); intro v152 w15 ho hb hg hat; rw [← Ny151.out] at ho; have n0_ := Aside0.mk (hb); have n1_ := Aside0.mk (ho); clear HB; clear HO_6; have HB := n0_; have HO153 := n1_; clear n0_ n1_; clear ho hb hg hat)))
  go_roundg k2
  case measure => have := HK1.out; have := HK2.out; omega
  case rel => exact ⟨(y151), (wrap64 (x7_1 + 1)), (by (rfl)), H', ⟨by have := HK1.out; have := HK2.out; omega⟩, ⟨by exact HO153.out⟩, ⟨HB.out⟩⟩/-! ### notaryref32_Named: function 39 -/
def notaryref32_Named.j0 : Nat → Bool → Int → Int → ByteArray → List (S24) → Int → Int → Option (Int)
  | 0, _, _, _, _, _, _, _ => none
  | k + 1, x25, x155000, x155001, x155002, x155003, x155004, x155005 => if x25 = true then (some x155001) else (if x155000 = 13 then (if x155001 ≥ 0 then (some (wrap64 (Int.tdiv x155001 64))) else (some (-1))) else (some (-1)))
def notaryref32_Named.f (k : Nat) (a0_0 : Int) (a0_1 : Int) (a0_2 : ByteArray) (l0_3 : List (S24)) (a0_4 : Int) (a0_5 : Int) : Option (Int) := if a0_0 = 8 then (notaryref32_Named.j0 k true a0_0 a0_1 a0_2 l0_3 a0_4 a0_5) else (if a0_0 = 9 then (notaryref32_Named.j0 k true a0_0 a0_1 a0_2 l0_3 a0_4 a0_5) else (if a0_0 = 16 then (notaryref32_Named.j0 k true a0_0 a0_1 a0_2 l0_3 a0_4 a0_5) else (if a0_0 = 15 then (notaryref32_Named.j0 k true a0_0 a0_1 a0_2 l0_3 a0_4 a0_5) else (notaryref32_Named.j0 k (a0_0 == 4) a0_0 a0_1 a0_2 l0_3 a0_4 a0_5))))
theorem notaryref32_Named.mono_l : ∀ k, (∀ y0 y1 y2 y3 y4 y5 y6, LeO (notaryref32_Named.j0 k y0 y1 y2 y3 y4 y5 y6) (notaryref32_Named.j0 (k + 1) y0 y1 y2 y3 y4 y5 y6))
  | 0 => fun _ _ _ _ _ _ _ r h => by simp [notaryref32_Named.j0] at h
  | k + 1 => by
    have ih0 := notaryref32_Named.mono_l k
    · intro y0 y1 y2 y3 y4 y5 y6
      unfold notaryref32_Named.j0
      repeat' first | (with_reducible exact LeO.refl _)
theorem notaryref32_Named.mono : ∀ a0 a1 a2 a3 a4 a5 k, LeO (notaryref32_Named.f k a0 a1 a2 a3 a4 a5) (notaryref32_Named.f (k + 1) a0 a1 a2 a3 a4 a5) := by
  intro a0 a1 a2 a3 a4 a5 k
  have ih0 := notaryref32_Named.mono_l k
  unfold notaryref32_Named.f
  repeat' first | (with_reducible exact ih0 _ _ _ _ _ _ _) | (with_reducible refine LeO.ite ?_ ?_)
set_option maxHeartbeats 8000000 in
set_option maxRecDepth 100000 in
theorem notaryref32_Named.calls (k : Nat) (a0_0 : Int) (a0_1 : Int) (a0_2 : ByteArray) (A0_3 : Option Addr) (c0_3 : Nat) (l0_3 : List (S24)) (a0_4 : Int) (a0_5 : Int) (r : Int) (w : World) (hr0_3 : Kd.C k24 w A0_3 l0_3.length l0_3) (hc0_3 : l0_3.length ≤ c0_3) (h : notaryref32_Named.f k a0_0 a0_1 a0_2 l0_3 a0_4 a0_5 = some r) :
    Calls Try.prog 39 #[.agg #[.int .i64 a0_0, .int .i64 a0_1, .string a0_2, .slice A0_3 l0_3.length c0_3, .int .i64 a0_4, .int .i64 a0_5]] w fun e w' => e = .returned (.int .i64 r) ∧ Below w.heap.size w w' := by
  have hu24 := Try.underlying24
  have HR0_3 := Aside0.mk hr0_3
  have HC0_3 := Aside0.mk hc0_3
  clear hr0_3 hc0_3
  have HB := Aside0.mk (Below.refl w.heap.size w)
  have H : (if a0_0 = 8 then (notaryref32_Named.j0 k true a0_0 a0_1 a0_2 l0_3 a0_4 a0_5) else (if a0_0 = 9 then (notaryref32_Named.j0 k true a0_0 a0_1 a0_2 l0_3 a0_4 a0_5) else (if a0_0 = 16 then (notaryref32_Named.j0 k true a0_0 a0_1 a0_2 l0_3 a0_4 a0_5) else (if a0_0 = 15 then (notaryref32_Named.j0 k true a0_0 a0_1 a0_2 l0_3 a0_4 a0_5) else (notaryref32_Named.j0 k (a0_0 == 4) a0_0 a0_1 a0_2 l0_3 a0_4 a0_5))))) = some r := h
  clear h
  have HC2 := Aside0.mk H
  clear H
  go_enter Try.func39, Try.ntmps39
  go_upto_region 1 with ((((with_reducible refine gate_dst (N := 1) rfl ?_); refine box_event ?hg (N := 1) ?hd (cs := #[.int .i64 a0_0, .int .i64 a0_1, .string a0_2, .slice A0_3 l0_3.length c0_3, .int .i64 a0_4, .int .i64 a0_5]) (t := 24) ?hr ?_; (case hd => rfl); (case hg => rfl); (case hr => (go_simp; done)); intro gb154 hg w3 hbox hb; have n0_ := Aside0.mk (below_step HB.out hb); have n1_ := Aside0.mk (hbox); have n2_ := Aside0.mk ((by rw [hg]; exact (below_size HB.out) : w.heap.size ≤ gb154)); have n3_ := Aside0.mk ((by rw [hg]; exact (below_size HB.out) : w.heap.size ≤ gb154)); clear HB; have HB := n0_; have BK154 := n1_; have GW154 := n2_; have GE154 := n3_; clear n0_ n1_ n2_ n3_; clear hb hbox hg)))
  (skip)
  go_cut [25] (fun v25 wc => ∃ (kq : Nat) (x25_1 : Bool), v25 = .bool x25_1 ∧ Aside0 (notaryref32_Named.j0 kq x25_1 a0_0 a0_1 a0_2 l0_3 a0_4 a0_5 = some r) ∧ Aside0 (kq ≤ k) ∧ Aside0 (wc.heap[gb154]? = some (.cells #[.int .i64 a0_0, .int .i64 a0_1, .string a0_2, (.slice A0_3 l0_3.length c0_3), .int .i64 a0_4, .int .i64 a0_5] 24 (0, 0))) ∧ Aside0 (Below w.heap.size w wc))
  case first =>
    have H := HC2.out
    clear HC2
    by_cases c4 : a0_0 = 8
    · rw [if_pos c4] at H
      have c4b0 : (a0_0 == 8) = true := beq_iff_eq.mpr c4
      have c4b1 : (a0_0 != 8) = false := bne_eq_false_iff_eq.mpr c4
      clear c4
      (skip)
      have H' := Aside0.mk H
      clear H
      have hcz5_0 : w3.cell? ⟨gb154, 0, none⟩ = some (.int .i64 a0_0) := (blk_cell BK154.out 0).trans rfl
      have hcz5_1 : w3.cell? ⟨gb154, 1, none⟩ = some (.int .i64 a0_1) := (blk_cell BK154.out 1).trans rfl
      have hcz5_2 : w3.cell? ⟨gb154, 2, none⟩ = some (.string a0_2) := (blk_cell BK154.out 2).trans rfl
      have hcz5_3 : w3.cell? ⟨gb154, 3, none⟩ = some (.slice A0_3 l0_3.length c0_3) := (blk_cell BK154.out 3).trans rfl
      have hcz5_4 : w3.cell? ⟨gb154, 4, none⟩ = some (.int .i64 a0_4) := (blk_cell BK154.out 4).trans rfl
      have hcz5_5 : w3.cell? ⟨gb154, 5, none⟩ = some (.int .i64 a0_5) := (blk_cell BK154.out 5).trans rfl
      have hfz5_0 := blk_frozen BK154.out 0
      have hfz5_1 := blk_frozen BK154.out 1
      have hfz5_2 := blk_frozen BK154.out 2
      have hfz5_3 := blk_frozen BK154.out 3
      have hfz5_4 := blk_frozen BK154.out 4
      have hfz5_5 := blk_frozen BK154.out 5
      go_wp2
      go_meet
      case rel => exact ⟨_, (true), (by (rfl)), H', ⟨by (omega)⟩, ⟨by exact BK154.out⟩, ⟨HB.out⟩⟩
    rw [if_neg c4] at H
    have c4b0 : (a0_0 == 8) = false := beq_eq_false_iff_ne.mpr c4
    have c4b1 : (a0_0 != 8) = true := bne_iff_ne.mpr c4
    (skip)
    by_cases c6 : a0_0 = 9
    · rw [if_pos c6] at H
      have c6b0 : (a0_0 == 9) = true := beq_iff_eq.mpr c6
      have c6b1 : (a0_0 != 9) = false := bne_eq_false_iff_eq.mpr c6
      clear c6
      have H' := Aside0.mk H
      clear H
      have hcz7_0 : w3.cell? ⟨gb154, 0, none⟩ = some (.int .i64 a0_0) := (blk_cell BK154.out 0).trans rfl
      have hcz7_1 : w3.cell? ⟨gb154, 1, none⟩ = some (.int .i64 a0_1) := (blk_cell BK154.out 1).trans rfl
      have hcz7_2 : w3.cell? ⟨gb154, 2, none⟩ = some (.string a0_2) := (blk_cell BK154.out 2).trans rfl
      have hcz7_3 : w3.cell? ⟨gb154, 3, none⟩ = some (.slice A0_3 l0_3.length c0_3) := (blk_cell BK154.out 3).trans rfl
      have hcz7_4 : w3.cell? ⟨gb154, 4, none⟩ = some (.int .i64 a0_4) := (blk_cell BK154.out 4).trans rfl
      have hcz7_5 : w3.cell? ⟨gb154, 5, none⟩ = some (.int .i64 a0_5) := (blk_cell BK154.out 5).trans rfl
      have hfz7_0 := blk_frozen BK154.out 0
      have hfz7_1 := blk_frozen BK154.out 1
      have hfz7_2 := blk_frozen BK154.out 2
      have hfz7_3 := blk_frozen BK154.out 3
      have hfz7_4 := blk_frozen BK154.out 4
      have hfz7_5 := blk_frozen BK154.out 5
      go_wp2
      go_meet
      case rel => exact ⟨_, (true), (by (rfl)), H', ⟨by (omega)⟩, ⟨by exact BK154.out⟩, ⟨HB.out⟩⟩
    rw [if_neg c6] at H
    have c6b0 : (a0_0 == 9) = false := beq_eq_false_iff_ne.mpr c6
    have c6b1 : (a0_0 != 9) = true := bne_iff_ne.mpr c6
    by_cases c8 : a0_0 = 16
    · rw [if_pos c8] at H
      have c8b0 : (a0_0 == 16) = true := beq_iff_eq.mpr c8
      have c8b1 : (a0_0 != 16) = false := bne_eq_false_iff_eq.mpr c8
      clear c8
      have H' := Aside0.mk H
      clear H
      have hcz9_0 : w3.cell? ⟨gb154, 0, none⟩ = some (.int .i64 a0_0) := (blk_cell BK154.out 0).trans rfl
      have hcz9_1 : w3.cell? ⟨gb154, 1, none⟩ = some (.int .i64 a0_1) := (blk_cell BK154.out 1).trans rfl
      have hcz9_2 : w3.cell? ⟨gb154, 2, none⟩ = some (.string a0_2) := (blk_cell BK154.out 2).trans rfl
      have hcz9_3 : w3.cell? ⟨gb154, 3, none⟩ = some (.slice A0_3 l0_3.length c0_3) := (blk_cell BK154.out 3).trans rfl
      have hcz9_4 : w3.cell? ⟨gb154, 4, none⟩ = some (.int .i64 a0_4) := (blk_cell BK154.out 4).trans rfl
      have hcz9_5 : w3.cell? ⟨gb154, 5, none⟩ = some (.int .i64 a0_5) := (blk_cell BK154.out 5).trans rfl
      have hfz9_0 := blk_frozen BK154.out 0
      have hfz9_1 := blk_frozen BK154.out 1
      have hfz9_2 := blk_frozen BK154.out 2
      have hfz9_3 := blk_frozen BK154.out 3
      have hfz9_4 := blk_frozen BK154.out 4
      have hfz9_5 := blk_frozen BK154.out 5
      go_wp2
      go_meet
      case rel => exact ⟨_, (true), (by (rfl)), H', ⟨by (omega)⟩, ⟨by exact BK154.out⟩, ⟨HB.out⟩⟩
    rw [if_neg c8] at H
    have c8b0 : (a0_0 == 16) = false := beq_eq_false_iff_ne.mpr c8
    have c8b1 : (a0_0 != 16) = true := bne_iff_ne.mpr c8
    by_cases c10 : a0_0 = 15
    rotate_left
    · rw [if_neg c10] at H
      have c10b0 : (a0_0 == 15) = false := beq_eq_false_iff_ne.mpr c10
      have c10b1 : (a0_0 != 15) = true := bne_iff_ne.mpr c10
      have H' := Aside0.mk H
      clear H
      have hcz12_0 : w3.cell? ⟨gb154, 0, none⟩ = some (.int .i64 a0_0) := (blk_cell BK154.out 0).trans rfl
      have hcz12_1 : w3.cell? ⟨gb154, 1, none⟩ = some (.int .i64 a0_1) := (blk_cell BK154.out 1).trans rfl
      have hcz12_2 : w3.cell? ⟨gb154, 2, none⟩ = some (.string a0_2) := (blk_cell BK154.out 2).trans rfl
      have hcz12_3 : w3.cell? ⟨gb154, 3, none⟩ = some (.slice A0_3 l0_3.length c0_3) := (blk_cell BK154.out 3).trans rfl
      have hcz12_4 : w3.cell? ⟨gb154, 4, none⟩ = some (.int .i64 a0_4) := (blk_cell BK154.out 4).trans rfl
      have hcz12_5 : w3.cell? ⟨gb154, 5, none⟩ = some (.int .i64 a0_5) := (blk_cell BK154.out 5).trans rfl
      have hfz12_0 := blk_frozen BK154.out 0
      have hfz12_1 := blk_frozen BK154.out 1
      have hfz12_2 := blk_frozen BK154.out 2
      have hfz12_3 := blk_frozen BK154.out 3
      have hfz12_4 := blk_frozen BK154.out 4
      have hfz12_5 := blk_frozen BK154.out 5
      go_wp2
      go_meet
      case rel => exact ⟨_, (a0_0 == 4), (by (rfl)), H', ⟨by (omega)⟩, ⟨by exact BK154.out⟩, ⟨HB.out⟩⟩
    rw [if_pos c10] at H
    have c10b0 : (a0_0 == 15) = true := beq_iff_eq.mpr c10
    have c10b1 : (a0_0 != 15) = false := bne_eq_false_iff_eq.mpr c10
    clear c10
    have H' := Aside0.mk H
    clear H
    have hcz11_0 : w3.cell? ⟨gb154, 0, none⟩ = some (.int .i64 a0_0) := (blk_cell BK154.out 0).trans rfl
    have hcz11_1 : w3.cell? ⟨gb154, 1, none⟩ = some (.int .i64 a0_1) := (blk_cell BK154.out 1).trans rfl
    have hcz11_2 : w3.cell? ⟨gb154, 2, none⟩ = some (.string a0_2) := (blk_cell BK154.out 2).trans rfl
    have hcz11_3 : w3.cell? ⟨gb154, 3, none⟩ = some (.slice A0_3 l0_3.length c0_3) := (blk_cell BK154.out 3).trans rfl
    have hcz11_4 : w3.cell? ⟨gb154, 4, none⟩ = some (.int .i64 a0_4) := (blk_cell BK154.out 4).trans rfl
    have hcz11_5 : w3.cell? ⟨gb154, 5, none⟩ = some (.int .i64 a0_5) := (blk_cell BK154.out 5).trans rfl
    have hfz11_0 := blk_frozen BK154.out 0
    have hfz11_1 := blk_frozen BK154.out 1
    have hfz11_2 := blk_frozen BK154.out 2
    have hfz11_3 := blk_frozen BK154.out 3
    have hfz11_4 := blk_frozen BK154.out 4
    have hfz11_5 := blk_frozen BK154.out 5
    go_wp2
    go_meet
    case rel => exact ⟨_, (true), (by (rfl)), H', ⟨by (omega)⟩, ⟨by exact BK154.out⟩, ⟨HB.out⟩⟩
  clear HC2
  obtain ⟨kq, x25_1, rfl, HA, HJ1, BK154, HB⟩ := hcut
  rcases kq with _ | kj1
  · exact absurd HA.out (by simp [notaryref32_Named.j0])
  have H := HA.out
  clear HA
  simp only [notaryref32_Named.j0] at H
  by_cases c13 : x25_1 = true
  · subst c13
    have H1 : (some a0_1) = some r := by rw [if_pos rfl] at H; exact H
    clear H
    have H := H1
    clear H1
    obtain rfl := Option.some.inj H
    have hcz14_0 : wc.cell? ⟨gb154, 0, none⟩ = some (.int .i64 a0_0) := (blk_cell BK154.out 0).trans rfl
    have hcz14_1 : wc.cell? ⟨gb154, 1, none⟩ = some (.int .i64 a0_1) := (blk_cell BK154.out 1).trans rfl
    have hcz14_2 : wc.cell? ⟨gb154, 2, none⟩ = some (.string a0_2) := (blk_cell BK154.out 2).trans rfl
    have hcz14_3 : wc.cell? ⟨gb154, 3, none⟩ = some (.slice A0_3 l0_3.length c0_3) := (blk_cell BK154.out 3).trans rfl
    have hcz14_4 : wc.cell? ⟨gb154, 4, none⟩ = some (.int .i64 a0_4) := (blk_cell BK154.out 4).trans rfl
    have hcz14_5 : wc.cell? ⟨gb154, 5, none⟩ = some (.int .i64 a0_5) := (blk_cell BK154.out 5).trans rfl
    have hfz14_0 := blk_frozen BK154.out 0
    have hfz14_1 := blk_frozen BK154.out 1
    have hfz14_2 := blk_frozen BK154.out 2
    have hfz14_3 := blk_frozen BK154.out 3
    have hfz14_4 := blk_frozen BK154.out 4
    have hfz14_5 := blk_frozen BK154.out 5
    go_wp2
    go_ret
    exact ⟨by (rfl), HB.out⟩
  replace c13 := Bool.eq_false_iff.mpr c13
  subst c13
  have H1 : (if a0_0 = 13 then (if a0_1 ≥ 0 then (some (wrap64 (Int.tdiv a0_1 64))) else (some (-1))) else (some (-1))) = some r := by rw [if_neg (show ¬ (false = true) by decide)] at H; exact H
  clear H
  have H := H1
  clear H1
  by_cases c15 : a0_0 = 13
  rotate_left
  · rw [if_neg c15] at H
    have c15b0 : (a0_0 == 13) = false := beq_eq_false_iff_ne.mpr c15
    have c15b1 : (a0_0 != 13) = true := bne_iff_ne.mpr c15
    obtain rfl := Option.some.inj H
    have hcz19_0 : wc.cell? ⟨gb154, 0, none⟩ = some (.int .i64 a0_0) := (blk_cell BK154.out 0).trans rfl
    have hcz19_1 : wc.cell? ⟨gb154, 1, none⟩ = some (.int .i64 a0_1) := (blk_cell BK154.out 1).trans rfl
    have hcz19_2 : wc.cell? ⟨gb154, 2, none⟩ = some (.string a0_2) := (blk_cell BK154.out 2).trans rfl
    have hcz19_3 : wc.cell? ⟨gb154, 3, none⟩ = some (.slice A0_3 l0_3.length c0_3) := (blk_cell BK154.out 3).trans rfl
    have hcz19_4 : wc.cell? ⟨gb154, 4, none⟩ = some (.int .i64 a0_4) := (blk_cell BK154.out 4).trans rfl
    have hcz19_5 : wc.cell? ⟨gb154, 5, none⟩ = some (.int .i64 a0_5) := (blk_cell BK154.out 5).trans rfl
    have hfz19_0 := blk_frozen BK154.out 0
    have hfz19_1 := blk_frozen BK154.out 1
    have hfz19_2 := blk_frozen BK154.out 2
    have hfz19_3 := blk_frozen BK154.out 3
    have hfz19_4 := blk_frozen BK154.out 4
    have hfz19_5 := blk_frozen BK154.out 5
    go_wp2
    go_ret
    exact ⟨by (rfl), HB.out⟩

  rw [if_pos c15] at H
  have c15b0 : (a0_0 == 13) = true := beq_iff_eq.mpr c15
  have c15b1 : (a0_0 != 13) = false := bne_eq_false_iff_eq.mpr c15
  clear c15
  by_cases c16 : a0_1 ≥ 0
  · rw [if_pos c16] at H
    have c16b0 : decide (0 ≤ a0_1) = true := decide_eq_true c16
    clear c16
    obtain rfl := Option.some.inj H
    have hcz17_0 : wc.cell? ⟨gb154, 0, none⟩ = some (.int .i64 a0_0) := (blk_cell BK154.out 0).trans rfl
    have hcz17_1 : wc.cell? ⟨gb154, 1, none⟩ = some (.int .i64 a0_1) := (blk_cell BK154.out 1).trans rfl
    have hcz17_2 : wc.cell? ⟨gb154, 2, none⟩ = some (.string a0_2) := (blk_cell BK154.out 2).trans rfl
    have hcz17_3 : wc.cell? ⟨gb154, 3, none⟩ = some (.slice A0_3 l0_3.length c0_3) := (blk_cell BK154.out 3).trans rfl
    have hcz17_4 : wc.cell? ⟨gb154, 4, none⟩ = some (.int .i64 a0_4) := (blk_cell BK154.out 4).trans rfl
    have hcz17_5 : wc.cell? ⟨gb154, 5, none⟩ = some (.int .i64 a0_5) := (blk_cell BK154.out 5).trans rfl
    have hfz17_0 := blk_frozen BK154.out 0
    have hfz17_1 := blk_frozen BK154.out 1
    have hfz17_2 := blk_frozen BK154.out 2
    have hfz17_3 := blk_frozen BK154.out 3
    have hfz17_4 := blk_frozen BK154.out 4
    have hfz17_5 := blk_frozen BK154.out 5
    go_wp2
    go_ret
    exact ⟨by (rfl), HB.out⟩
  rw [if_neg c16] at H
  have c16b0 : decide (0 ≤ a0_1) = false := decide_eq_false c16
  clear c16
  obtain rfl := Option.some.inj H
  have hcz18_0 : wc.cell? ⟨gb154, 0, none⟩ = some (.int .i64 a0_0) := (blk_cell BK154.out 0).trans rfl
  have hcz18_1 : wc.cell? ⟨gb154, 1, none⟩ = some (.int .i64 a0_1) := (blk_cell BK154.out 1).trans rfl
  have hcz18_2 : wc.cell? ⟨gb154, 2, none⟩ = some (.string a0_2) := (blk_cell BK154.out 2).trans rfl
  have hcz18_3 : wc.cell? ⟨gb154, 3, none⟩ = some (.slice A0_3 l0_3.length c0_3) := (blk_cell BK154.out 3).trans rfl
  have hcz18_4 : wc.cell? ⟨gb154, 4, none⟩ = some (.int .i64 a0_4) := (blk_cell BK154.out 4).trans rfl
  have hcz18_5 : wc.cell? ⟨gb154, 5, none⟩ = some (.int .i64 a0_5) := (blk_cell BK154.out 5).trans rfl
  have hfz18_0 := blk_frozen BK154.out 0
  have hfz18_1 := blk_frozen BK154.out 1
  have hfz18_2 := blk_frozen BK154.out 2
  have hfz18_3 := blk_frozen BK154.out 3
  have hfz18_4 := blk_frozen BK154.out 4
  have hfz18_5 := blk_frozen BK154.out 5
  go_wp2
  go_ret
  exact ⟨by (rfl), HB.out⟩
end Go.Proofs.Ytgjmidpoebnieaa.PDm
