-- PRINTED by print.py (a twelfth state) out of the translation. Not trusted: Lean checks it.
import Derived.Test.YtppeaofdohghgaaPTmx0
import Derived.Test.YtppeaofdohghgaaPTmx2
namespace Go.Proofs.Ytppeaofdohghgaa.PTm
open Go.RowKit Go.Proofs.YtppeaofdohghgaaW.PrintWords Go.Proofs.YtppeaofdohghgaaW.PrintLast Go.Proofs.YtppeaofdohghgaaW.PrintMore
attribute [local go_sem] max2_int min2_int max_two min_two max_three min_three max_four min_four   -- for this text's walks alone
set_option linter.unusedVariables false
set_option linter.unusedSimpArgs false

/-! ### term_Put: function 21 (given) -/
def term_Put.f : List Int → S24 → S24 → Option (S24 × Bool)
  | [], _, x => some (x, true)
  | i :: ps, t, x => if 0 ≤ i ∧ i < (t.f3.length : Int) then (term_Put.f ps (rd_T24 t.f3 i) x).bind fun y => if y.2 = true then (if t.f3.length < 100000000000 then some (⟨t.f0, t.f1, t.f2, t.f3.set i.toNat y.1, t.f4, t.f5⟩, true) else none) else some (⟨0, 0, ⟨#[]⟩, [], 0, 0⟩, false) else some (⟨0, 0, ⟨#[]⟩, [], 0, 0⟩, false)
theorem term_Put.far6 {w : World} {g n : Nat} {ok : Nat → Prop} {A : Option Addr} {l : List S24} (h : Kd.F k24 w ok A n l) (hg : ∀ q, ok q → q ≠ g) (a b c d e f : Value) :
    Kd.F k24 ((((((w.setCell ⟨g, 0, none⟩ a).setCell ⟨g, 1, none⟩ b).setCell ⟨g, 2, none⟩ c).setCell ⟨g, 3, none⟩ d).setCell ⟨g, 4, none⟩ e).setCell ⟨g, 5, none⟩ f) ok A n l :=
  Kd.F_far (p := ⟨g, 5, none⟩) (Kd.F_far (p := ⟨g, 4, none⟩) (Kd.F_far (p := ⟨g, 3, none⟩) (Kd.F_far (p := ⟨g, 2, none⟩) (Kd.F_far (p := ⟨g, 1, none⟩) (Kd.F_far (p := ⟨g, 0, none⟩) h hg _) hg _) hg _) hg _) hg _) hg _
set_option maxHeartbeats 4000000 in
set_option maxRecDepth 100000 in
theorem term_Put.calls : ∀ (p : List Int) (P : Nat → Prop) (t x : S24) (A : Option Addr) (c : Nat) (Ap : Option Addr) (cp : Nat) (Ax : Option Addr) (cx : Nat) (r : S24 × Bool) (w : World), Kd.F k24 w P A t.f3.length t.f3 → t.f3.length ≤ c → Kd.C (Kd.int .i64) w Ap p.length p → p.length ≤ cp → Kd.F k24 w P Ax x.f3.length x.f3 → x.f3.length ≤ cx → term_Put.f p t x = some r →
    Calls Try.prog 21 #[.agg #[.int .i64 t.f0, .int .i64 t.f1, .string t.f2, .slice A t.f3.length c, .int .i64 t.f4, .int .i64 t.f5], .slice Ap p.length cp, .agg #[.int .i64 x.f0, .int .i64 x.f1, .string x.f2, .slice Ax x.f3.length cx, .int .i64 x.f4, .int .i64 x.f5]] w fun e w' => ∃ A' c', e = .returned (.tuple #[.agg #[.int .i64 r.1.f0, .int .i64 r.1.f1, .string r.1.f2, .slice A' r.1.f3.length c', .int .i64 r.1.f4, .int .i64 r.1.f5], .bool r.2]) ∧ r.1.f3.length ≤ c' ∧ Kd.F k24 w' (fun q => P q ∨ w.heap.size ≤ q) A' r.1.f3.length r.1.f3 ∧ Below w.heap.size w w' := by
  intro p
  induction p with
  | nil =>
    intro P t x A c Ap cp Ax cx r w hA hc hP hcp hX hcx h
    have hu := Try.underlying24
    obtain rfl := Option.some.inj h
    have HX := Aside0.mk hX
    have HCX := Aside0.mk hcx
    clear hA hc hP hcp hX hcx h
    go_enter Try.func21, Try.ntmps21
    go_wp2
    refine bodyPost_ret (results_ct rfl _ _ (w.heap.size + 1 + 1) 24 #[.int .i64 x.f0, .int .i64 x.f1, .string x.f2, .slice Ax x.f3.length cx, .int .i64 x.f4, .int .i64 x.f5] (0, 0) _ rfl (by have h := blk_new ((w.alloc (.cells #[.int .i64 t.f0, .int .i64 t.f1, .string t.f2, .slice A t.f3.length c, .int .i64 t.f4, .int .i64 t.f5] 24)).alloc (.cells #[.int .i64 x.f0, .int .i64 x.f1, .string x.f2, .slice Ax x.f3.length cx, .int .i64 x.f4, .int .i64 x.f5] 24)) (.cells #[.int .i64 x.f0, .int .i64 x.f1, .string x.f2, .slice Ax x.f3.length cx, .int .i64 x.f4, .int .i64 x.f5] 24); rwa [show ((w.alloc (.cells #[.int .i64 t.f0, .int .i64 t.f1, .string t.f2, .slice A t.f3.length c, .int .i64 t.f4, .int .i64 t.f5] 24)).alloc (.cells #[.int .i64 x.f0, .int .i64 x.f1, .string x.f2, .slice Ax x.f3.length cx, .int .i64 x.f4, .int .i64 x.f5] 24)).heap.size = w.heap.size + 1 + 1 by simp] at h) Try.underlying24 rfl (by kernel_rfl)) rfl ?_
    exact ⟨Ax, cx, rfl, HCX.out, Kd.F_mono (Kd.F_below HX.out (below_alloc (below_alloc (below_alloc (Below.refl _ _) _) _) _)) (fun _ h => .inl h), below_alloc (below_alloc (below_alloc (Below.refl _ _) _) _) _⟩
  | cons i ps ih =>
    intro P t x A c Ap cp Ax cx r w hA hc hP hcp hX hcx h
    have hu := Try.underlying24
    rw [term_Put.f] at h
    obtain ⟨ad, e0, hcells⟩ := hP.2.2 (by simp)
    obtain ⟨ci, _, hK, hci⟩ := hcells 0 i rfl
    obtain rfl : ci = [.int .i64 i] := hK
    have hi0 : w.cell? ad = some (.int .i64 i) := by have := hci 0 _ rfl; simpa [Addr.add] using this
    have hi3 : ∀ o1 o2 o3, (((w.alloc o1).alloc o2).alloc o3).cell? ad = some (.int .i64 i) := fun _ _ _ => pw_cell_below (below_alloc (below_alloc (below_alloc (Below.refl _ _) _) _) _) hi0
    clear hi0
    subst e0
    have HI := Aside0.mk ih
    have HR := Aside0.mk hA
    have HC := Aside0.mk hc
    have HP := Aside0.mk hP
    have HCP := Aside0.mk hcp
    have HX := Aside0.mk hX
    have HCX := Aside0.mk hcx
    clear ih hA hc hP hcp hX hcx hcells hci
    by_cases h0 : 0 ≤ i ∧ i < (t.f3.length : Int)
    case neg =>
      rw [if_neg h0] at h
      have HRR := Aside0.mk (Option.some.inj h)
      clear h
      by_cases hn : i < 0
      · have d0 : decide (i < 0) = true := decide_eq_true hn
        clear h0
        go_enter Try.func21, Try.ntmps21
        go_wp2
        refine bodyPost_ret (results_ct rfl _ _ (w.heap.size + 1 + 1) 24 #[.int .i64 0, .int .i64 0, .string (⟨#[]⟩ : ByteArray), .slice none 0 0, .int .i64 0, .int .i64 0] (0, 0) _ rfl (by have h := blk_new ((w.alloc (.cells #[.int .i64 t.f0, .int .i64 t.f1, .string t.f2, .slice A t.f3.length c, .int .i64 t.f4, .int .i64 t.f5] 24)).alloc (.cells #[.int .i64 x.f0, .int .i64 x.f1, .string x.f2, .slice Ax x.f3.length cx, .int .i64 x.f4, .int .i64 x.f5] 24)) (.cells #[.int .i64 0, .int .i64 0, .string (⟨#[]⟩ : ByteArray), .slice none 0 0, .int .i64 0, .int .i64 0] 24); rwa [show ((w.alloc (.cells #[.int .i64 t.f0, .int .i64 t.f1, .string t.f2, .slice A t.f3.length c, .int .i64 t.f4, .int .i64 t.f5] 24)).alloc (.cells #[.int .i64 x.f0, .int .i64 x.f1, .string x.f2, .slice Ax x.f3.length cx, .int .i64 x.f4, .int .i64 x.f5] 24)).heap.size = w.heap.size + 1 + 1 by simp] at h) Try.underlying24 rfl (by kernel_rfl)) rfl ?_
        rw [← HRR.out]
        exact ⟨none, 0, rfl, Nat.le_refl _, Kd.F_nil _ _ _, below_alloc (below_alloc (below_alloc (Below.refl _ _) _) _) _⟩
      · have d0 : decide (i < 0) = false := decide_eq_false hn
        have d1 : decide ((t.f3.length : Int) ≤ i) = true := decide_eq_true (by omega)
        clear h0
        go_enter Try.func21, Try.ntmps21
        go_wp2
        refine bodyPost_ret (results_ct rfl _ _ (w.heap.size + 1 + 1) 24 #[.int .i64 0, .int .i64 0, .string (⟨#[]⟩ : ByteArray), .slice none 0 0, .int .i64 0, .int .i64 0] (0, 0) _ rfl (by have h := blk_new ((w.alloc (.cells #[.int .i64 t.f0, .int .i64 t.f1, .string t.f2, .slice A t.f3.length c, .int .i64 t.f4, .int .i64 t.f5] 24)).alloc (.cells #[.int .i64 x.f0, .int .i64 x.f1, .string x.f2, .slice Ax x.f3.length cx, .int .i64 x.f4, .int .i64 x.f5] 24)) (.cells #[.int .i64 0, .int .i64 0, .string (⟨#[]⟩ : ByteArray), .slice none 0 0, .int .i64 0, .int .i64 0] 24); rwa [show ((w.alloc (.cells #[.int .i64 t.f0, .int .i64 t.f1, .string t.f2, .slice A t.f3.length c, .int .i64 t.f4, .int .i64 t.f5] 24)).alloc (.cells #[.int .i64 x.f0, .int .i64 x.f1, .string x.f2, .slice Ax x.f3.length cx, .int .i64 x.f4, .int .i64 x.f5] 24)).heap.size = w.heap.size + 1 + 1 by simp] at h) Try.underlying24 rfl (by kernel_rfl)) rfl ?_
        rw [← HRR.out]
        exact ⟨none, 0, rfl, Nat.le_refl _, Kd.F_nil _ _ _, below_alloc (below_alloc (below_alloc (Below.refl _ _) _) _) _⟩
    rw [if_pos h0] at h
    obtain ⟨y, hy, h⟩ := Option.bind_eq_some_iff.mp h
    obtain ⟨p0, p1⟩ := h0
    have d0 : decide (i < 0) = false := decide_eq_false (by omega)
    have d1 : decide ((t.f3.length : Int) ≤ i) = false := decide_eq_false (by omega)
    have HY := Aside0.mk hy
    have H := Aside0.mk h
    clear hy h
    go_enter Try.func21, Try.ntmps21
    clear h
    obtain ⟨bd, cs, e1, _, hFK, hcc, _⟩ := Kd.F_get HR.out z24 i p0 p1
    have hX : t.f3.getD i.toNat z24 = rd_T24 t.f3 i := rfl
    rw [hX] at hFK
    clear hX
    obtain ⟨X, hXe⟩ : ∃ X, X = rd_T24 t.f3 i := ⟨_, rfl⟩
    rw [← hXe] at hFK HY
    clear hXe
    obtain ⟨A3, c3, rfl, hl3, hc3⟩ := k24_openF hFK
    have m0 : w.cell? (bd.add (i.toNat * 6)) = some (.int .i64 X.f0) := hcc 0 _ rfl
    have m1 : w.cell? ⟨(bd.add (i.toNat * 6)).block, (bd.add (i.toNat * 6)).off + 1, none⟩ = some (.int .i64 X.f1) := by rw [← add_field _ _ 1 (by omega)]; exact hcc 1 _ rfl
    have m2 : w.cell? ⟨(bd.add (i.toNat * 6)).block, (bd.add (i.toNat * 6)).off + 2, none⟩ = some (.string X.f2) := by rw [← add_field _ _ 2 (by omega)]; exact hcc 2 _ rfl
    have m3 : w.cell? ⟨(bd.add (i.toNat * 6)).block, (bd.add (i.toNat * 6)).off + 3, none⟩ = some (.slice A3 X.f3.length c3) := by rw [← add_field _ _ 3 (by omega)]; exact hcc 3 _ rfl
    have m4 : w.cell? ⟨(bd.add (i.toNat * 6)).block, (bd.add (i.toNat * 6)).off + 4, none⟩ = some (.int .i64 X.f4) := by rw [← add_field _ _ 4 (by omega)]; exact hcc 4 _ rfl
    have m5 : w.cell? ⟨(bd.add (i.toNat * 6)).block, (bd.add (i.toNat * 6)).off + 5, none⟩ = some (.int .i64 X.f5) := by rw [← add_field _ _ 5 (by omega)]; exact hcc 5 _ rfl
    clear hcc hFK
    subst e1
    have HL3 := Aside0.mk hl3
    have HC3 := Aside0.mk hc3
    have MM := Aside0.mk (And.intro m0 (And.intro m1 (And.intro m2 (And.intro m3 (And.intro m4 m5)))))
    clear hl3 hc3 m0 m1 m2 m3 m4 m5
    go_upto_region 6 with (fail)
    obtain ⟨W, hW⟩ : ∃ W : World, W = ((w.alloc (.cells #[.int .i64 t.f0, .int .i64 t.f1, .string t.f2, .slice (some bd) t.f3.length c, .int .i64 t.f4, .int .i64 t.f5] 24)).alloc (.cells #[.int .i64 x.f0, .int .i64 x.f1, .string x.f2, .slice Ax x.f3.length cx, .int .i64 x.f4, .int .i64 x.f5] 24)).alloc (.cells #[.int .i64 0, .int .i64 0, .string (⟨#[]⟩ : ByteArray), .slice none 0 0, .int .i64 0, .int .i64 0] 24) := ⟨_, rfl⟩
    have hsz : W.heap.size = w.heap.size + 3 := by rw [hW]; simp
    have h0 : W.heap[w.heap.size]? = some (.cells #[.int .i64 t.f0, .int .i64 t.f1, .string t.f2, .slice (some bd) t.f3.length c, .int .i64 t.f4, .int .i64 t.f5] 24 (0, 0)) := by rw [hW]; exact blk_alloc (blk_alloc (blk_new _ _) _) _
    have h1 : W.heap[w.heap.size + 1]? = some (.cells #[.int .i64 x.f0, .int .i64 x.f1, .string x.f2, .slice Ax x.f3.length cx, .int .i64 x.f4, .int .i64 x.f5] 24 (0, 0)) := by rw [hW]; exact blk_alloc (by have h := blk_new (w.alloc (.cells #[.int .i64 t.f0, .int .i64 t.f1, .string t.f2, .slice (some bd) t.f3.length c, .int .i64 t.f4, .int .i64 t.f5] 24)) (.cells #[.int .i64 x.f0, .int .i64 x.f1, .string x.f2, .slice Ax x.f3.length cx, .int .i64 x.f4, .int .i64 x.f5] 24); rwa [show (w.alloc (.cells #[.int .i64 t.f0, .int .i64 t.f1, .string t.f2, .slice (some bd) t.f3.length c, .int .i64 t.f4, .int .i64 t.f5] 24)).heap.size = w.heap.size + 1 by simp] at h) _
    have h2 : W.heap[w.heap.size + 1 + 1]? = some (.cells #[.int .i64 0, .int .i64 0, .string (⟨#[]⟩ : ByteArray), .slice none 0 0, .int .i64 0, .int .i64 0] 24 (0, 0)) := by rw [hW]; have h := blk_new ((w.alloc (.cells #[.int .i64 t.f0, .int .i64 t.f1, .string t.f2, .slice (some bd) t.f3.length c, .int .i64 t.f4, .int .i64 t.f5] 24)).alloc (.cells #[.int .i64 x.f0, .int .i64 x.f1, .string x.f2, .slice Ax x.f3.length cx, .int .i64 x.f4, .int .i64 x.f5] 24)) (.cells #[.int .i64 0, .int .i64 0, .string (⟨#[]⟩ : ByteArray), .slice none 0 0, .int .i64 0, .int .i64 0] 24); rwa [show ((w.alloc (.cells #[.int .i64 t.f0, .int .i64 t.f1, .string t.f2, .slice (some bd) t.f3.length c, .int .i64 t.f4, .int .i64 t.f5] 24)).alloc (.cells #[.int .i64 x.f0, .int .i64 x.f1, .string x.f2, .slice Ax x.f3.length cx, .int .i64 x.f4, .int .i64 x.f5] 24)).heap.size = w.heap.size + 1 + 1 by simp] at h
    have hb : Below w.heap.size w W := by rw [hW]; exact below_alloc (below_alloc (below_alloc (Below.refl _ _) _) _) _
    rw [← hW]
    clear hi3 hW
    have B0 := Aside0.mk h0
    have B1 := Aside0.mk h1
    have B2 := Aside0.mk h2
    have HB := Aside0.mk hb
    have HZ := Aside0.mk hsz
    clear h0 h1 h2 hb hsz
    go_cut [9, 10] (fun v9 v10 wc => ∃ (g : Nat) (A5 : Option Addr) (c5 : Nat), v9 = .pointer (some ⟨g, 0, none⟩) ∧ v10 = .bool y.2 ∧ Aside0 (wc.heap[g]? = some (.cells #[.int .i64 y.1.f0, .int .i64 y.1.f1, .string y.1.f2, .slice A5 y.1.f3.length c5, .int .i64 y.1.f4, .int .i64 y.1.f5] 24 (0, 0))) ∧ Aside0 (y.1.f3.length ≤ c5) ∧ Aside0 (w.heap.size + 3 ≤ g) ∧ Aside0 (Kd.F k24 wc (fun q => (P q ∧ q < w.heap.size) ∨ (w.heap.size + 3 ≤ q ∧ q ≠ g)) A5 y.1.f3.length y.1.f3) ∧ Aside0 (Below W.heap.size W wc))
    case first =>
      obtain ⟨m0, m1, m2, m3, m4, m5⟩ := MM.out
      have n0 := pw_cell_below HB.out m0
      have n1 := pw_cell_below HB.out m1
      have n2 := pw_cell_below HB.out m2
      have n3 := pw_cell_below HB.out m3
      have n4 := pw_cell_below HB.out m4
      have n5 := pw_cell_below HB.out m5
      clear m0 m1 m2 m3 m4 m5
      obtain ⟨ii, hi1, hi2⟩ := Option.map_eq_some_iff.mp info3
      obtain ⟨A1, hcut, hrd, hcl⟩ := print_drop_of (P := Try.prog) (Value.int .i64) 0 33 3 .i64 Try.underlying33 hi1 (congrArg (·.2.1) hi2) (some ad) cp (i :: ps) 1 (by omega) (by simp only [List.length_cons]; omega) HCP.out
      have HP1 : Aside0 (Kd.C (Kd.int .i64) w A1 ps.length ps) := ⟨Kd.C_of_reads (h1 := fun _ => rfl) (hrd _ (Kd.reads_of_C HP.out))⟩
      have HCL : Aside0 (ps.length ≤ cp - 1) := ⟨hcl⟩
      have hcut1 : ∀ W : World, (Instr.slice 33 (.slice (some ad) (ps.length + 1) cp) (some (.int .i64 1)) none none).run Try.prog W = .ok (.slice A1 ps.length (cp - 1)) W := hcut
      clear hi1 hi2 hcut hrd hcl
      have r0 : W.cell? ⟨w.heap.size, 3, none⟩ = some (.slice (some bd) t.f3.length c) := (blk_cell B0.out 3).trans rfl
      have r1 : W.cell? ⟨w.heap.size + 1, 0, none⟩ = some (.int .i64 x.f0) := (blk_cell B1.out 0).trans rfl
      have r2 : W.cell? ⟨w.heap.size + 1, 1, none⟩ = some (.int .i64 x.f1) := (blk_cell B1.out 1).trans rfl
      have r3 : W.cell? ⟨w.heap.size + 1, 2, none⟩ = some (.string x.f2) := (blk_cell B1.out 2).trans rfl
      have r4 : W.cell? ⟨w.heap.size + 1, 3, none⟩ = some (.slice Ax x.f3.length cx) := (blk_cell B1.out 3).trans rfl
      have r5 : W.cell? ⟨w.heap.size + 1, 4, none⟩ = some (.int .i64 x.f4) := (blk_cell B1.out 4).trans rfl
      have r6 : W.cell? ⟨w.heap.size + 1, 5, none⟩ = some (.int .i64 x.f5) := (blk_cell B1.out 5).trans rfl
      have NN := Aside0.mk (And.intro n0 (And.intro n1 (And.intro n2 (And.intro n3 (And.intro n4 n5)))))
      have RR := Aside0.mk (And.intro r0 (And.intro r1 (And.intro r2 (And.intro r3 (And.intro r4 (And.intro r5 r6))))))
      clear n0 n1 n2 n3 n4 n5 r0 r1 r2 r3 r4 r5 r6
      go_region_held3 (fun w' => w'.cell? ⟨w.heap.size, 3, none⟩ = some (.slice (some bd) t.f3.length c) ∧ w'.cell? ⟨w.heap.size + 1, 0, none⟩ = some (.int .i64 x.f0) ∧ w'.cell? ⟨w.heap.size + 1, 1, none⟩ = some (.int .i64 x.f1) ∧ w'.cell? ⟨w.heap.size + 1, 2, none⟩ = some (.string x.f2) ∧ w'.cell? ⟨w.heap.size + 1, 3, none⟩ = some (.slice Ax x.f3.length cx) ∧ w'.cell? ⟨w.heap.size + 1, 4, none⟩ = some (.int .i64 x.f4) ∧ w'.cell? ⟨w.heap.size + 1, 5, none⟩ = some (.int .i64 x.f5) ∧ w'.cell? (bd.add (i.toNat * 6)) = some (.int .i64 X.f0) ∧ w'.cell? ⟨(bd.add (i.toNat * 6)).block, (bd.add (i.toNat * 6)).off + 1, none⟩ = some (.int .i64 X.f1) ∧ w'.cell? ⟨(bd.add (i.toNat * 6)).block, (bd.add (i.toNat * 6)).off + 2, none⟩ = some (.string X.f2) ∧ w'.cell? ⟨(bd.add (i.toNat * 6)).block, (bd.add (i.toNat * 6)).off + 3, none⟩ = some (.slice A3 X.f3.length c3) ∧ w'.cell? ⟨(bd.add (i.toNat * 6)).block, (bd.add (i.toNat * 6)).off + 4, none⟩ = some (.int .i64 X.f4) ∧ w'.cell? ⟨(bd.add (i.toNat * 6)).block, (bd.add (i.toNat * 6)).off + 5, none⟩ = some (.int .i64 X.f5)) (first | (with_reducible refine ⟨pw_cell_below ?b RR.out.1, pw_cell_below ?b RR.out.2.1, pw_cell_below ?b RR.out.2.2.1, pw_cell_below ?b RR.out.2.2.2.1, pw_cell_below ?b RR.out.2.2.2.2.1, pw_cell_below ?b RR.out.2.2.2.2.2.1, pw_cell_below ?b RR.out.2.2.2.2.2.2, pw_cell_below ?b NN.out.1, pw_cell_below ?b NN.out.2.1, pw_cell_below ?b NN.out.2.2.1, pw_cell_below ?b NN.out.2.2.2.1, pw_cell_below ?b NN.out.2.2.2.2.1, pw_cell_below ?b NN.out.2.2.2.2.2⟩; case b => with_reducible repeat (first | exact HB5.out | exact Below.refl _ _ | apply below_alloc | apply below_drew | refine below_set ?_ (Nat.le_refl _))) | go_keep) (first | (go_at_call 21; (with_reducible refine (HI.out (fun q => P q ∧ q < w.heap.size) X x A3 c3 A1 (cp - 1) Ax cx y _ (Kd.F_below (Kd.F_bound HC3.out) (by repeat (first | exact Below.refl _ _ | exact HB.out | apply below_alloc | apply below_drew))) HL3.out (Kd.C_below HP1.out (by repeat (first | exact Below.refl _ _ | exact HB.out | apply below_alloc | apply below_drew))) HCL.out (Kd.F_below (Kd.F_bound HX.out) (by repeat (first | exact Below.refl _ _ | exact HB.out | apply below_alloc | apply below_drew))) HCX.out HY.out).mono ?_); rintro e w5 ⟨A5, c5, rfl, hc5, hF5, hb5⟩; (have hq : Below W.heap.size W w5 := below_step (by repeat (first | exact Below.refl _ _ | exact HB.out | apply below_alloc | apply below_drew)) hb5); (have HB5 := Aside0.mk hq); (have HC5 := Aside0.mk hc5); (have HF5 := Aside0.mk hF5); (have HBB := Aside0.mk hb5); (first | (have kz : w5.heap[W.heap.size]? = some (.cells #[.int .i64 0, .int .i64 0, .string (⟨#[]⟩ : ByteArray), .slice none 0 0, .int .i64 0, .int .i64 0] 24 (0, 0)) := blk_below (blk_drew (blk_new W (.cells #[.int .i64 0, .int .i64 0, .string (⟨#[]⟩ : ByteArray), .slice none 0 0, .int .i64 0, .int .i64 0] 24))) hb5; (have KZ := Aside0.mk kz); (have g0 : w5.cell? ⟨W.heap.size, 0, none⟩ = some (.int .i64 0) := (blk_cell kz 0).trans rfl); (have g1 : w5.cell? ⟨W.heap.size, 1, none⟩ = some (.int .i64 0) := (blk_cell kz 1).trans rfl); (have g2 : w5.cell? ⟨W.heap.size, 2, none⟩ = some (.string ⟨#[]⟩) := (blk_cell kz 2).trans rfl); (have g3 : w5.cell? ⟨W.heap.size, 3, none⟩ = some (.slice none 0 0) := (blk_cell kz 3).trans rfl); (have g4 : w5.cell? ⟨W.heap.size, 4, none⟩ = some (.int .i64 0) := (blk_cell kz 4).trans rfl); (have g5 : w5.cell? ⟨W.heap.size, 5, none⟩ = some (.int .i64 0) := (blk_cell kz 5).trans rfl); (have j0 := blk_frozen kz 0); (have j1 := blk_frozen kz 1); (have j2 := blk_frozen kz 2); (have j3 := blk_frozen kz 3); (have j4 := blk_frozen kz 4); (have j5 := blk_frozen kz 5); clear kz) | skip); clear hc5 hF5 hb5 hq))
      case' _ => skip
      all_goals (rename_i hHeld; clear hHeld)
      all_goals go_wp2
      all_goals go_meet
      · case rel => exact ⟨_, A5, c5, rfl, rfl, ⟨blk_new _ _⟩, HC5, ⟨by have := HB5.out.size; have := HZ.out; omega⟩, ⟨Kd.F_mono (Kd.F_alloc (Kd.F_bound HF5.out) _) (fun q hq => hq.1.elim .inl (fun h => .inr ⟨by have h2 : W.heap.size ≤ q := h; have := HZ.out; omega, Nat.ne_of_lt hq.2⟩))⟩, ⟨below_alloc HB5.out _⟩⟩
      · case rel => exact ⟨_, A5, c5, rfl, rfl, ⟨blk_put (blk_put (blk_put (blk_put (blk_put (blk_put KZ.out 0 _ rfl) 1 _ rfl) 2 _ rfl) 3 _ rfl) 4 _ rfl) 5 _ rfl⟩, HC5, ⟨by have := HZ.out; omega⟩, ⟨term_Put.far6 (Kd.F_mono HF5.out (fun q hq => hq.elim .inl (fun h => .inr (by have h2 : (W.alloc (.cells #[.int .i64 0, .int .i64 0, .string (⟨#[]⟩ : ByteArray), .slice none 0 0, .int .i64 0, .int .i64 0] 24)).heap.size ≤ q := h; have := HZ.out; simp at h2; omega)))) (fun q hq => by have := HZ.out; omega) _ _ _ _ _ _⟩, ⟨below_set (below_set (below_set (below_set (below_set (below_set HB5.out (Nat.le_refl _)) (Nat.le_refl _)) (Nat.le_refl _)) (Nat.le_refl _)) (Nat.le_refl _)) (Nat.le_refl _)⟩⟩
    case rest =>
      obtain ⟨g, A5, c5, rfl, rfl, HG, HC5, HGS, HF5, HB5⟩ := hcut
      have D0 := Aside0.mk (blk_below B0.out HB5.out)
      have D2 := Aside0.mk (blk_below B2.out HB5.out)
      have DB := Aside0.mk (below_step HB.out HB5.out)
      clear B0 B1 B2
      cases hy2 : y.2 with
      | false =>
        have h1 := H.out
        rw [hy2, if_neg (by decide)] at h1
        have HRR := Aside0.mk (Option.some.inj h1)
        clear h1 hy2
        go_wp2_with (refine term_Bare.put_row (w0 := w) w.heap.size rfl 24 (.tmp 6) (.tmp 42) rfl (w.heap.size + 1 + 1) #[.int .i64 0, .int .i64 0, .string (⟨#[]⟩ : ByteArray), .slice none 0 0, .int .i64 0, .int .i64 0] rfl rfl 24 _ D2.out (by kernel_rfl) rfl (by simp [Value.oneCell']) DB.out (by omega) ?_; intro W3 hg3 ho3 hz3 hb3; (have HG3 := Aside0.mk hg3); (have HB3 := Aside0.mk hb3); clear hg3 ho3 hz3 hb3)
        refine bodyPost_ret (results_ct rfl _ _ (w.heap.size + 1 + 1) 24 #[.int .i64 0, .int .i64 0, .string (⟨#[]⟩ : ByteArray), .slice none 0 0, .int .i64 0, .int .i64 0] (0, 0) _ rfl HG3.out Try.underlying24 rfl (by kernel_rfl)) rfl ?_
        rw [← HRR.out]
        exact ⟨none, 0, rfl, Nat.le_refl _, Kd.F_nil _ _ _, HB3.out⟩
      | true =>
        have h1 := H.out
        rw [hy2, if_pos rfl] at h1
        clear hy2
        by_cases hlen : t.f3.length < 100000000000
        case neg => rw [if_neg hlen] at h1; exact absurd h1 (by simp)
        rw [if_pos hlen] at h1
        have HRR := Aside0.mk (Option.some.inj h1)
        have hcl : slices_Clone_Term.f t.f3 = some t.f3 := by unfold slices_Clone_Term.f; rw [if_pos hlen]
        have HCLN := Aside0.mk hcl
        clear h1 hlen hcl
        have x3 : wc.cell? ⟨w.heap.size, 3, none⟩ = some (.slice (some bd) t.f3.length c) := (blk_cell D0.out 3).trans rfl
        have HT : Aside0 (Kd.F k24 wc (fun q => (P q ∧ q < w.heap.size) ∨ w.heap.size + 3 ≤ q) (some bd) t.f3.length t.f3) := ⟨Kd.F_mono (Kd.F_below (Kd.F_bound HR.out) DB.out) (fun q hq => .inl hq)⟩
        go_upto_region 10 with (first | (go_at_call 40; (with_reducible refine (slices_Clone_Term.calls (fun q => (P q ∧ q < w.heap.size) ∨ w.heap.size + 3 ≤ q) (some bd) c t.f3 t.f3 _ (Kd.V_mk HC.out HT.out) HCLN.out).mono ?_); rintro e w6 ⟨v6, rfl, hn6, hb6⟩; (obtain ⟨A6, c6, rfl⟩ := Kd.N_slice hn6); (have HN6 := Aside0.mk hn6); (have HB6 := Aside0.mk hb6); (have k0 := blk_below D0.out hb6); (have K0 := Aside0.mk k0); (have y3 : w6.cell? ⟨w.heap.size, 3, none⟩ = some (.slice (some bd) t.f3.length c) := (blk_cell k0 3).trans rfl); (have f3 := blk_frozen k0 3); clear hn6 hb6 k0))
        obtain ⟨W7, hW7⟩ : ∃ W7 : World, W7 = w6.setCell ⟨w.heap.size, 3, none⟩ (.slice A6 t.f3.length c6) := ⟨_, rfl⟩
        have hg3 : w.heap.size + 3 ≤ g := HGS.out
        have hcs : w.heap.size + 3 ≤ wc.heap.size := by have := HB5.out.size; have := HZ.out; omega
        have q0 : W7.heap[w.heap.size]? = some (.cells #[.int .i64 t.f0, .int .i64 t.f1, .string t.f2, .slice A6 t.f3.length c6, .int .i64 t.f4, .int .i64 t.f5] 24 (0, 0)) := by rw [hW7]; exact blk_put K0.out 3 _ rfl
        have q2 : W7.heap[w.heap.size + 1 + 1]? = some (.cells #[.int .i64 0, .int .i64 0, .string (⟨#[]⟩ : ByteArray), .slice none 0 0, .int .i64 0, .int .i64 0] 24 (0, 0)) := by rw [hW7]; exact blk_far (p := ⟨w.heap.size, 3, none⟩) (blk_below D2.out HB6.out) (show w.heap.size + 1 + 1 ≠ w.heap.size by omega) _
        have qg : W7.heap[g]? = some (.cells #[.int .i64 y.1.f0, .int .i64 y.1.f1, .string y.1.f2, .slice A5 y.1.f3.length c5, .int .i64 y.1.f4, .int .i64 y.1.f5] 24 (0, 0)) := by rw [hW7]; exact blk_far (p := ⟨w.heap.size, 3, none⟩) (blk_below HG.out HB6.out) (show g ≠ w.heap.size by omega) _
        have qN : Kd.N k24 24 W7 wc.heap.size (fun q => ((P q ∧ q < w.heap.size) ∨ w.heap.size + 3 ≤ q) ∨ wc.heap.size ≤ q) (.slice A6 t.f3.length c6) t.f3 := by rw [hW7]; exact Kd.N_far (p := ⟨w.heap.size, 3, none⟩) HN6.out (fun q hq => show q ≠ w.heap.size by omega) _
        have qF : Kd.F k24 W7 (fun q => ((P q ∧ q < w.heap.size) ∨ w.heap.size + 3 ≤ q) ∧ q < wc.heap.size) A5 y.1.f3.length y.1.f3 := by rw [hW7]; exact Kd.F_far (p := ⟨w.heap.size, 3, none⟩) (Kd.F_mono (Kd.F_below (Kd.F_bound HF5.out) HB6.out) (fun q hq => ⟨hq.1.elim .inl (fun h => .inr h.1), hq.2⟩)) (fun q hq => show q ≠ w.heap.size by have := hq.1; omega) _
        have qB : Below w.heap.size w W7 := by rw [hW7]; exact below_set (below_step DB.out HB6.out) (Nat.le_refl _)
        rw [← hW7]
        have Q0 := Aside0.mk q0
        have Q2 := Aside0.mk q2
        have QB := Aside0.mk qB
        have QZ := Aside0.mk (And.intro hg3 hcs)
        clear hW7 hg3 hcs q0 q2 qB K0 D0 D2 HG HF5 HN6 HB6 DB HT x3 y3 f3
        obtain ⟨a6, cap, e7, hgb, hgl, cells, hgc⟩ := Kd.N_form qN (by omega)
        injection e7 with e8 _ e9
        subst e8
        subst e9
        obtain ⟨ce, hcl, hFK, hcc, hfr⟩ := Kd.N_elem qN z24 i p0 p1
        obtain ⟨ua, uc, rfl, _, _⟩ := k24_openF hFK
        have hseg := Kd.N_seg qN i p0 p1 (seg := [.int .i64 y.1.f0, .int .i64 y.1.f1, .string y.1.f2, .slice A5 y.1.f3.length c5, .int .i64 y.1.f4, .int .i64 y.1.f5]) (j := 0) hcl hcc (show 6 ≤ 6 from by decide) (x' := y.1) (k24_mkF _ _ y.1 HC5.out qF) (fun q hq => ⟨.inl hq.1, by have := hq.2; omega⟩)
        have e0 : W7.cell? ⟨a6, i.toNat * 6, none⟩ = some _ := hcc 0 _ rfl
        have e1 : W7.cell? ⟨a6, i.toNat * 6 + 1, none⟩ = some _ := hcc 1 _ rfl
        have e2 : W7.cell? ⟨a6, i.toNat * 6 + 2, none⟩ = some _ := hcc 2 _ rfl
        have e3 : W7.cell? ⟨a6, i.toNat * 6 + 3, none⟩ = some _ := hcc 3 _ rfl
        have e4 : W7.cell? ⟨a6, i.toNat * 6 + 4, none⟩ = some _ := hcc 4 _ rfl
        have e5 : W7.cell? ⟨a6, i.toNat * 6 + 5, none⟩ = some _ := hcc 5 _ rfl
        have f0 : W7.frozen? ⟨a6, i.toNat * 6, none⟩ = false := hfr 0
        have f1 : W7.frozen? ⟨a6, i.toNat * 6 + 1, none⟩ = false := hfr 1
        have f2 : W7.frozen? ⟨a6, i.toNat * 6 + 2, none⟩ = false := hfr 2
        have f3 : W7.frozen? ⟨a6, i.toNat * 6 + 3, none⟩ = false := hfr 3
        have f4 : W7.frozen? ⟨a6, i.toNat * 6 + 4, none⟩ = false := hfr 4
        have f5 : W7.frozen? ⟨a6, i.toNat * 6 + 5, none⟩ = false := hfr 5
        have h0 : W7.cell? ⟨g, 0, none⟩ = some (.int .i64 y.1.f0) := (blk_cell qg 0).trans rfl
        have h1 : W7.cell? ⟨g, 1, none⟩ = some (.int .i64 y.1.f1) := (blk_cell qg 1).trans rfl
        have h2 : W7.cell? ⟨g, 2, none⟩ = some (.string y.1.f2) := (blk_cell qg 2).trans rfl
        have h3 : W7.cell? ⟨g, 3, none⟩ = some (.slice A5 y.1.f3.length c5) := (blk_cell qg 3).trans rfl
        have h4 : W7.cell? ⟨g, 4, none⟩ = some (.int .i64 y.1.f4) := (blk_cell qg 4).trans rfl
        have h5 : W7.cell? ⟨g, 5, none⟩ = some (.int .i64 y.1.f5) := (blk_cell qg 5).trans rfl
        have t3 : W7.cell? ⟨w.heap.size, 3, none⟩ = some (.slice (some ⟨a6, 0, none⟩) t.f3.length c6) := (blk_cell Q0.out 3).trans rfl
        have HSEG := Aside0.mk hseg
        have HA6 := Aside0.mk hgb
        have P0 := Aside0.mk p0
        clear hcl hcc hfr hFK hseg hgc hgl hgb qN qF qg
        go_upto_region 11 with (fail)
        obtain ⟨W8, hW8⟩ : ∃ W8 : World, W8 = (((((W7.setCell ⟨a6, i.toNat * 6, none⟩ (.int .i64 y.1.f0)).setCell ⟨a6, i.toNat * 6 + 1, none⟩ (.int .i64 y.1.f1)).setCell ⟨a6, i.toNat * 6 + 2, none⟩ (.string y.1.f2)).setCell ⟨a6, i.toNat * 6 + 3, none⟩ (.slice A5 y.1.f3.length c5)).setCell ⟨a6, i.toNat * 6 + 4, none⟩ (.int .i64 y.1.f4)).setCell ⟨a6, i.toNat * 6 + 5, none⟩ (.int .i64 y.1.f5) := ⟨_, rfl⟩
        have R8 : Kd.N k24 24 W8 wc.heap.size (fun q => ((P q ∧ q < w.heap.size) ∨ w.heap.size + 3 ≤ q) ∨ wc.heap.size ≤ q) (.slice (some ⟨a6, 0, none⟩) t.f3.length c6) (t.f3.set i.toNat y.1) := by rw [hW8]; exact HSEG.out.1
        have G8 : W7.grownBy W8 (some a6) := by rw [hW8]; exact HSEG.out.2
        rw [← hW8]
        have s0 := blk_grown Q0.out G8 (by have := HA6.out; have := QZ.out.2; intro e; have := Option.some.inj e; omega)
        have s2 := blk_grown Q2.out G8 (by have := HA6.out; have := QZ.out.2; intro e; have := Option.some.inj e; omega)
        have sB := QB.out.grown G8 QB.out.size (fun k e => by have := Option.some.inj e; have := HA6.out; have := QZ.out.2; omega)
        have S0 := Aside0.mk s0
        have S2 := Aside0.mk s2
        have SB := Aside0.mk sB
        have R9 := Aside0.mk R8
        clear hW8 s0 s2 sB R8 G8 HSEG Q0 Q2 QB e0 e1 e2 e3 e4 e5 f0 f1 f2 f3 f4 f5 h0 h1 h2 h3 h4 h5 t3
        go_wp2_with (first | (refine wpList_load_row rfl 24 (.tmp 3) rfl w.heap.size rfl 24 _ (0, 0) _ S0.out Try.underlying24 rfl (by kernel_rfl) ?_) | (refine term_Bare.put_row (w0 := w) w.heap.size rfl 24 (.tmp 6) (.tmp 52) rfl (w.heap.size + 1 + 1) #[.int .i64 t.f0, .int .i64 t.f1, .string t.f2, .slice (some ⟨a6, 0, none⟩) t.f3.length c6, .int .i64 t.f4, .int .i64 t.f5] rfl rfl 24 _ S2.out (by kernel_rfl) rfl (by simp [Value.oneCell']) SB.out (by omega) ?_; intro W9 hg9 ho9 hz9 hb9; (have HG9 := Aside0.mk hg9); (have HO9 := Aside0.mk ho9); (have HB9 := Aside0.mk hb9); clear hg9 ho9 hz9 hb9))
        refine bodyPost_ret (results_ct rfl _ _ (w.heap.size + 1 + 1) 24 _ (0, 0) _ rfl HG9.out Try.underlying24 rfl (by kernel_rfl)) rfl ?_
        rw [← HRR.out]
        have HV9 := Kd.N_step R9.out (fun q hq hlt => HO9.out q (by have := QZ.out.2; omega))
        have hll : (t.f3.set i.toNat y.1).length = t.f3.length := List.length_set ..
        refine ⟨some ⟨a6, 0, none⟩, c6, ?_, ?_, ?_, HB9.out⟩
        · simp only [hll]
          rfl
        · rw [hll]; exact (Kd.N_reads' HV9).2.1
        · exact Kd.F_mono (by rw [hll]; exact Kd.N_F HV9) (fun q hq => by have := QZ.out.2; rcases hq with (h | h) | h; exact .inl h.1; exact .inr (by omega); exact .inr (by omega))

end Go.Proofs.Ytppeaofdohghgaa.PTm
