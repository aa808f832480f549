-- SLIM: a printed text of which the unused ways are cut off
-- PRINTED by print.py (a twelfth state) out of the translation. Not trusted: Lean checks it.
import Derived.Test.YtogjnipojakfjaaPJvx0
import Derived.Test.YtogjnipojakfjaaPJvx1
import Derived.Test.YtogjnipojakfjaaPJvx3
namespace Go.Proofs.Ytogjnipojakfjaa.PJv
open Go.RowKit Go.Proofs.YtogjnipojakfjaaW.PrintWords Go.Proofs.YtogjnipojakfjaaW.PrintLast Go.Proofs.YtogjnipojakfjaaW.PrintMore
attribute [local go_sem] max2_int min2_int max_two min_two max_three min_three max_four min_four   -- for this text's walks alone
set_option linter.unusedVariables false
set_option linter.unusedSimpArgs false

/-! ### entry_Read: function 35 (given) -/
def entry_Read.n (l : List Int) (i : Nat) : Int := entry_number.of (rd l (i : Int)) (rd l ((i + 1 : Nat) : Int)) (rd l ((i + 2 : Nat) : Int)) (rd l ((i + 3 : Nat) : Int))
def entry_Read.byt (x : Int) : Prop := 0 ≤ x ∧ x < 256
instance (x : Int) : Decidable (entry_Read.byt x) := by unfold entry_Read.byt; exact inferInstance
/-- behind the first tests: there are four bytes -/
def entry_Read.g (l : List Int) (i : Nat) : Option (Int × List Int × List Int × Int × Int) :=
  if entry_Read.byt (rd l (i : Int)) ∧ entry_Read.byt (rd l ((i + 1 : Nat) : Int)) ∧ entry_Read.byt (rd l ((i + 2 : Nat) : Int)) ∧ entry_Read.byt (rd l ((i + 3 : Nat) : Int)) then
    (if entry_Read.n l i = 0 then some (0, [], [], 0, 2)
    else if 1025 < entry_Read.n l i then some (0, [], [], 0, 3)
    else if (l.length : Int) - i - 4 < entry_Read.n l i + 32 then some (0, [], [], 0, 1)
    else if entry_Read.byt (rd l ((i + 4 : Nat) : Int)) then
      (if 1 ≤ rd l ((i + 4 : Nat) : Int) ∧ rd l ((i + 4 : Nat) : Int) ≤ 3 then
        some (rd l ((i + 4 : Nat) : Int), (l.take (i + 4 + (entry_Read.n l i).toNat)).drop (i + 5), (l.take (i + 4 + (entry_Read.n l i).toNat + 32)).drop (i + 4 + (entry_Read.n l i).toNat), (i : Int) + 4 + entry_Read.n l i + 32, 0)
      else some (0, [], [], 0, 23))
    else none)
  else none
def entry_Read.f (l : List Int) (a : Int) : Option (Int × List Int × List Int × Int × Int) :=
  if l.length < 140737488355328 then
    (if a < 0 ∨ (l.length : Int) < a then some (0, [], [], 0, 13)
    else if (l.length : Int) - a < 4 then some (0, [], [], 0, 1)
    else entry_Read.g l a.toNat)
  else none
set_option maxHeartbeats 8000000 in
set_option maxRecDepth 100000 in
theorem entry_Read.calls (A0 : Option Addr) (c0 : Nat) (l0 : List Int) (a1 : Int) (r1 : Int) (r2 : List Int) (r3 : List Int) (r4 : Int) (r5 : Int) (w : World) (hr0 : Kd.C (Kd.int .u8) w A0 l0.length l0) (hc0 : l0.length ≤ c0) (h : entry_Read.f l0 a1 = some (r1, r2, r3, r4, r5)) :
    Calls Try.prog 35 #[.slice A0 l0.length c0, .int .i64 a1] w fun e w' => ∃ v1_ v2_ : Value, e = .returned (.tuple #[.agg #[.int .i64 r1, v1_], v2_, .int .i64 r4, .int .i64 r5]) ∧ Kd.R (Kd.int .u8) 5 w' w.heap.size (fun k_ => some k_ ≠ (v2_ : Value).ownBlock) v1_ r2 ∧ Kd.R (Kd.int .u8) 5 w' w.heap.size (fun k_ => some k_ ≠ (v1_ : Value).ownBlock) v2_ r3 ∧ Below w.heap.size w w' := by
  unfold entry_Read.f at h
  by_cases hlen : l0.length < 140737488355328
  case neg => rw [if_neg hlen] at h; exact absurd h (by simp)
  rw [if_pos hlen] at h
  have hu := Try.underlying35
  have HR := Aside0.mk hr0
  have HC := Aside0.mk hc0
  clear hr0 hc0
  have fin0 : ∀ (W : World) (x : Int), Below w.heap.size w W → ∃ v1_ v2_ : Value, Ending.returned (.tuple #[.agg #[.int .i64 0, .slice none 0 0], .slice none 0 0, .int .i64 0, .int .i64 x]) = .returned (.tuple #[.agg #[.int .i64 0, v1_], v2_, .int .i64 0, .int .i64 x]) ∧ Kd.R (Kd.int .u8) 5 W w.heap.size (fun k_ => some k_ ≠ (v2_ : Value).ownBlock) v1_ [] ∧ Kd.R (Kd.int .u8) 5 W w.heap.size (fun k_ => some k_ ≠ (v1_ : Value).ownBlock) v2_ [] ∧ Below w.heap.size w W := fun W x hb => ⟨_, _, rfl, Kd.R_nil _ _ _ _ _, Kd.R_nil _ _ _ _ _, hb⟩
  have FIN0 := Aside0.mk fin0
  clear fin0
  by_cases hneg : a1 < 0
  · rw [if_pos (.inl hneg)] at h
    simp only [Option.some.injEq, Prod.mk.injEq] at h
    obtain ⟨rfl, rfl, rfl, rfl, rfl⟩ := h
    have hd : decide (a1 < 0) = true := decide_eq_true hneg
    clear hneg
    go_enter Try.func35, Try.ntmps35
    go_wp2
    refine bodyPost_ret (results_list (rs := [.cell 4 35, .tmp 5, .tmp 6, .tmp 7]) rfl (by simp) (.cell _ 35 _ (0, 0) _ rfl (blk_new _ _) Try.underlying35 rfl (by kernel_rfl) (.tmp (.tmp (.tmp .nil))))) rfl ?_
    exact FIN0.out _ _ (below_alloc (Below.refl _ _) _)
  by_cases hgt : (l0.length : Int) < a1
  · rw [if_pos (.inr hgt)] at h
    simp only [Option.some.injEq, Prod.mk.injEq] at h
    obtain ⟨rfl, rfl, rfl, rfl, rfl⟩ := h
    have hd : decide (a1 < 0) = false := decide_eq_false hneg
    have hd2 : decide ((l0.length : Int) < a1) = true := decide_eq_true hgt
    clear hneg hgt
    go_enter Try.func35, Try.ntmps35
    go_wp2
    refine bodyPost_ret (results_list (rs := [.cell 4 35, .tmp 5, .tmp 6, .tmp 7]) rfl (by simp) (.cell _ 35 _ (0, 0) _ rfl (blk_new _ _) Try.underlying35 rfl (by kernel_rfl) (.tmp (.tmp (.tmp .nil))))) rfl ?_
    exact FIN0.out _ _ (below_alloc (Below.refl _ _) _)
  rw [if_neg (fun hh => hh.elim hneg hgt)] at h
  obtain ⟨i, rfl⟩ : ∃ i : Nat, a1 = (i : Int) := ⟨a1.toNat, by omega⟩
  have hi : i ≤ l0.length := by omega
  have hd : decide ((i : Int) < 0) = false := decide_eq_false hneg
  have hd2 : decide ((l0.length : Int) < (i : Int)) = false := decide_eq_false hgt
  have hw1 : IntKind.i64.wrap ((l0.length : Int) - (i : Int)) = (l0.length : Int) - (i : Int) := IntWalk.i64_in _ (by omega)
  clear hneg hgt
  by_cases hsh : (l0.length : Int) - i < 4
  · rw [if_pos hsh] at h
    simp only [Option.some.injEq, Prod.mk.injEq] at h
    obtain ⟨rfl, rfl, rfl, rfl, rfl⟩ := h
    have hd3 : decide ((l0.length : Int) - (i : Int) < 4) = true := decide_eq_true hsh
    clear hsh
    go_enter Try.func35, Try.ntmps35
    go_wp2
    refine bodyPost_ret (results_list (rs := [.cell 4 35, .tmp 5, .tmp 6, .tmp 7]) rfl (by simp) (.cell _ 35 _ (0, 0) _ rfl (blk_new _ _) Try.underlying35 rfl (by kernel_rfl) (.tmp (.tmp (.tmp .nil))))) rfl ?_
    exact FIN0.out _ _ (below_alloc (Below.refl _ _) _)
  rw [if_neg hsh] at h
  simp only [Int.toNat_natCast] at h
  unfold entry_Read.g at h
  have hd3 : decide ((l0.length : Int) - (i : Int) < 4) = false := decide_eq_false hsh
  by_cases hby : entry_Read.byt (rd l0 (i : Int)) ∧ entry_Read.byt (rd l0 ((i + 1 : Nat) : Int)) ∧ entry_Read.byt (rd l0 ((i + 2 : Nat) : Int)) ∧ entry_Read.byt (rd l0 ((i + 3 : Nat) : Int))
  case neg => rw [if_neg hby] at h; exact absurd h (by simp)
  rw [if_pos hby] at h
  have HBY := Aside0.mk hby
  have hw4 : IntKind.i64.wrap ((i : Int) + 4) = (i : Int) + 4 := IntWalk.i64_in _ (by omega)
  obtain ⟨i0, hi0, _, hsz0, _⟩ := info_parts info5
  obtain ⟨A', hcut, hrd, hle⟩ := print_mid_of (P := Try.prog) (Value.int .u8) 0 22 5 .i64 .i64 Try.underlying22 hi0 hsz0 A0 c0 l0 (i : Int) ((i : Int) + 4) (by omega) (by omega) (by omega) HC.out
  have hl4 : ((l0.take ((i : Int) + 4).toNat).drop (i : Int).toNat).length = 4 := by rw [List.length_drop, List.length_take]; omega
  have hreads := hrd w (Kd.reads_of_C HR.out)
  rw [hl4] at hcut hreads hle
  obtain ⟨ad, rfl, hcells⟩ := hreads.2.2 (by omega)
  have cell : ∀ j, j < 4 → w.cell? (ad.add j) = some (.int .u8 (rd l0 ((i + j : Nat) : Int))) := fun j hj => by
    rw [hcells j hj]
    congr 2
    unfold rd
    rw [Int.toNat_natCast, List.getD_eq_getElem?_getD, List.getD_eq_getElem?_getD, List.getElem?_drop, List.getElem?_take_of_lt (by omega), Int.toNat_natCast]
  have q0 : w.cell? ad = some (.int .u8 (rd l0 (i : Int))) := by have := cell 0 (by omega); simpa [Addr.add] using this
  have q1 : w.cell? ⟨ad.block, ad.off + 1, none⟩ = some (.int .u8 (rd l0 ((i + 1 : Nat) : Int))) := by have := cell 1 (by omega); simpa [Addr.add] using this
  have q2 : w.cell? ⟨ad.block, ad.off + 2, none⟩ = some (.int .u8 (rd l0 ((i + 2 : Nat) : Int))) := by have := cell 2 (by omega); simpa [Addr.add] using this
  have q3 : w.cell? ⟨ad.block, ad.off + 3, none⟩ = some (.int .u8 (rd l0 ((i + 3 : Nat) : Int))) := by have := cell 3 (by omega); simpa [Addr.add] using this
  have HNUM := Aside0.mk (entry_number.calls _ _ _ _ hby.1 hby.2.1 hby.2.2.1 hby.2.2.2)
  obtain ⟨n, hn⟩ : ∃ n, n = entry_Read.n l0 i := ⟨_, rfl⟩
  rw [show entry_number.of (rd l0 (i : Int)) (rd l0 ((i + 1 : Nat) : Int)) (rd l0 ((i + 2 : Nat) : Int)) (rd l0 ((i + 3 : Nat) : Int)) = n from hn.symm] at HNUM
  rw [← hn] at h
  have hn0 : 0 ≤ n ∧ n < 4294967296 := by
    obtain ⟨⟨a1, a2⟩, ⟨b1, b2⟩, ⟨c1, c2⟩, d1, d2⟩ := hby
    rw [hn]
    unfold entry_Read.n entry_number.of
    omega
  obtain ⟨hn1, hn2⟩ := hn0
  clear hn hby hcells cell hreads hrd hi0 hsz0 hl4 hle
  generalize rd l0 (i : Int) = b0 at *
  generalize rd l0 ((i + 1 : Nat) : Int) = b1 at *
  generalize rd l0 ((i + 2 : Nat) : Int) = b2 at *
  generalize rd l0 ((i + 3 : Nat) : Int) = b3 at *
  have qa0 := fun o => pw_cell_below (below_alloc (Below.refl w.heap.size w) o) q0
  have qa1 := fun o => pw_cell_below (below_alloc (Below.refl w.heap.size w) o) q1
  have qa2 := fun o => pw_cell_below (below_alloc (Below.refl w.heap.size w) o) q2
  have qa3 := fun o => pw_cell_below (below_alloc (Below.refl w.heap.size w) o) q3
  have harr : ∀ W, (Instr.arrayAt 89 (.slice (some ad) 4 (c0 - i))).run Try.prog W = .ok (.pointer (some ad)) W := fun W => run_arrayAt W _ 5 4 _ _ _ Try.underlying89 (Nat.le_refl _)
  by_cases hz : n = 0
  · rw [if_pos hz] at h
    simp only [Option.some.injEq, Prod.mk.injEq] at h
    obtain ⟨rfl, rfl, rfl, rfl, rfl⟩ := h
    have hz1 : (n == 0) = true := beq_iff_eq.mpr hz
    clear hz
    go_enter Try.func35, Try.ntmps35
    go_wp2_with (go_at_call 52; (with_reducible refine (HNUM.out _).mono ?_); rintro e w1 ⟨rfl, hb1⟩; (have hbk1 : w1.heap[w.heap.size]? = some (.cells #[.int .i64 0, .slice none 0 0] 35 (0, 0)) := blk_below (blk_new _ _) hb1); (have s0 : w1.cell? ⟨w.heap.size, 0, none⟩ = some (.int .i64 0) := (blk_cell hbk1 0).trans rfl); (have s1 : w1.cell? ⟨w.heap.size, 1, none⟩ = some (.slice none 0 0) := (blk_cell hbk1 1).trans rfl); (have f0 := blk_frozen hbk1 0); (have f1 := blk_frozen hbk1 1); (have HBK := Aside0.mk hbk1); (have HB1 : Aside0 (Below w.heap.size w w1) := ⟨below_step (below_alloc (Below.refl _ _) _) hb1⟩); clear hb1 hbk1)
    refine bodyPost_ret (results_list (rs := [.cell 4 35, .tmp 5, .tmp 6, .tmp 7]) rfl (by simp) (.cell _ 35 _ (0, 0) _ rfl (blk_put (blk_put HBK.out 0 (.int .i64 0) rfl) 1 (.slice none 0 0) rfl) Try.underlying35 rfl (by kernel_rfl) (.tmp (.tmp (.tmp .nil))))) rfl ?_
    exact FIN0.out _ _ (below_set (below_set HB1.out (Nat.le_refl _)) (Nat.le_refl _))
  rw [if_neg hz] at h
  have hz1 : (n == 0) = false := beq_eq_false_iff_ne.mpr hz
  by_cases hlong : 1025 < n
  · rw [if_pos hlong] at h
    simp only [Option.some.injEq, Prod.mk.injEq] at h
    obtain ⟨rfl, rfl, rfl, rfl, rfl⟩ := h
    have hz2 : decide (1025 < n) = true := decide_eq_true hlong
    clear hz hlong
    go_enter Try.func35, Try.ntmps35
    go_wp2_with (go_at_call 52; (with_reducible refine (HNUM.out _).mono ?_); rintro e w1 ⟨rfl, hb1⟩; (have hbk1 : w1.heap[w.heap.size]? = some (.cells #[.int .i64 0, .slice none 0 0] 35 (0, 0)) := blk_below (blk_new _ _) hb1); (have s0 : w1.cell? ⟨w.heap.size, 0, none⟩ = some (.int .i64 0) := (blk_cell hbk1 0).trans rfl); (have s1 : w1.cell? ⟨w.heap.size, 1, none⟩ = some (.slice none 0 0) := (blk_cell hbk1 1).trans rfl); (have f0 := blk_frozen hbk1 0); (have f1 := blk_frozen hbk1 1); (have HBK := Aside0.mk hbk1); (have HB1 : Aside0 (Below w.heap.size w w1) := ⟨below_step (below_alloc (Below.refl _ _) _) hb1⟩); clear hb1 hbk1)
    refine bodyPost_ret (results_list (rs := [.cell 4 35, .tmp 5, .tmp 6, .tmp 7]) rfl (by simp) (.cell _ 35 _ (0, 0) _ rfl (blk_put (blk_put HBK.out 0 (.int .i64 0) rfl) 1 (.slice none 0 0) rfl) Try.underlying35 rfl (by kernel_rfl) (.tmp (.tmp (.tmp .nil))))) rfl ?_
    exact FIN0.out _ _ (below_set (below_set HB1.out (Nat.le_refl _)) (Nat.le_refl _))
  rw [if_neg hlong] at h
  have hz2 : decide (1025 < n) = false := decide_eq_false hlong
  have hw5 : IntKind.i64.wrap ((l0.length : Int) - (i : Int) - 4) = (l0.length : Int) - (i : Int) - 4 := IntWalk.i64_in _ (by omega)
  have hw6 : IntKind.i64.wrap (n + 32) = n + 32 := IntWalk.i64_in _ (by omega)
  have hw6' : IntKind.i64.wrap n = n := IntWalk.i64_in _ (by omega)
  by_cases hsh2 : (l0.length : Int) - i - 4 < n + 32
  · rw [if_pos hsh2] at h
    simp only [Option.some.injEq, Prod.mk.injEq] at h
    obtain ⟨rfl, rfl, rfl, rfl, rfl⟩ := h
    have hz3 : decide ((l0.length : Int) - (i : Int) - 4 < n + 32) = true := decide_eq_true hsh2
    clear hz hlong hsh2
    go_enter Try.func35, Try.ntmps35
    go_wp2_with (go_at_call 52; (with_reducible refine (HNUM.out _).mono ?_); rintro e w1 ⟨rfl, hb1⟩; (have hbk1 : w1.heap[w.heap.size]? = some (.cells #[.int .i64 0, .slice none 0 0] 35 (0, 0)) := blk_below (blk_new _ _) hb1); (have s0 : w1.cell? ⟨w.heap.size, 0, none⟩ = some (.int .i64 0) := (blk_cell hbk1 0).trans rfl); (have s1 : w1.cell? ⟨w.heap.size, 1, none⟩ = some (.slice none 0 0) := (blk_cell hbk1 1).trans rfl); (have f0 := blk_frozen hbk1 0); (have f1 := blk_frozen hbk1 1); (have HBK := Aside0.mk hbk1); (have HB1 : Aside0 (Below w.heap.size w w1) := ⟨below_step (below_alloc (Below.refl _ _) _) hb1⟩); clear hb1 hbk1)
    refine bodyPost_ret (results_list (rs := [.cell 4 35, .tmp 5, .tmp 6, .tmp 7]) rfl (by simp) (.cell _ 35 _ (0, 0) _ rfl (blk_put (blk_put HBK.out 0 (.int .i64 0) rfl) 1 (.slice none 0 0) rfl) Try.underlying35 rfl (by kernel_rfl) (.tmp (.tmp (.tmp .nil))))) rfl ?_
    exact FIN0.out _ _ (below_set (below_set HB1.out (Nat.le_refl _)) (Nat.le_refl _))
  rw [if_neg hsh2] at h
  have hz3 : decide ((l0.length : Int) - (i : Int) - 4 < n + 32) = false := decide_eq_false hsh2
  by_cases hby4 : entry_Read.byt (rd l0 ((i + 4 : Nat) : Int))
  case neg => rw [if_neg hby4] at h; exact absurd h (by simp)
  rw [if_pos hby4] at h
  obtain ⟨hk0, hk1⟩ := hby4
  obtain ⟨m, rfl⟩ : ∃ m : Nat, n = (m : Int) := ⟨n.toNat, by omega⟩
  have hm : m ≤ 1025 := by omega
  clear hn1 hn2
  have hroom : i + 4 + m + 32 ≤ l0.length := by omega
  obtain ⟨ad0, hA0, kcell⟩ := Kd.at_int HR.out ((i : Int) + 4) (by omega) (by omega)
  have hto : ((i : Int) + 4).toNat = i + 4 := by omega
  have kcell2 := kcell
  rw [hto] at kcell
  have hcast : ((i + 4 : Nat) : Int) = (i : Int) + 4 := by omega
  rw [hcast] at h hk0 hk1
  subst hA0
  generalize rd l0 ((i : Int) + 4) = kb at *
  clear hcast hto
  have hlt : (i : Int) + 4 < (l0.length : Int) := by omega
  have hge : (0 : Int) ≤ (i : Int) + 4 := by omega
  have ka := fun o => pw_cell_below (below_alloc (Below.refl w.heap.size w) o) kcell
  have KC := Aside0.mk kcell
  have kcell3 : w.cell? ⟨ad0.block, ad0.off + (i + 3 + 1), none⟩ = some (.int .u8 kb) := by have := kcell; rwa [show ad0.add (i + 4) = ⟨ad0.block, ad0.off + (i + 3 + 1), none⟩ by unfold Addr.add; simp] at this
  have KC2 := Aside0.mk kcell3
  have hw7 : IntKind.i64.wrap ((i : Int) + 4 + (m : Int)) = (i : Int) + 4 + (m : Int) := IntWalk.i64_in _ (by omega)
  simp only [Int.toNat_natCast] at h
  by_cases hkn : 1 ≤ kb ∧ kb ≤ 3
  case neg =>
    rw [if_neg hkn] at h
    simp only [Option.some.injEq, Prod.mk.injEq] at h
    obtain ⟨rfl, rfl, rfl, rfl, rfl⟩ := h
    have HKN : Aside0 (entry_known.f kb = some false) := ⟨by
      unfold entry_known.f
      by_cases c : kb ≥ 1
      · rw [if_pos c, decide_eq_false (fun hh => hkn ⟨c, hh⟩)]
      · rw [if_neg c]⟩
    clear hz hlong hsh2 hkn
    go_enter Try.func35, Try.ntmps35
    go_wp2_with (first | (go_at_call 52; (with_reducible refine (HNUM.out _).mono ?_); rintro e w1 ⟨rfl, hb1⟩; (have hbk1 : w1.heap[w.heap.size]? = some (.cells #[.int .i64 0, .slice none 0 0] 35 (0, 0)) := blk_below (blk_new _ _) hb1); (have s0 : w1.cell? ⟨w.heap.size, 0, none⟩ = some (.int .i64 0) := (blk_cell hbk1 0).trans rfl); (have s1 : w1.cell? ⟨w.heap.size, 1, none⟩ = some (.slice none 0 0) := (blk_cell hbk1 1).trans rfl); (have f0 := blk_frozen hbk1 0); (have f1 := blk_frozen hbk1 1); (have HBK := Aside0.mk hbk1); (have HB1 : Aside0 (Below w.heap.size w w1) := ⟨below_step (below_alloc (Below.refl _ _) _) hb1⟩); clear hb1 hbk1; have kc1 := pw_cell_below HB1.out KC.out; have kc2 := pw_cell_below HB1.out KC2.out) | (go_at_call 53; (with_reducible refine (entry_known.calls kb false _ HKN.out).mono ?_); rintro e w' ⟨rfl, ⟨nd, rfl⟩⟩))
    refine bodyPost_ret (results_list (rs := [.cell 4 35, .tmp 5, .tmp 6, .tmp 7]) rfl (by simp) (.cell _ 35 #[.int .i64 0, .slice none 0 0] (0, 0) _ rfl (blk_put (blk_put (blk_drewN HBK.out nd) 0 (.int .i64 0) rfl) 1 (.slice none 0 0) rfl) Try.underlying35 rfl (by kernel_rfl) (.tmp (.tmp (.tmp .nil))))) rfl ?_
    exact FIN0.out _ _ (by repeat (first | exact HB1.out | apply pw_below_drewN | (refine below_set ?_ (Nat.le_refl _))))
  rw [if_pos hkn] at h
  simp only [Option.some.injEq, Prod.mk.injEq] at h
  obtain ⟨rfl, hr2, hr3, rfl, rfl⟩ := h
  have HKN : Aside0 (entry_known.f kb = some true) := ⟨by
    unfold entry_known.f
    rw [if_pos hkn.1, decide_eq_true hkn.2]⟩
  have hw8 : IntKind.i64.wrap ((i : Int) + 4 + 1) = (i : Int) + 5 := by rw [IntWalk.i64_in _ (by omega)]; omega
  have hw9 : IntKind.i64.wrap ((i : Int) + 4 + (m : Int) + 32) = (i : Int) + 4 + (m : Int) + 32 := IntWalk.i64_in _ (by omega)
  obtain ⟨i0', hi0, _, hsz0, _⟩ := info_parts info5
  have hmpos : 1 ≤ m := by
    rcases Nat.eq_zero_or_pos m with hh | hh
    · exact absurd (by rw [hh]; rfl) hz
    · exact hh
  obtain ⟨A5, hcut5, hrd5, hle5⟩ := print_mid_of (P := Try.prog) (Value.int .u8) 0 22 5 .i64 .i64 Try.underlying22 hi0 hsz0 (some ad0) c0 l0 ((i : Int) + 5) ((i : Int) + 4 + (m : Int)) (by omega) (by omega) (by omega) HC.out
  obtain ⟨A6, hcut6, hrd6, hle6⟩ := print_mid_of (P := Try.prog) (Value.int .u8) 0 22 5 .i64 .i64 Try.underlying22 hi0 hsz0 (some ad0) c0 l0 ((i : Int) + 4 + (m : Int)) ((i : Int) + 4 + (m : Int) + 32) (by omega) (by omega) (by omega) HC.out
  have hb5 := hrd5 w (Kd.reads_of_C HR.out)
  have hb6 := hrd6 w (Kd.reads_of_C HR.out)
  rw [show ((i : Int) + 4 + (m : Int)).toNat = i + 4 + m by omega, show ((i : Int) + 5).toNat = i + 5 by omega, hr2] at hcut5 hb5 hle5
  rw [show ((i : Int) + 4 + (m : Int) + 32).toNat = i + 4 + m + 32 by omega, show ((i : Int) + 4 + (m : Int)).toNat = i + 4 + m by omega, hr3] at hcut6 hb6 hle6
  have H5 : Aside0 (Kd.C (Kd.int .u8) w A5 r2.length r2) := ⟨Kd.C_of_reads (h1 := fun _ => rfl) hb5⟩
  have H6 : Aside0 (Kd.C (Kd.int .u8) w A6 r3.length r3) := ⟨Kd.C_of_reads (h1 := fun _ => rfl) hb6⟩
  have HE5 := Aside0.mk hle5
  have HE6 := Aside0.mk hle6
  have F5 : Aside0 (slices_Clone_byte_byte.f r2 = some r2) := ⟨by unfold slices_Clone_byte_byte.f; rw [if_pos (by rw [← hr2, List.length_drop, List.length_take]; omega)]⟩
  have F6 : Aside0 (slices_Clone_byte_byte.f r3 = some r3) := ⟨by unfold slices_Clone_byte_byte.f; rw [if_pos (by rw [← hr3, List.length_drop, List.length_take]; omega)]⟩
  clear hz hlong hsh2 hkn hb5 hb6 hrd5 hrd6 hle5 hle6 hi0 hsz0 hr2 hr3 hmpos
  generalize c0 - (i + 5) = c5 at hcut5 HE5
  generalize c0 - (i + 4 + m) = c6 at hcut6 HE6
  go_enter Try.func35, Try.ntmps35
  go_wp2_with (first | (go_at_call 52; (with_reducible refine (HNUM.out _).mono ?_); rintro e w1 ⟨rfl, hb1⟩; (have hbk1 : w1.heap[w.heap.size]? = some (.cells #[.int .i64 0, .slice none 0 0] 35 (0, 0)) := blk_below (blk_new _ _) hb1); (have s0 : w1.cell? ⟨w.heap.size, 0, none⟩ = some (.int .i64 0) := (blk_cell hbk1 0).trans rfl); (have s1 : w1.cell? ⟨w.heap.size, 1, none⟩ = some (.slice none 0 0) := (blk_cell hbk1 1).trans rfl); (have f0 := blk_frozen hbk1 0); (have f1 := blk_frozen hbk1 1); (have HBK := Aside0.mk hbk1); (have HB1 : Aside0 (Below w.heap.size w w1) := ⟨below_step (below_alloc (Below.refl _ _) _) hb1⟩); clear hb1 hbk1; have kc1 := pw_cell_below HB1.out KC.out; have kc2 := pw_cell_below HB1.out KC2.out) | (go_at_call 53; (with_reducible refine (entry_known.calls kb true _ HKN.out).mono ?_); rintro e w' ⟨rfl, ⟨nd, rfl⟩⟩))
  have nk := World.new_ne w1 _ kc1
  have HNK := Aside0.mk nk
  generalize hW1 : w1.drewN nd = W1
  have kd1 : W1.cell? (ad0.add (i + 4)) = some (.int .u8 kb) := by rw [← hW1]; exact pw_cell_below (pw_below_drewN (Below.refl w1.heap.size w1) nd) kc1
  have kd2 : W1.cell? ⟨ad0.block, ad0.off + (i + 3 + 1), none⟩ = some (.int .u8 kb) := by rw [← hW1]; exact pw_cell_below (pw_below_drewN (Below.refl w1.heap.size w1) nd) kc2
  have HBd : Aside0 (Below w.heap.size w W1) := ⟨by rw [← hW1]; exact pw_below_drewN HB1.out nd⟩
  have HBKd : Aside0 (W1.heap[w.heap.size]? = some (.cells #[.int .i64 0, .slice none 0 0] 35 (0, 0))) := ⟨by rw [← hW1]; exact blk_drewN HBK.out nd⟩
  have KC3 : Aside0 (w.cell? (ad0.add ((i : Int) + 4).toNat) = some (.int .u8 kb)) := ⟨by rw [show ((i : Int) + 4).toNat = i + 4 by omega]; exact KC.out⟩
  clear hW1 s0 s1 f0 f1 kc1 kc2 HBK HB1 nk HNK qa0 qa1 qa2 qa3 q0 q1 q2 q3 ka kcell kcell2 kcell3 harr hcut
  have kd3 : W1.cell? (ad0.add ((i : Int) + 4).toNat) = some (.int .u8 kb) := by rw [show ((i : Int) + 4).toNat = i + 4 by omega]; exact kd1
  have hwk : IntKind.i64.wrap kb = kb := IntWalk.i64_in _ (by omega)
  have n1 := World.new_ne W1 _ kd1
  have n3 := World.new_ne W1 _ kd3
  have n2 := World.new_ne W1 _ kd2
  go_region_held3 (fun w' => w'.cell? (ad0.add (i + 4)) = some (.int .u8 kb) ∧ w'.cell? ⟨ad0.block, ad0.off + (i + 3 + 1), none⟩ = some (.int .u8 kb) ∧ w'.cell? (ad0.add ((i : Int) + 4).toNat) = some (.int .u8 kb)) (go_keep) ((go_at_call 33; refine (slices_Clone_byte_byte.calls A5 c5 r2 r2 _ ?h1 HE5.out F5.out).mono ?_; (case h1 => exact Kd.C_below H5.out (by repeat (first | exact HBd.out | apply below_alloc | apply below_drew))); rintro e w2 ⟨v2, rfl, ho2, hb2⟩; (have HO2 := Aside0.mk ho2); (have HB2 := Aside0.mk hb2); (obtain ⟨A2, c2, rfl⟩ := Kd.R_slice ho2); (have HB2w : Aside0 (Below w.heap.size w w2) := ⟨below_step (by repeat (first | exact HBd.out | apply below_alloc | apply below_drew)) hb2⟩); (try (with_reducible have hk9 : Below (W1.alloc (.cells #[.int .i64 0, .slice none 0 0] 35)).drew.heap.size (W1.alloc (.cells #[.int .i64 0, .slice none 0 0] 35)).drew w2 := hb2; (have hb9 : w2.heap[W1.heap.size]? = some (.cells #[.int .i64 0, .slice none 0 0] 35 (0, 0)) := blk_below (blk_drew (blk_new _ _)) hk9); have HB9 := Aside0.mk hb9; have u0 : w2.cell? ⟨W1.heap.size, 0, none⟩ = some (.int .i64 0) := (blk_cell hb9 0).trans rfl; have u1 : w2.cell? ⟨W1.heap.size, 1, none⟩ = some (.slice none 0 0) := (blk_cell hb9 1).trans rfl; have v0 := blk_frozen hb9 0; have v1' := blk_frozen hb9 1; clear hb9 hk9)); (have e1 := pw_cell_below HB2w.out KC.out); (have e2 := pw_cell_below HB2w.out KC2.out); (have e3 := pw_cell_below HB2w.out KC3.out); clear ho2 hb2))
  all_goals skip
  all_goals go_wp2
  · obtain ⟨W3, hW3⟩ : ∃ W3, W3 = w2.alloc (.cells #[.int .i64 kb, .slice A2 r2.length c2] 35) := ⟨_, rfl⟩
    have hlt1 : w.heap.size < w2.heap.size := Nat.lt_of_lt_of_le (blk_lt HBKd.out) (by have := HB2.out.size; simpa using this)
    have hlt2 := hlt1
    have HX3 : Aside0 (W3.heap[w2.heap.size]? = some (.cells #[.int .i64 kb, .slice A2 r2.length c2] 35 (0, 0))) := ⟨by rw [hW3]; exact blk_new _ _⟩
    have HBK3 : Aside0 (W3.heap[w.heap.size]? = some (.cells #[.int .i64 0, .slice none 0 0] 35 (0, 0))) := ⟨by rw [hW3]; exact blk_alloc (blk_below (blk_drew HBKd.out) HB2.out) _⟩
    have HB3 : Aside0 (Below w.heap.size w W3) := ⟨by rw [hW3]; exact below_alloc HB2w.out _⟩
    have HO3 : Aside0 (Kd.R (Kd.int .u8) 5 W3 w.heap.size (fun k => w.heap.size < k ∧ k ≠ w2.heap.size ∧ k < W3.heap.size) (.slice A2 r2.length c2) r2) := ⟨by
      have hb := Kd.R_base HO2.out
      have hl := Kd.R_lt HO2.out
      have hw := blk_lt HBKd.out
      rw [hW3]
      refine Kd.R_alloc (Kd.R_reok rfl (Kd.R_lower HO2.out (by have := HBd.out.size; simpa using this)) (fun k hk => ?_)) _
      have h1 : W1.heap.size ≤ k := by simpa using hb k hk
      have h2 := hl k hk
      have h3 : k < (w2.alloc (.cells #[.int .i64 kb, .slice A2 r2.length c2] 35)).heap.size := by simp; omega
      exact ⟨by omega, by omega, h3⟩⟩
    rw [← hW3]
    have HNE : Aside0 (w.heap.size < w2.heap.size) := ⟨by (exact hlt1)⟩
    clear hW3
    have x0 : W3.cell? ⟨w2.heap.size, 0, none⟩ = some (.int .i64 kb) := (blk_cell HX3.out 0).trans rfl
    have x1 : W3.cell? ⟨w2.heap.size, 1, none⟩ = some (.slice A2 r2.length c2) := (blk_cell HX3.out 1).trans rfl
    have nx0 := World.new_ne W3 _ x0
    have nx1 := World.new_ne W3 _ x1
    have f0 := blk_frozen HBK3.out 0
    have f1 := blk_frozen HBK3.out 1
    have s0 : W3.cell? ⟨w.heap.size, 0, none⟩ = some (.int .i64 0) := (blk_cell HBK3.out 0).trans rfl
    have s1 : W3.cell? ⟨w.heap.size, 1, none⟩ = some (.slice none 0 0) := (blk_cell HBK3.out 1).trans rfl
    have fd0 := blk_frozen (blk_drew HBK3.out) 0
    have fd1 := blk_frozen (blk_drew HBK3.out) 1
    clear e1 e2 e3 hlt1 hlt2
    go_region_held3 (fun w' => w'.cell? ⟨w2.heap.size, 0, none⟩ = some (.int .i64 kb) ∧ w'.cell? ⟨w2.heap.size, 1, none⟩ = some (.slice A2 r2.length c2)) (first | go_keep | exact ⟨(blk_cell (blk_far (p := ⟨w.heap.size, 1, none⟩) (blk_far (p := ⟨w.heap.size, 0, none⟩) HX5.out (Nat.ne_of_gt HNE.out) _) (Nat.ne_of_gt HNE.out) _) 0).trans rfl, (blk_cell (blk_far (p := ⟨w.heap.size, 1, none⟩) (blk_far (p := ⟨w.heap.size, 0, none⟩) HX5.out (Nat.ne_of_gt HNE.out) _) (Nat.ne_of_gt HNE.out) _) 1).trans rfl⟩) ((go_at_call 33; refine (slices_Clone_byte_byte.calls A6 c6 r3 r3 _ ?h1 HE6.out F6.out).mono ?_; (case h1 => exact Kd.C_below H6.out (by repeat (first | exact HB3.out | apply below_drew))); rintro e w5 ⟨v5, rfl, ho5, hb5⟩; (have HO5 := Aside0.mk ho5); (have HB5 := Aside0.mk hb5); (have HB5w : Aside0 (Below w.heap.size w w5) := ⟨below_step (by repeat (first | exact HB3.out | apply below_drew)) hb5⟩); (obtain ⟨A7, c7, rfl⟩ := Kd.R_slice ho5); (have hx5 : w5.heap[w2.heap.size]? = some (.cells #[.int .i64 kb, .slice A2 r2.length c2] 35 (0, 0)) := blk_below (by with_reducible (exact blk_drew HX3.out)) hb5); (have y0 : w5.cell? ⟨w2.heap.size, 0, none⟩ = some (.int .i64 kb) := (blk_cell hx5 0).trans rfl); (have y1 : w5.cell? ⟨w2.heap.size, 1, none⟩ = some (.slice A2 r2.length c2) := (blk_cell hx5 1).trans rfl); (try (with_reducible have hk9 : Below W3.drew.heap.size W3.drew w5 := hb5; (have hb9 : w5.heap[w.heap.size]? = some (.cells #[.int .i64 0, .slice none 0 0] 35 (0, 0)) := blk_below (blk_drew HBK3.out) hk9); have HK5 := Aside0.mk hb9; have u0' : w5.cell? ⟨w.heap.size, 0, none⟩ = some (.int .i64 0) := (blk_cell hb9 0).trans rfl; have u1' : w5.cell? ⟨w.heap.size, 1, none⟩ = some (.slice none 0 0) := (blk_cell hb9 1).trans rfl; have v0'' := blk_frozen hb9 0; have v1'' := blk_frozen hb9 1; clear hb9 hk9)); (have HX5 := Aside0.mk hx5); clear hx5 ho5 hb5))
    go_wp2
    have hkp : ∀ u v, Kept w5 ((w5.setCell ⟨w.heap.size, 0, none⟩ u).setCell ⟨w.heap.size, 1, none⟩ v) (fun k => k = w.heap.size) := fun u v => Kept.setCell (p := ⟨w.heap.size, 1, none⟩) (Kept.setCell (p := ⟨w.heap.size, 0, none⟩) (Kept.refl w5 (fun k => k = w.heap.size)) (.inl rfl) _) (.inl rfl) _
    have hb35 : Below W3.heap.size W3 w5 := below_step (below_drew (Below.refl _ _)) HB5.out
    have h7 := Kd.R_base HO5.out
    have hsz3 := HB3.out.size
    refine bodyPost_ret (results_list (rs := [.cell 4 35, .tmp 5, .tmp 6, .tmp 7]) rfl (by simp) (.cell _ 35 #[.int .i64 kb, .slice A2 r2.length c2] (0, 0) _ rfl (blk_put (blk_put HK5.out 0 (.int .i64 kb) rfl) 1 (.slice A2 r2.length c2) rfl) Try.underlying35 rfl (by kernel_rfl) (.tmp (.tmp (.tmp .nil))))) rfl ?_
    refine ⟨_, _, rfl, ?_, ?_, ?_⟩
    · have h2 := Kd.R_kept (Kd.R_below HO3.out hb35) (hkp (.int .i64 kb) (.slice A2 r2.length c2)) (fun k hk he => by have := hk.1; omega)
      refine Kd.R_reok rfl h2 (fun k hk he => ?_)
      have h3 := (h2.1 k hk).2.2
      have h4 := h7 k he.symm
      simp at h4
      omega
    · have h2 := Kd.R_kept (Kd.R_reok (ok := fun k => w.heap.size < k ∧ W3.heap.size ≤ k) rfl (Kd.R_lower HO5.out (by simpa using hsz3)) (fun k hk => by
        have h4 := h7 k hk
        have h5 := blk_lt HBK3.out
        simp at h4
        exact ⟨by omega, h4⟩)) (hkp (.int .i64 kb) (.slice A2 r2.length c2)) (fun k hk he => by have := hk.1; omega)
      refine Kd.R_reok rfl h2 (fun k hk he => ?_)
      have h3 := (h2.1 k hk).2
      have h4 := ((Kd.R_below HO3.out hb35).1 k he.symm).2.2
      omega
    · exact below_set (below_set HB5w.out (Nat.le_refl _)) (Nat.le_refl _)
  · obtain ⟨W3, hW3⟩ : ∃ W3, W3 = (w2.setCell ⟨W1.heap.size, 0, none⟩ (.int .i64 kb)).setCell ⟨W1.heap.size, 1, none⟩ (.slice A2 r2.length c2) := ⟨_, rfl⟩
    have hlt1 : w.heap.size < W1.heap.size := blk_lt HBKd.out
    have hlt2 := hlt1
    have HX3 : Aside0 (W3.heap[W1.heap.size]? = some (.cells #[.int .i64 kb, .slice A2 r2.length c2] 35 (0, 0))) := ⟨by rw [hW3]; exact blk_put (blk_put HB9.out 0 (.int .i64 kb) rfl) 1 (.slice A2 r2.length c2) rfl⟩
    have HBK3 : Aside0 (W3.heap[w.heap.size]? = some (.cells #[.int .i64 0, .slice none 0 0] 35 (0, 0))) := ⟨by rw [hW3]; exact blk_far (p := ⟨W1.heap.size, 1, none⟩) (blk_far (p := ⟨W1.heap.size, 0, none⟩) (blk_below (blk_drew (blk_alloc HBKd.out _)) HB2.out) (Nat.ne_of_lt hlt1) (.int .i64 kb)) (Nat.ne_of_lt hlt1) (.slice A2 r2.length c2)⟩
    have HB3 : Aside0 (Below w.heap.size w W3) := ⟨by rw [hW3]; exact below_set (below_set HB2w.out (Nat.le_of_lt hlt1)) (Nat.le_of_lt hlt1)⟩
    have HO3 : Aside0 (Kd.R (Kd.int .u8) 5 W3 w.heap.size (fun k => w.heap.size < k ∧ k ≠ W1.heap.size ∧ k < W3.heap.size) (.slice A2 r2.length c2) r2) := ⟨by
      have hb := Kd.R_base HO2.out
      have hl := Kd.R_lt HO2.out
      have hk0 : Kept w2 W3 (fun k => k = W1.heap.size) := by
        rw [hW3]
        exact Kept.setCell (p := ⟨W1.heap.size, 1, none⟩) (Kept.setCell (p := ⟨W1.heap.size, 0, none⟩) (Kept.refl w2 (fun k => k = W1.heap.size)) (.inl rfl) _) (.inl rfl) _
      refine Kd.R_kept (Kd.R_reok rfl (Kd.R_lower HO2.out (by have := HBd.out.size; simp; omega)) (fun k hk => ?_)) hk0 (fun k hk => hk.2.1)
      have h1 : W1.heap.size + 1 ≤ k := by simpa using hb k hk
      have h2 := hl k hk
      have h3 := hk0.1
      exact ⟨by omega, by omega, by omega⟩⟩
    rw [← hW3]
    have HNE : Aside0 (w.heap.size < W1.heap.size) := ⟨by (exact hlt1)⟩
    clear hW3
    have x0 : W3.cell? ⟨W1.heap.size, 0, none⟩ = some (.int .i64 kb) := (blk_cell HX3.out 0).trans rfl
    have x1 : W3.cell? ⟨W1.heap.size, 1, none⟩ = some (.slice A2 r2.length c2) := (blk_cell HX3.out 1).trans rfl
    have nx0 := World.new_ne W3 _ x0
    have nx1 := World.new_ne W3 _ x1
    have f0 := blk_frozen HBK3.out 0
    have f1 := blk_frozen HBK3.out 1
    have s0 : W3.cell? ⟨w.heap.size, 0, none⟩ = some (.int .i64 0) := (blk_cell HBK3.out 0).trans rfl
    have s1 : W3.cell? ⟨w.heap.size, 1, none⟩ = some (.slice none 0 0) := (blk_cell HBK3.out 1).trans rfl
    have fd0 := blk_frozen (blk_drew HBK3.out) 0
    have fd1 := blk_frozen (blk_drew HBK3.out) 1
    clear e1 e2 e3 hlt1 hlt2
    go_region_held3 (fun w' => w'.cell? ⟨W1.heap.size, 0, none⟩ = some (.int .i64 kb) ∧ w'.cell? ⟨W1.heap.size, 1, none⟩ = some (.slice A2 r2.length c2)) (first | go_keep | exact ⟨(blk_cell (blk_far (p := ⟨w.heap.size, 1, none⟩) (blk_far (p := ⟨w.heap.size, 0, none⟩) HX5.out (Nat.ne_of_gt HNE.out) _) (Nat.ne_of_gt HNE.out) _) 0).trans rfl, (blk_cell (blk_far (p := ⟨w.heap.size, 1, none⟩) (blk_far (p := ⟨w.heap.size, 0, none⟩) HX5.out (Nat.ne_of_gt HNE.out) _) (Nat.ne_of_gt HNE.out) _) 1).trans rfl⟩) ((go_at_call 33; refine (slices_Clone_byte_byte.calls A6 c6 r3 r3 _ ?h1 HE6.out F6.out).mono ?_; (case h1 => exact Kd.C_below H6.out (by repeat (first | exact HB3.out | apply below_drew))); rintro e w5 ⟨v5, rfl, ho5, hb5⟩; (have HO5 := Aside0.mk ho5); (have HB5 := Aside0.mk hb5); (have HB5w : Aside0 (Below w.heap.size w w5) := ⟨below_step (by repeat (first | exact HB3.out | apply below_drew)) hb5⟩); (obtain ⟨A7, c7, rfl⟩ := Kd.R_slice ho5); (have hx5 : w5.heap[W1.heap.size]? = some (.cells #[.int .i64 kb, .slice A2 r2.length c2] 35 (0, 0)) := blk_below (by with_reducible (exact blk_drew HX3.out)) hb5); (have y0 : w5.cell? ⟨W1.heap.size, 0, none⟩ = some (.int .i64 kb) := (blk_cell hx5 0).trans rfl); (have y1 : w5.cell? ⟨W1.heap.size, 1, none⟩ = some (.slice A2 r2.length c2) := (blk_cell hx5 1).trans rfl); (try (with_reducible have hk9 : Below W3.drew.heap.size W3.drew w5 := hb5; (have hb9 : w5.heap[w.heap.size]? = some (.cells #[.int .i64 0, .slice none 0 0] 35 (0, 0)) := blk_below (blk_drew HBK3.out) hk9); have HK5 := Aside0.mk hb9; have u0' : w5.cell? ⟨w.heap.size, 0, none⟩ = some (.int .i64 0) := (blk_cell hb9 0).trans rfl; have u1' : w5.cell? ⟨w.heap.size, 1, none⟩ = some (.slice none 0 0) := (blk_cell hb9 1).trans rfl; have v0'' := blk_frozen hb9 0; have v1'' := blk_frozen hb9 1; clear hb9 hk9)); (have HX5 := Aside0.mk hx5); clear hx5 ho5 hb5))
    go_wp2
    have hkp : ∀ u v, Kept w5 ((w5.setCell ⟨w.heap.size, 0, none⟩ u).setCell ⟨w.heap.size, 1, none⟩ v) (fun k => k = w.heap.size) := fun u v => Kept.setCell (p := ⟨w.heap.size, 1, none⟩) (Kept.setCell (p := ⟨w.heap.size, 0, none⟩) (Kept.refl w5 (fun k => k = w.heap.size)) (.inl rfl) _) (.inl rfl) _
    have hb35 : Below W3.heap.size W3 w5 := below_step (below_drew (Below.refl _ _)) HB5.out
    have h7 := Kd.R_base HO5.out
    have hsz3 := HB3.out.size
    refine bodyPost_ret (results_list (rs := [.cell 4 35, .tmp 5, .tmp 6, .tmp 7]) rfl (by simp) (.cell _ 35 #[.int .i64 kb, .slice A2 r2.length c2] (0, 0) _ rfl (blk_put (blk_put HK5.out 0 (.int .i64 kb) rfl) 1 (.slice A2 r2.length c2) rfl) Try.underlying35 rfl (by kernel_rfl) (.tmp (.tmp (.tmp .nil))))) rfl ?_
    refine ⟨_, _, rfl, ?_, ?_, ?_⟩
    · have h2 := Kd.R_kept (Kd.R_below HO3.out hb35) (hkp (.int .i64 kb) (.slice A2 r2.length c2)) (fun k hk he => by have := hk.1; omega)
      refine Kd.R_reok rfl h2 (fun k hk he => ?_)
      have h3 := (h2.1 k hk).2.2
      have h4 := h7 k he.symm
      simp at h4
      omega
    · have h2 := Kd.R_kept (Kd.R_reok (ok := fun k => w.heap.size < k ∧ W3.heap.size ≤ k) rfl (Kd.R_lower HO5.out (by simpa using hsz3)) (fun k hk => by
        have h4 := h7 k hk
        have h5 := blk_lt HBK3.out
        simp at h4
        exact ⟨by omega, h4⟩)) (hkp (.int .i64 kb) (.slice A2 r2.length c2)) (fun k hk he => by have := hk.1; omega)
      refine Kd.R_reok rfl h2 (fun k hk he => ?_)
      have h3 := (h2.1 k hk).2
      have h4 := ((Kd.R_below HO3.out hb35).1 k he.symm).2.2
      omega
    · exact below_set (below_set HB5w.out (Nat.le_refl _)) (Nat.le_refl _)

/-! ### entry_Payload: function 56 -/
def entry_Payload.f (a0_0 : Int) (l0_1 : List Int) : Option (List Int × Int) := (entry_known.f a0_0).bind fun t116 => (if t116 = true then (if (l0_1.length : Int) > 1024 then (some (([] : List Int), 3)) else ((some (([(a0_0) % 256] : List Int) : List Int)).bind fun y117 => (if y117.length + l0_1.length < 140737488355328 then (some ((y117 ++ l0_1), 0)) else (none)))) else (some (([] : List Int), 23)))
set_option maxHeartbeats 8000000 in
set_option maxRecDepth 100000 in
theorem entry_Payload.calls (a0_0 : Int) (A0_1 : Option Addr) (c0_1 : Nat) (l0_1 : List Int) (r1 : List Int) (r2 : Int) (w : World) (hr0_1 : Kd.C (Kd.int .u8) w A0_1 l0_1.length l0_1) (hc0_1 : l0_1.length ≤ c0_1) (h : entry_Payload.f a0_0 l0_1 = some (r1, r2)) :
    Calls Try.prog 56 #[.agg #[.int .i64 a0_0, .slice A0_1 l0_1.length c0_1]] w fun e w' => ∃ v0_ : Value, e = .returned (.tuple #[v0_, .int .i64 r2]) ∧ Kd.R (Kd.int .u8) 5 w' w.heap.size (fun _ => True) v0_ r1 ∧ Below w.heap.size w w' := by
  have hu35 := Try.underlying35
  have HR0_1 := Aside0.mk hr0_1
  have HC0_1 := Aside0.mk hc0_1
  clear hr0_1 hc0_1
  have HB := Aside0.mk (Below.refl w.heap.size w)
  have H : ((entry_known.f a0_0).bind fun t116 => (if t116 = true then (if (l0_1.length : Int) > 1024 then (some (([] : List Int), 3)) else ((some (([(a0_0) % 256] : List Int) : List Int)).bind fun y117 => (if y117.length + l0_1.length < 140737488355328 then (some ((y117 ++ l0_1), 0)) else (none)))) else (some (([] : List Int), 23)))) = some (r1, r2) := h
  clear h
  replace H := Option.bind_eq_some_iff.mp H
  obtain ⟨t116, A20, H⟩ := H
  replace H : (if t116 = true then (if (l0_1.length : Int) > 1024 then (some (([] : List Int), 3)) else ((some (([(a0_0) % 256] : List Int) : List Int)).bind fun y117 => (if y117.length + l0_1.length < 140737488355328 then (some ((y117 ++ l0_1), 0)) else (none)))) else (some (([] : List Int), 23))) = some (r1, r2) := H
  have A2 := Aside0.mk A20
  clear A20
  by_cases c3 : t116 = true
  rotate_left
  · replace c3 := Bool.eq_false_iff.mpr c3
    subst c3
    have H1 : (some (([] : List Int), 23)) = some (r1, r2) := by rw [if_neg (show ¬ (false = true) by decide)] at H; exact H
    clear H
    have H := H1
    clear H1
    simp only [Option.some.injEq, Prod.mk.injEq] at H
    obtain ⟨rfl, rfl⟩ := H
    go_enter Try.func56, Try.ntmps56
    go_wp2_with (first | ((with_reducible refine gate_dst (N := 1) rfl ?_); refine box_event ?hg (N := 1) ?hd (cs := #[.int .i64 a0_0, .slice A0_1 l0_1.length c0_1]) (t := 35) ?hr ?_; (case hd => rfl); (case hg => rfl); (case hr => (go_simp; done)); intro gb115 hg w14 hbox hb; have n0_ := Aside0.mk (below_step HB.out hb); have n1_ := Aside0.mk (hbox); have n2_ := Aside0.mk ((by rw [hg]; exact (below_size HB.out) : w.heap.size ≤ gb115)); have n3_ := Aside0.mk ((by rw [hg]; exact (below_size HB.out) : w.heap.size ≤ gb115)); clear HB; have HB := n0_; have BK115 := n1_; have GW115 := n2_; have GE115 := n3_; clear n0_ n1_ n2_ n3_; clear hb hbox hg; have hcz15_0 : w14.cell? ⟨gb115, 0, none⟩ = some (.int .i64 a0_0) := (blk_cell BK115.out 0).trans rfl; have hcz15_1 : w14.cell? ⟨gb115, 1, none⟩ = some (.slice A0_1 l0_1.length c0_1) := (blk_cell BK115.out 1).trans rfl; have hfz15_0 := blk_frozen BK115.out 0; have hfz15_1 := blk_frozen BK115.out 1) | ((with_reducible refine gate_callee (f := 53) rfl ?_); refine goesL_ (some 7) rfl rfl Try.func53 (by kernel_rfl) rfl #[.int .i64 a0_0] rfl (by (try simp only [List.map_toArray, List.map_cons, List.map_nil]); (rfl)) ?_; (with_reducible refine (entry_known.calls a0_0 false _ A2.out).mono ?_); rintro e w' ⟨rfl, ⟨nd, rfl⟩⟩; refine ⟨_, rfl, ?_⟩))
    go_ret2
    exact ⟨_, by (rfl), by (exact Kd.R_nil _ _ _ _ _), by repeat (with_reducible first | exact HB.out | apply pw_below_drewN)⟩


  subst c3
  have H1 : (if (l0_1.length : Int) > 1024 then (some (([] : List Int), 3)) else ((some (([(a0_0) % 256] : List Int) : List Int)).bind fun y117 => (if y117.length + l0_1.length < 140737488355328 then (some ((y117 ++ l0_1), 0)) else (none)))) = some (r1, r2) := by rw [if_pos rfl] at H; exact H
  clear H
  have H := H1
  clear H1
  by_cases c4 : (l0_1.length : Int) > 1024
  · rw [if_pos c4] at H
    have c4b0 : decide (1024 < (l0_1.length : Int)) = true := decide_eq_true c4
    have c4b1 : decide (1024 < l0_1.length) = true := decide_eq_true (by omega)
    clear c4
    simp only [Option.some.injEq, Prod.mk.injEq] at H
    obtain ⟨rfl, rfl⟩ := H
    go_enter Try.func56, Try.ntmps56
    go_wp2_with (first | ((with_reducible refine gate_dst (N := 1) rfl ?_); refine box_event ?hg (N := 1) ?hd (cs := #[.int .i64 a0_0, .slice A0_1 l0_1.length c0_1]) (t := 35) ?hr ?_; (case hd => rfl); (case hg => rfl); (case hr => (go_simp; done)); intro gb115 hg w5 hbox hb; have n0_ := Aside0.mk (below_step HB.out hb); have n1_ := Aside0.mk (hbox); have n2_ := Aside0.mk ((by rw [hg]; exact (below_size HB.out) : w.heap.size ≤ gb115)); have n3_ := Aside0.mk ((by rw [hg]; exact (below_size HB.out) : w.heap.size ≤ gb115)); clear HB; have HB := n0_; have BK115 := n1_; have GW115 := n2_; have GE115 := n3_; clear n0_ n1_ n2_ n3_; clear hb hbox hg; have hcz6_0 : w5.cell? ⟨gb115, 0, none⟩ = some (.int .i64 a0_0) := (blk_cell BK115.out 0).trans rfl; have hcz6_1 : w5.cell? ⟨gb115, 1, none⟩ = some (.slice A0_1 l0_1.length c0_1) := (blk_cell BK115.out 1).trans rfl; have hfz6_0 := blk_frozen BK115.out 0; have hfz6_1 := blk_frozen BK115.out 1) | ((with_reducible refine gate_callee (f := 53) rfl ?_); refine goesL_ (some 7) rfl rfl Try.func53 (by kernel_rfl) rfl #[.int .i64 a0_0] rfl (by (try simp only [List.map_toArray, List.map_cons, List.map_nil]); (rfl)) ?_; (with_reducible refine (entry_known.calls a0_0 true _ A2.out).mono ?_); rintro e w' ⟨rfl, ⟨nd, rfl⟩⟩; refine ⟨_, rfl, ?_⟩))
    go_ret2
    exact ⟨_, by (rfl), by (exact Kd.R_nil _ _ _ _ _), by repeat (with_reducible first | exact HB.out | apply pw_below_drewN)⟩
  rw [if_neg c4] at H
  have c4b0 : decide (1024 < (l0_1.length : Int)) = false := decide_eq_false c4
  have c4b1 : decide (1024 < l0_1.length) = false := decide_eq_false (by omega)
  clear c4
  obtain ⟨y117, hy117⟩ : ∃ y_ : List Int, y_ = (([(a0_0) % 256] : List Int)) := ⟨_, rfl⟩
  replace H : (if y117.length + l0_1.length < 140737488355328 then (some ((y117 ++ l0_1), 0)) else (none)) = some (r1, r2) := by ((have H2_ := (Option.bind_some _ _).symm.trans H; rw [hy117]; with_reducible exact H2_))
  have Ny117 := Aside0.mk hy117
  clear hy117
  by_cases c7 : y117.length + l0_1.length < 140737488355328
  rotate_left
  · rw [if_neg c7] at H
    exact absurd H (by simp)
  rw [if_pos c7] at H
  have LMc7 := Aside0.mk c7
  clear c7
  obtain ⟨y120, hy120⟩ : ∃ y_ : List Int, y_ = (y117 ++ l0_1) := ⟨_, rfl⟩
  replace H : (some (y120, 0)) = some (r1, r2) := by (rw [hy120]; with_reducible exact H)
  have Ny120 := Aside0.mk hy120
  clear hy120
  simp only [Option.some.injEq, Prod.mk.injEq] at H
  obtain ⟨rfl, rfl⟩ := H
  go_enter Try.func56, Try.ntmps56
  go_wp2_with (first | ((with_reducible refine gate_dst (N := 1) rfl ?_); refine box_event ?hg (N := 1) ?hd (cs := #[.int .i64 a0_0, .slice A0_1 l0_1.length c0_1]) (t := 35) ?hr ?_; (case hd => rfl); (case hg => rfl); (case hr => (go_simp; done)); intro gb115 hg w8 hbox hb; have n0_ := Aside0.mk (below_step HB.out hb); have n1_ := Aside0.mk (hbox); have n2_ := Aside0.mk ((by rw [hg]; exact (below_size HB.out) : w.heap.size ≤ gb115)); have n3_ := Aside0.mk ((by rw [hg]; exact (below_size HB.out) : w.heap.size ≤ gb115)); clear HB; have HB := n0_; have BK115 := n1_; have GW115 := n2_; have GE115 := n3_; clear n0_ n1_ n2_ n3_; clear hb hbox hg; have hcz9_0 : w8.cell? ⟨gb115, 0, none⟩ = some (.int .i64 a0_0) := (blk_cell BK115.out 0).trans rfl; have hcz9_1 : w8.cell? ⟨gb115, 1, none⟩ = some (.slice A0_1 l0_1.length c0_1) := (blk_cell BK115.out 1).trans rfl; have hfz9_0 := blk_frozen BK115.out 0; have hfz9_1 := blk_frozen BK115.out 1) | ((with_reducible refine gate_callee (f := 53) rfl ?_); refine goesL_ (some 7) rfl rfl Try.func53 (by kernel_rfl) rfl #[.int .i64 a0_0] rfl (by (try simp only [List.map_toArray, List.map_cons, List.map_nil]); (rfl)) ?_; (with_reducible refine (entry_known.calls a0_0 true _ A2.out).mono ?_); rintro e w' ⟨rfl, ⟨nd, rfl⟩⟩; refine ⟨_, rfl, ?_⟩) | ((with_reducible refine gate_dst (N := 17) rfl ?_); refine Kd.R_lit (Kd.int .u8) _ 5 ?hg (N := 17) ?hd (xs := ([(a0_0) % 256] : List Int)) (inner := [.int .u8 ((a0_0) % 256)]) (ok := fun _ => True) (okp := fun _ => True) ?hr ?hp (fun _ hk => hk) trivial (Below.refl _ _) (Nat.le_refl _) (by simp) ?_; (case hd => rfl); (case hg => rfl); (case hr => (go_simp; done)); (case hp => exact (Reps.one (show Kd.M (Kd.int .u8) _ _ _ ((a0_0) % 256) [.int .u8 ((a0_0) % 256)] from rfl) (Reps.none _ _))); intro v118 w10 ho11 hb hg_ hnew_; clear hg_ hnew_; (rw [← Ny117.out] at ho11); have n0_ := Aside0.mk (Kd.R_lower ho11 (below_size (by repeat (with_reducible first | exact HB.out | apply pw_below_drewN)))); have n1_ := Aside0.mk (blk_below (g := gb115) (o := .cells #[.int .i64 a0_0, .slice A0_1 l0_1.length c0_1] 35 (0, 0)) (by (with_reducible repeat (refine blk_drewN ?_ _)); exact BK115.out) hb); have n2_ := Aside0.mk (below_step (by repeat (with_reducible first | exact HB.out | apply pw_below_drewN)) hb); clear BK115; clear HB; have HO119 := n0_; have BK115 := n1_; have HB := n2_; clear n0_ n1_ n2_; clear hb ho11; have hcz12_0 : w10.cell? ⟨gb115, 0, none⟩ = some (.int .i64 a0_0) := (blk_cell BK115.out 0).trans rfl; have hcz12_1 : w10.cell? ⟨gb115, 1, none⟩ = some (.slice A0_1 l0_1.length c0_1) := (blk_cell BK115.out 1).trans rfl; have hfz12_0 := blk_frozen BK115.out 0; have hfz12_1 := blk_frozen BK115.out 1) | ((with_reducible refine gate_builtin (b := .append) (xs := #[.tmp 17, .tmp 19]) rfl ?_); at_builtin; refine Kd.R_append_rows (Kd.int .u8) (w0 := w) w.heap.size rfl (.tmp 17) (.tmp 19) 22 5 (.int .u8 0) 1 rfl Try.underlying22 info5 rfl (by decide) (by omega) v118 y117 l0_1 _ _ _ (fun _ => True) (fun _ => False) rfl rfl ?aO ?aR (fun _ _ h => h) (fun _ h => h.elim) ?aF ?aB ?aS ?aL ?_; (case aR => exact Kd.C_below HR0_1.out HB.out); (case aB => exact HB.out); (case aF => exact (fun _ _ => trivial)); (case aO => exact (by exact HO119.out)); (case aS => exact (below_size HB.out)); (case aL => have := LMc7.out; omega); intro v121 w13 ho hb hg hat; rw [← Ny120.out] at ho; have n0_ := Aside0.mk (blk_grown (g := gb115) (o := .cells #[.int .i64 a0_0, .slice A0_1 l0_1.length c0_1] 35 (0, 0)) (by exact BK115.out) hg (Kd.R_ne HO119.out BK115.out (by decide))); have n1_ := Aside0.mk (hb); have n2_ := Aside0.mk (ho); clear BK115; clear HB; clear HO119; have BK115 := n0_; have HB := n1_; have HO122 := n2_; clear n0_ n1_ n2_; clear ho hb hg hat))
  go_ret2
  exact ⟨_, by (rfl), by exact HO122.out, HB.out⟩/-! ### chain_Message: function 54 -/
def chain_Message.l0 : Nat → Int → List Int → List Int → Int → Option (List Int × Int)
  | 0, _, _, _, _ => none
  | k + 1, x1, x8, x10, x11 => if x11 ≥ 0 then (if 0 ≤ x11 then (if x10.length < 140737488355328 then (chain_Message.l0 k x1 x8 (x10 ++ [(shr .u64 x1 x11) % 256]) (wrap64 (x11 - 8))) else (none)) else (none)) else (if x10.length + x8.length < 140737488355328 then (some ((x10 ++ x8), 0)) else (none))
def chain_Message.f (k : Nat) (l0 : List Int) (a1 : Int) (a2_0 : Int) (l2_1 : List Int) : Option (List Int × Int) := if (l0.length : Int) = 32 then ((entry_Payload.f a2_0 l2_1).bind fun bt124 => (if bt124.2 = 0 then ((some (([] : List Int) : List Int)).bind fun y128 => (if y128.length + l0.length < 140737488355328 then (chain_Message.l0 k a1 bt124.1 (y128 ++ l0) 56) else (none))) else (some (([] : List Int), bt124.2)))) else (some (([] : List Int), 2))
set_option maxHeartbeats 8000000 in
set_option maxRecDepth 100000 in
theorem chain_Message.calls (k : Nat) (A0 : Option Addr) (c0 : Nat) (l0 : List Int) (a1 : Int) (a2_0 : Int) (A2_1 : Option Addr) (c2_1 : Nat) (l2_1 : List Int) (r1 : List Int) (r2 : Int) (w : World) (hr0 : Kd.C (Kd.int .u8) w A0 l0.length l0) (hc0 : l0.length ≤ c0) (hr2_1 : Kd.C (Kd.int .u8) w A2_1 l2_1.length l2_1) (hc2_1 : l2_1.length ≤ c2_1) (h : chain_Message.f k l0 a1 a2_0 l2_1 = some (r1, r2)) :
    Calls Try.prog 54 #[.slice A0 l0.length c0, .int .u64 a1, .agg #[.int .i64 a2_0, .slice A2_1 l2_1.length c2_1]] w fun e w' => ∃ v0_ : Value, e = .returned (.tuple #[v0_, .int .i64 r2]) ∧ Kd.R (Kd.int .u8) 5 w' w.heap.size (fun _ => True) v0_ r1 ∧ Below w.heap.size w w' := by
  have hu35 := Try.underlying35
  have HR0 := Aside0.mk hr0
  have HC0 := Aside0.mk hc0
  clear hr0 hc0
  have HR2_1 := Aside0.mk hr2_1
  have HC2_1 := Aside0.mk hc2_1
  clear hr2_1 hc2_1
  have HB := Aside0.mk (Below.refl w.heap.size w)
  have H : (if (l0.length : Int) = 32 then ((entry_Payload.f a2_0 l2_1).bind fun bt124 => (if bt124.2 = 0 then ((some (([] : List Int) : List Int)).bind fun y128 => (if y128.length + l0.length < 140737488355328 then (chain_Message.l0 k a1 bt124.1 (y128 ++ l0) 56) else (none))) else (some (([] : List Int), bt124.2)))) else (some (([] : List Int), 2))) = some (r1, r2) := h
  clear h
  by_cases c4 : (l0.length : Int) = 32
  rotate_left
  · rw [if_neg c4] at H
    have c4b0 : ((l0.length : Int) == 32) = false := beq_eq_false_iff_ne.mpr c4
    have c4b1 : ((l0.length : Int) != 32) = true := bne_iff_ne.mpr c4
    simp only [Option.some.injEq, Prod.mk.injEq] at H
    obtain ⟨rfl, rfl⟩ := H
    go_enter Try.func54, Try.ntmps54
    go_wp2_with ((((with_reducible refine gate_dst (N := 5) rfl ?_); refine box_event ?hg (N := 5) ?hd (cs := #[.int .i64 a2_0, .slice A2_1 l2_1.length c2_1]) (t := 35) ?hr ?_; (case hd => rfl); (case hg => rfl); (case hr => (go_simp; done)); intro gb123 hg w25 hbox hb; have n0_ := Aside0.mk (below_step HB.out hb); have n1_ := Aside0.mk (hbox); have n2_ := Aside0.mk ((by rw [hg]; exact (below_size HB.out) : w.heap.size ≤ gb123)); have n3_ := Aside0.mk ((by rw [hg]; exact (below_size HB.out) : w.heap.size ≤ gb123)); clear HB; have HB := n0_; have BK123 := n1_; have GW123 := n2_; have GE123 := n3_; clear n0_ n1_ n2_ n3_; clear hb hbox hg)))
    go_ret2
    exact ⟨_, by (rfl), by (exact Kd.R_nil _ _ _ _ _), HB.out⟩

  rw [if_pos c4] at H
  have c4b0 : ((l0.length : Int) == 32) = true := beq_iff_eq.mpr c4
  have c4b1 : ((l0.length : Int) != 32) = false := bne_eq_false_iff_eq.mpr c4
  clear c4
  replace H := Option.bind_eq_some_iff.mp H
  obtain ⟨⟨t124, t127⟩, A50, H⟩ := H
  replace H : (if t127 = 0 then ((some (([] : List Int) : List Int)).bind fun y128 => (if y128.length + l0.length < 140737488355328 then (chain_Message.l0 k a1 t124 (y128 ++ l0) 56) else (none))) else (some (([] : List Int), t127))) = some (r1, r2) := H
  have A5 := Aside0.mk A50
  clear A50
  by_cases c6 : t127 = 0
  rotate_left
  · rw [if_neg c6] at H
    have c6b0 : (t127 == 0) = false := beq_eq_false_iff_ne.mpr c6
    have c6b1 : (t127 != 0) = true := bne_iff_ne.mpr c6
    simp only [Option.some.injEq, Prod.mk.injEq] at H
    obtain ⟨rfl, rfl⟩ := H
    go_enter Try.func54, Try.ntmps54
    go_wp2_with (first | ((with_reducible refine gate_dst (N := 5) rfl ?_); refine box_event ?hg (N := 5) ?hd (cs := #[.int .i64 a2_0, .slice A2_1 l2_1.length c2_1]) (t := 35) ?hr ?_; (case hd => rfl); (case hg => rfl); (case hr => (go_simp; done)); intro gb123 hg w22 hbox hb; have n0_ := Aside0.mk (below_step HB.out hb); have n1_ := Aside0.mk (hbox); have n2_ := Aside0.mk ((by rw [hg]; exact (below_size HB.out) : w.heap.size ≤ gb123)); have n3_ := Aside0.mk ((by rw [hg]; exact (below_size HB.out) : w.heap.size ≤ gb123)); clear HB; have HB := n0_; have BK123 := n1_; have GW123 := n2_; have GE123 := n3_; clear n0_ n1_ n2_ n3_; clear hb hbox hg; have hcz23_0 : w22.cell? ⟨gb123, 0, none⟩ = some (.int .i64 a2_0) := (blk_cell BK123.out 0).trans rfl; have hcz23_1 : w22.cell? ⟨gb123, 1, none⟩ = some (.slice A2_1 l2_1.length c2_1) := (blk_cell BK123.out 1).trans rfl; have hfz23_0 := blk_frozen BK123.out 0; have hfz23_1 := blk_frozen BK123.out 1) | ((with_reducible refine gate_callee (f := 56) rfl ?_); refine goesL_ (some 17) rfl rfl Try.func56 (by kernel_rfl) rfl #[.agg #[.int .i64 a2_0, .slice A2_1 l2_1.length c2_1]] rfl (by (try simp only [List.map_toArray, List.map_cons, List.map_nil]); (rfl)) ?_; (with_reducible refine (entry_Payload.calls a2_0 _ _ l2_1 t124 t127 _ ?side1 ?side2 A5.out).mono ?_); (case side1 => exact Kd.C_below HR2_1.out HB.out); (case side2 => exact HC2_1.out); rintro e w24 ⟨v125, rfl, ho0, hb⟩; refine ⟨_, rfl, ?_⟩; have n0_ := Aside0.mk (Kd.R_lower ho0 (below_size HB.out)); have n1_ := Aside0.mk (blk_below (g := gb123) (o := .cells #[.int .i64 a2_0, .slice A2_1 l2_1.length c2_1] 35 (0, 0)) (by exact BK123.out) hb); have n2_ := Aside0.mk (below_step HB.out hb); clear BK123; clear HB; have HO126 := n0_; have BK123 := n1_; have HB := n2_; clear n0_ n1_ n2_; (try clear hb); (try clear ho0)))
    go_ret2
    exact ⟨_, by (rfl), by (exact Kd.R_nil _ _ _ _ _), HB.out⟩
  rw [if_pos c6] at H
  have c6b0 : (t127 == 0) = true := beq_iff_eq.mpr c6
  have c6b1 : (t127 != 0) = false := bne_eq_false_iff_eq.mpr c6
  clear c6
  obtain ⟨y128, hy128⟩ : ∃ y_ : List Int, y_ = ([] : List Int) := ⟨_, rfl⟩
  replace H : (if y128.length + l0.length < 140737488355328 then (chain_Message.l0 k a1 t124 (y128 ++ l0) 56) else (none)) = some (r1, r2) := by ((have H2_ := (Option.bind_some _ _).symm.trans H; rw [hy128]; with_reducible exact H2_))
  have Ny128 := Aside0.mk hy128
  clear hy128
  by_cases c7 : y128.length + l0.length < 140737488355328
  rotate_left
  · rw [if_neg c7] at H
    exact absurd H (by simp)
  rw [if_pos c7] at H
  have LMc7 := Aside0.mk c7
  clear c7
  obtain ⟨y131, hy131⟩ : ∃ y_ : List Int, y_ = (y128 ++ l0) := ⟨_, rfl⟩
  replace H : (chain_Message.l0 k a1 t124 y131 56) = some (r1, r2) := by (rw [hy131]; with_reducible exact H)
  have Ny131 := Aside0.mk hy131
  clear hy131
  have H' := Aside0.mk H
  clear H
  go_enter Try.func54, Try.ntmps54
  go_wp2_with (first | ((with_reducible refine gate_dst (N := 5) rfl ?_); refine box_event ?hg (N := 5) ?hd (cs := #[.int .i64 a2_0, .slice A2_1 l2_1.length c2_1]) (t := 35) ?hr ?_; (case hd => rfl); (case hg => rfl); (case hr => (go_simp; done)); intro gb123 hg w8 hbox hb; have n0_ := Aside0.mk (below_step HB.out hb); have n1_ := Aside0.mk (hbox); have n2_ := Aside0.mk ((by rw [hg]; exact (below_size HB.out) : w.heap.size ≤ gb123)); have n3_ := Aside0.mk ((by rw [hg]; exact (below_size HB.out) : w.heap.size ≤ gb123)); clear HB; have HB := n0_; have BK123 := n1_; have GW123 := n2_; have GE123 := n3_; clear n0_ n1_ n2_ n3_; clear hb hbox hg; have hcz9_0 : w8.cell? ⟨gb123, 0, none⟩ = some (.int .i64 a2_0) := (blk_cell BK123.out 0).trans rfl; have hcz9_1 : w8.cell? ⟨gb123, 1, none⟩ = some (.slice A2_1 l2_1.length c2_1) := (blk_cell BK123.out 1).trans rfl; have hfz9_0 := blk_frozen BK123.out 0; have hfz9_1 := blk_frozen BK123.out 1) | ((with_reducible refine gate_callee (f := 56) rfl ?_); refine goesL_ (some 17) rfl rfl Try.func56 (by kernel_rfl) rfl #[.agg #[.int .i64 a2_0, .slice A2_1 l2_1.length c2_1]] rfl (by (try simp only [List.map_toArray, List.map_cons, List.map_nil]); (rfl)) ?_; (with_reducible refine (entry_Payload.calls a2_0 _ _ l2_1 t124 t127 _ ?side1 ?side2 A5.out).mono ?_); (case side1 => exact Kd.C_below HR2_1.out HB.out); (case side2 => exact HC2_1.out); rintro e w10 ⟨v125, rfl, ho0, hb⟩; refine ⟨_, rfl, ?_⟩; have n0_ := Aside0.mk (Kd.R_lower ho0 (below_size HB.out)); have n1_ := Aside0.mk (blk_below (g := gb123) (o := .cells #[.int .i64 a2_0, .slice A2_1 l2_1.length c2_1] 35 (0, 0)) (by exact BK123.out) hb); have n2_ := Aside0.mk (below_step HB.out hb); clear BK123; clear HB; have HO126 := n0_; have BK123 := n1_; have HB := n2_; clear n0_ n1_ n2_; (try clear hb); (try clear ho0)) | ((with_reducible refine gate_dst (N := 23) rfl ?_); refine Kd.R_lit (Kd.int .u8) _ 5 ?hg (N := 23) ?hd (xs := ([] : List Int)) (inner := []) (ok := fun _ => True) (okp := fun _ => True) ?hr ?hp (fun _ hk => hk) trivial (Below.refl _ _) (Nat.le_refl _) (by simp) ?_; (case hd => rfl); (case hg => rfl); (case hr => (go_simp; done)); (case hp => exact (Reps.none _ _)); intro v129 w11 ho12 hb hg_ hnew_; clear hg_ hnew_; (rw [← Ny128.out] at ho12); have n0_ := Aside0.mk (Kd.R_elder' (by exact HO126.out) (Kd.R_base ho12) hb); have n1_ := Aside0.mk (Kd.R_lower (Kd.R_new' ho12 (Kd.R_lt (by exact HO126.out))) (below_size HB.out)); have n2_ := Aside0.mk (blk_below (g := gb123) (o := .cells #[.int .i64 a2_0, .slice A2_1 l2_1.length c2_1] 35 (0, 0)) (by exact BK123.out) hb); have n3_ := Aside0.mk (below_step HB.out hb); clear HO126; clear BK123; clear HB; have HO126 := n0_; have HO130 := n1_; have BK123 := n2_; have HB := n3_; clear n0_ n1_ n2_ n3_; clear hb ho12) | ((with_reducible refine gate_builtin (b := .append) (xs := #[.tmp 23, .tmp 24]) rfl ?_); at_builtin; refine Kd.R_append_rows (Kd.int .u8) (w0 := w) w.heap.size rfl (.tmp 23) (.tmp 24) 22 5 (.int .u8 0) 1 rfl Try.underlying22 info5 rfl (by decide) (by omega) v129 y128 l0 _ _ _ (fun k_ => some k_ ≠ (v125 : Value).ownBlock) (fun _ => False) rfl rfl ?aO ?aR (fun _ _ h => h) (fun _ h => h.elim) ?aF ?aB ?aS ?aL ?_; (case aR => exact Kd.C_below HR0.out HB.out); (case aB => exact HB.out); (case aF => exact (fun k_ hk => Kd.fresh' (Kd.R_lt (by exact HO126.out)) k_ hk)); (case aO => exact (by exact Kd.R_mono HO130.out (fun _ hk => hk.2))); (case aS => exact (below_size HB.out)); (case aL => have := LMc7.out; omega); intro v132 w13 ho hb hg hat; rw [← Ny131.out] at ho; have n0_ := Aside0.mk (blk_grown (g := gb123) (o := .cells #[.int .i64 a2_0, .slice A2_1 l2_1.length c2_1] 35 (0, 0)) (by exact BK123.out) hg (Kd.R_ne HO130.out BK123.out (by decide))); have n1_ := Aside0.mk (Kd.R_after (ok := (fun _ => True)) (by exact HO126.out) hg hat); have n2_ := Aside0.mk (hb); have n3_ := Aside0.mk (ho); clear BK123; clear HO126; clear HB; clear HO130; have BK123 := n0_; have HO126 := n1_; have HB := n2_; have HO133 := n3_; clear n0_ n1_ n2_ n3_; clear ho hb hg hat))
  go_loopg [10, 11] k (fun kq v10 v11 w' => ∃ (x10_1 : List Int) (x11_1 : Int), v11 = .int .i64 x11_1 ∧ Aside0 (chain_Message.l0 kq a1 t124 x10_1 x11_1 = some (r1, r2)) ∧ Aside0 (kq ≤ k) ∧ Aside0 (Kd.R (Kd.int .u8) 5 w' w.heap.size (fun k_ => some k_ ≠ (v10 : Value).ownBlock) v125 t124) ∧ Aside0 (Kd.R (Kd.int .u8) 5 w' w.heap.size (fun k_ => some k_ ≠ (v125 : Value).ownBlock) v10 x10_1) ∧ Aside0 (w'.heap[gb123]? = some (.cells #[.int .i64 a2_0, (.slice A2_1 l2_1.length c2_1)] 35 (0, 0))) ∧ Aside0 (Below w.heap.size w w'))
  case atStart => exact ⟨(y131), (56), (by (rfl)), H', ⟨Nat.le_refl _⟩, ⟨by exact Kd.R_mono HO126.out (fun _ hk => hk.2)⟩, ⟨by exact HO133.out⟩, ⟨by exact BK123.out⟩, ⟨HB.out⟩⟩
  clear H'
  try clear c4b0
  try clear c4b1
  try clear c6b0
  try clear c6b1
  try clear hcz9_0
  try clear hcz9_1
  try clear hfz9_0
  try clear hfz9_1
  obtain ⟨x10_1, x11_1, rfl, HA, HK1, HO_8, HO_10, BK123, HB⟩ := hrel
  rcases gk with _ | k1
  · exact absurd HA.out (by simp [chain_Message.l0])
  have H := HA.out
  clear HA
  simp only [chain_Message.l0] at H
  by_cases c14 : x11_1 ≥ 0
  rotate_left
  · rw [if_neg c14] at H
    have c14b0 : decide (0 ≤ x11_1) = false := decide_eq_false c14
    clear c14
    by_cases c19 : x10_1.length + t124.length < 140737488355328
    rotate_left
    · rw [if_neg c19] at H
      exact absurd H (by simp)
    rw [if_pos c19] at H
    have LMc19 := Aside0.mk c19
    clear c19
    obtain ⟨y137, hy137⟩ : ∃ y_ : List Int, y_ = (x10_1 ++ t124) := ⟨_, rfl⟩
    replace H : (some (y137, 0)) = some (r1, r2) := by (rw [hy137]; with_reducible exact H)
    have Ny137 := Aside0.mk hy137
    clear hy137
    simp only [Option.some.injEq, Prod.mk.injEq] at H
    obtain ⟨rfl, rfl⟩ := H
    obtain ⟨Ao21, co21, eo21⟩ := Kd.R_slice HO_8.out
    subst eo21
    go_wp2_with ((((with_reducible refine gate_builtin (b := .append) (xs := #[.tmp 37, .tmp 38]) rfl ?_); at_builtin; refine Kd.R_append_rows (Kd.int .u8) (w0 := w) w.heap.size rfl (.tmp 37) (.tmp 38) 22 5 (.int .u8 0) 1 rfl Try.underlying22 info5 rfl (by decide) (by omega) u10 x10_1 t124 _ _ _ (fun k_ => some k_ ≠ (.slice Ao21 t124.length co21 : Value).ownBlock) (fun _ => False) rfl rfl ?aO ?aR (fun _ _ h => h) (fun _ h => h.elim) ?aF ?aB ?aS ?aL ?_; (case aR => repeat ((exact (Kd.R_reads' HO_8.out).2.2))); (case aB => exact HB.out); (case aF => exact (fun k_ hk => Kd.fresh' (Kd.R_lt (by exact HO_8.out)) k_ hk)); (case aO => exact (by exact HO_10.out)); (case aS => exact (below_size HB.out)); (case aL => have := LMc19.out; omega); intro v138 w20 ho hb hg hat; rw [← Ny137.out] at ho; have n0_ := Aside0.mk (Kd.R_after (ok := (fun _ => True)) (by exact Kd.R_mono HO_8.out (fun _ hk => ⟨trivial, by (exact hk)⟩)) hg hat); have n1_ := Aside0.mk (blk_grown (g := gb123) (o := .cells #[.int .i64 a2_0, .slice A2_1 l2_1.length c2_1] 35 (0, 0)) (by exact BK123.out) hg (Kd.R_ne HO_10.out BK123.out (by decide))); have n2_ := Aside0.mk (hb); have n3_ := Aside0.mk (ho); clear HO_8; clear BK123; clear HB; clear HO_10; have HO_8 := n0_; have BK123 := n1_; have HB := n2_; have HO139 := n3_; clear n0_ n1_ n2_ n3_; clear ho hb hg hat)))
    go_ret2
    exact ⟨_, by (rfl), by exact Kd.R_mono HO139.out (fun _ hk => trivial), HB.out⟩
  rw [if_pos c14] at H
  have c14b0 : decide (0 ≤ x11_1) = true := decide_eq_true c14
  clear c14
  by_cases c15 : 0 ≤ x11_1
  rotate_left
  · rw [if_neg c15] at H
    exact absurd H (by simp)
  rw [if_pos c15] at H
  have c15b0 := eq_true c15
  have c15b1 : decide (0 ≤ x11_1) = true := decide_eq_true c15
  clear c15
  obtain ⟨ji16, hji16⟩ : ∃ j_ : Int, (shr .u64 a1 x11_1) = j_ := ⟨_, rfl⟩
  replace H : (if x10_1.length < 140737488355328 then (chain_Message.l0 k1 a1 t124 (x10_1 ++ [(ji16) % 256]) (wrap64 (x11_1 - 8))) else (none)) = some (r1, r2) := by (rw [hji16] at H; exact H)
  have hji16_ : (a1 / 2 ^ min x11_1.toNat 64) = ji16 := hji16
  have hji16z : x11_1 ≤ 64 → (a1 / 2 ^ x11_1.toNat) = ji16 := shr_small hji16
  by_cases c17 : x10_1.length < 140737488355328
  rotate_left
  · rw [if_neg c17] at H
    exact absurd H (by simp)
  rw [if_pos c17] at H
  have LMc17 := Aside0.mk c17
  clear c17
  obtain ⟨y134, hy134⟩ : ∃ y_ : List Int, y_ = (x10_1 ++ [(ji16) % 256]) := ⟨_, rfl⟩
  replace H : (chain_Message.l0 k1 a1 t124 y134 (wrap64 (x11_1 - 8))) = some (r1, r2) := by (rw [hy134]; with_reducible exact H)
  have Ny134 := Aside0.mk hy134
  clear hy134
  have H' := Aside0.mk H
  clear H
  go_wp2_with ((((with_reducible refine gate_builtin (b := .append) (xs := #[.tmp 30, .tmp 35]) rfl ?_); at_builtin; refine Kd.R_append (Kd.int .u8) (w0 := w) w.heap.size rfl (.tmp 30) (.tmp 35) 22 5 (.int .u8 0) 1 rfl Try.underlying22 info5 rfl (by decide) (by omega) u10 x10_1 ((ji16) % 256) [.int .u8 ((ji16) % 256)] (fun k_ => some k_ ≠ (v125 : Value).ownBlock) (fun _ => False) rfl rfl ?aP (fun _ hk => hk.elim) ?aF ?aO ?aB ?aS ?aL ?_; (case aP => exact rfl); (case aB => exact HB.out); (case aF => exact (fun k_ hk => Kd.fresh' (Kd.R_lt (by exact HO_8.out)) k_ hk)); (case aO => exact (by exact HO_10.out)); (case aS => exact (below_size HB.out)); (case aL => have := LMc17.out; omega); intro v135 w18 ho hb hg hat; rw [← Ny134.out] at ho; have n0_ := Aside0.mk (Kd.R_after (ok := (fun _ => True)) (by exact Kd.R_mono HO_8.out (fun _ hk => ⟨trivial, by (exact hk)⟩)) hg hat); have n1_ := Aside0.mk (blk_grown (g := gb123) (o := .cells #[.int .i64 a2_0, .slice A2_1 l2_1.length c2_1] 35 (0, 0)) (by exact BK123.out) hg (Kd.R_ne HO_10.out BK123.out (by decide))); have n2_ := Aside0.mk (hb); have n3_ := Aside0.mk (ho); clear HO_8; clear BK123; clear HB; clear HO_10; have HO_8 := n0_; have BK123 := n1_; have HB := n2_; have HO136 := n3_; clear n0_ n1_ n2_ n3_; clear ho hb hg hat)))
  go_roundg k1
  case measure => have := HK1.out; omega
  case rel => exact ⟨(y134), (wrap64 (x11_1 - 8)), (by (rfl)), H', ⟨by have := HK1.out; omega⟩, ⟨by exact Kd.R_mono HO_8.out (fun _ hk => hk.2)⟩, ⟨by exact HO136.out⟩, ⟨by exact BK123.out⟩, ⟨HB.out⟩⟩
-- NOT PRINTED: function 36 (journal_Journal_next)

-- NOT PRINTED: function 38 (journal_Journal_take)

-- NOT PRINTED: function 39 (device_Device_Cut)

-- NOT PRINTED: function 10 (journal_Open)

-- NOT PRINTED: function 11 (device_New)

-- NOT PRINTED: function 12 (journal_Journal_Log)

-- NOT PRINTED: function 14 (journal_Journal_Count)

-- NOT PRINTED: function 17 (device_Device_Append)

/-! ### slices_Grow_byte_byte: function 69 (given) -/
theorem slices_Grow_byte_byte.row (W : World) (base : Nat) (cs : Array Value) (G : Nat) (hb : base ≤ W.heap.size) (hG : G ≤ 9223372036854775807) (hs : cs.size = G) :
    Kd.R (Kd.int .u8) 5 (W.alloc (.cells cs 5)) base (fun _ => True) (.slice (some ⟨W.heap.size, 0, none⟩) 0 G) [] := by
  have h := World.ownsRow_lit (base := base) (e := 5) (size := 1) W cs G hb (by simpa [maxLen] using hG) (by simpa using hs)
  have h2 := own_take h (Nat.zero_le _)
  exact Kd.R_of_own (enc := Value.int .u8) (xs := []) (by simpa [encs] using h2) (fun _ _ => trivial)
set_option maxHeartbeats 4000000 in
set_option maxRecDepth 100000 in
theorem slices_Grow_byte_byte.calls (n : Nat) (h1 : 0 < n) (h2 : n < 100000000000000) (w : World) :
    Calls Try.prog 69 #[.slice none 0 0, .int .i64 (n : Int)] w fun e w' => ∃ v, e = .returned v ∧ Kd.R (Kd.int .u8) 5 w' w.heap.size (fun _ => True) v [] ∧ Below w.heap.size w w' := by
  obtain ⟨i0, hi0, hz0, hsz, hby⟩ := info_parts info5
  have hrz : ∀ ty, (Builtin.append_ #[22, 3] ty #[.slice none 0 0, .int .i64 (n : Int)]).run Try.prog w = .ok (.slice (some ⟨w.heap.size, 0, none⟩) n (grownCap w n 0 5)) (w.drew.alloc (.cells (#[] ++ Builtin.zeroCells (Value.int .u8 0).cells n ++ Builtin.zeroCells (Value.int .u8 0).cells (grownCap w n 0 5 - n)) 5)) := fun ty => by
    have h := Lib.run_append_grow_zeros w 22 3 ty 5 i0 (.int .u8 0) .i64 .i64 Try.underlying22 Try.underlying3 hi0 hz0 none 0 0 [] (by exact run_firstCells_none w.drew i0.size 0 0 0) n h1 (by omega) (by omega) (by omega) (by rw [hby]; omega)
      (by rw [Nat.zero_add, hby]; exact growslice_fits (by omega) (by omega))
    simpa using h
  have hGn : n ≤ grownCap w n 0 5 := grownCap_ge w _ _ _
  obtain ⟨G, hG⟩ : ∃ G, G = grownCap w n 0 5 := ⟨_, rfl⟩
  rw [← hG] at hrz hGn
  have hG63 : G ≤ 9223372036854775807 := by
    have := grownCap_le_maxLen w n 0 5 (by unfold maxLen; omega)
    rw [← hG] at this
    unfold maxLen at this
    omega
  clear hi0 hz0 hsz hby hG
  obtain ⟨cs, hcs⟩ : ∃ cs : Array Value, cs = #[] ++ Builtin.zeroCells (Value.int .u8 0).cells n ++ Builtin.zeroCells (Value.int .u8 0).cells (G - n) := ⟨_, rfl⟩
  have HCS : Aside0 (cs.size = G) := ⟨by rw [hcs]; simp [Builtin.zeroCells, Value.cells]; omega⟩
  rw [← hcs] at hrz
  clear hcs
  have hd : decide (0 < (n : Int)) = true := decide_eq_true (by omega)
  have hd2 : decide ((n : Int) < 0) = false := decide_eq_false (by omega)
  go_enter Try.func69, Try.ntmps69
  go_wp2_with (at_builtin; refine Lib.wpList_append_run _ rfl _ _ _ _ rfl _ _ rfl rfl _ _ (hrz _) ?_)
  go_ret
  exact ⟨_, rfl, slices_Grow_byte_byte.row w.drew w.heap.size cs G (Nat.le_refl _) hG63 HCS.out, below_alloc (below_drew (Below.refl _ _)) _⟩

/-! ### slices_Concat_byte_byte: function 58 (given) -/
def slices_Concat_byte_byte.f (ls : List (List Int)) : Option (List Int) := if 0 < ls.flatten.length ∧ ls.flatten.length < 10000000000000 ∧ ls.length < 1000000 then some ls.flatten else none
def slices_Concat_byte_byte.cat (ls : List (List Int)) (i : Nat) : List Int := (ls.take i).flatten
theorem slices_Concat_byte_byte.cat_succ (ls : List (List Int)) (i : Nat) (h : i < ls.length) : slices_Concat_byte_byte.cat ls (i + 1) = slices_Concat_byte_byte.cat ls i ++ ls.getD i [] := by
  unfold slices_Concat_byte_byte.cat
  rw [List.take_succ_eq_append_getElem h, List.flatten_append, List.getD_eq_getElem?_getD, List.getElem?_eq_getElem h]
  simp
theorem slices_Concat_byte_byte.cat_all (ls : List (List Int)) : slices_Concat_byte_byte.cat ls ls.length = ls.flatten := by
  unfold slices_Concat_byte_byte.cat
  rw [List.take_length]
theorem slices_Concat_byte_byte.cat_le (ls : List (List Int)) (i : Nat) : (slices_Concat_byte_byte.cat ls i).length ≤ ls.flatten.length := by
  unfold slices_Concat_byte_byte.cat
  have : ls.flatten = (ls.take i).flatten ++ (ls.drop i).flatten := by rw [← List.flatten_append, List.take_append_drop]
  rw [this, List.length_append]
  omega
theorem slices_Concat_byte_byte.elem {w : World} {A : Option Addr} {ls : List (List Int)} (h : Kd.C (Kd.slice 5 (Kd.int .u8)) w A ls.length ls) (i : Nat) (hi : i < ls.length) :
    ∃ ad Ai ci, A = some ad ∧ w.cell? (ad.add i) = some (.slice Ai (ls.getD i []).length ci) ∧ (ls.getD i []).length ≤ ci ∧ Kd.C (Kd.int .u8) w Ai (ls.getD i []).length (ls.getD i []) := by
  obtain ⟨ad, c, e, _, ⟨Ai, ci, rfl, hl, hg⟩, hc⟩ := Kd.C_get h [] (i : Int) (by omega) (by omega)
  refine ⟨ad, Ai, ci, e, ?_, hl, hg⟩
  have := hc 0 _ rfl
  simpa [Kd.slice] using this
set_option maxHeartbeats 8000000 in
set_option maxRecDepth 100000 in
theorem slices_Concat_byte_byte.calls (A0 : Option Addr) (c0 : Nat) (l0 : List (List Int)) (r : List Int) (w : World) (hr0 : Kd.C (Kd.slice 5 (Kd.int .u8)) w A0 l0.length l0) (hc0 : l0.length ≤ c0) (h : slices_Concat_byte_byte.f l0 = some r) :
    Calls Try.prog 58 #[.slice A0 l0.length c0] w fun e w' => ∃ v0_ : Value, e = .returned (v0_) ∧ Kd.R (Kd.int .u8) 5 w' w.heap.size (fun _ => True) v0_ r ∧ Below w.heap.size w w' := by
  unfold slices_Concat_byte_byte.f at h
  by_cases hl : 0 < l0.flatten.length ∧ l0.flatten.length < 10000000000000 ∧ l0.length < 1000000
  case neg => rw [if_neg hl] at h; exact absurd h (by simp)
  rw [if_pos hl] at h
  obtain rfl := Option.some.inj h
  obtain ⟨hl0, hl1, hl2⟩ := hl
  have HR := Aside0.mk hr0
  have HS := Aside0.mk (slices_Concat_byte_byte.cat_succ l0)
  have HA := Aside0.mk (slices_Concat_byte_byte.cat_all l0)
  have HLE := Aside0.mk (slices_Concat_byte_byte.cat_le l0)
  have h0 : 0 < l0.length := by
    rcases l0 with _ | ⟨x, l⟩
    · simp at hl0
    · simp
  obtain ⟨ad, _, _, rfl, _⟩ := slices_Concat_byte_byte.elem hr0 0 h0
  have HT := Aside0.mk (And.intro hl0 hl1)
  obtain ⟨tot, htot⟩ : ∃ tot, tot = l0.flatten := ⟨_, rfl⟩
  rw [← htot] at HA HLE HT ⊢
  clear hr0 hc0 h hl0 hl1 htot
  go_enter Try.func58, Try.ntmps58
  go_wp2
  go_loopg [3, 11] l0.length (fun q v3 v11 w' => ∃ j : Nat, v11 = .int .i64 (j : Int) ∧ v3 = .int .i64 ((slices_Concat_byte_byte.cat l0 j).length : Int) ∧ j + q = l0.length ∧ w' = w)
  case atStart => exact ⟨0, by go_num, by go_num, by omega, rfl⟩
  case round =>
    obtain ⟨j, rfl, rfl, hjq, rfl⟩ := hrel
    have hjle := HLE.out j
    cases gk with
    | zero =>
      obtain rfl : j = l0.length := by omega
      have hd : decide ((l0.length : Int) < (l0.length : Int)) = false := by simp
      rw [HA.out]
      clear hjle hjq hd
      have hd : decide ((l0.length : Int) < (l0.length : Int)) = false := by simp
      go_wp2_with (go_at_call 69; (with_reducible refine (slices_Grow_byte_byte.calls tot.length HT.out.1 (by have := HT.out.2; omega) _).mono ?_); rintro e w1 ⟨v1, rfl, ho1, hb1⟩; have HO1 := Aside0.mk ho1; have HB1 := Aside0.mk hb1; clear ho1 hb1)
      obtain ⟨wo, rfl⟩ : ∃ wo : World, wo = wr := ⟨_, rfl⟩
      go_loopg [6, 27] l0.length (fun q v6 v27 w' => ∃ (j : Nat) (A6 : Option Addr) (c6 : Nat), v27 = .int .i64 (j : Int) ∧ v6 = .slice A6 (slices_Concat_byte_byte.cat l0 j).length c6 ∧ j + q = l0.length ∧ Aside0 (Kd.R (Kd.int .u8) 5 w' wo.heap.size (fun _ => True) (.slice A6 (slices_Concat_byte_byte.cat l0 j).length c6) (slices_Concat_byte_byte.cat l0 j)) ∧ Aside0 (Below wo.heap.size wo w'))
      case atStart =>
        obtain ⟨A1, c1, e1⟩ := Kd.R_slice HO1.out
        exact ⟨0, A1, c1, by go_num, e1, by omega, ⟨by have := HO1.out; rw [e1] at this; exact this⟩, HB1⟩
      case round =>
        clear HO1 HB1
        obtain ⟨j, A6, c6, rfl, rfl, hjq, HO, HB⟩ := hrel
        have hjle := HLE.out j
        cases gk with
        | zero =>
          obtain rfl : j = l0.length := by omega
          go_wp2
          go_ret
          exact ⟨_, rfl, by have := HO.out; rw [HA.out] at this ⊢; exact this, HB.out⟩
        | succ q =>
          have hj : (j : Int) < (l0.length : Int) := by omega
          have hj2 : j < l0.length := by omega
          have hdj : decide ((j : Int) < (l0.length : Int)) = true := decide_eq_true hj
          obtain ⟨ad', Ai, ci, hA, e0, hci, hg⟩ := slices_Concat_byte_byte.elem HR.out j hj2
          obtain rfl := Option.some.inj hA
          have e1 := pw_cell_below HB.out e0
          have HG := Aside0.mk (Kd.C_below hg HB.out)
          have hsucc := HS.out j hj2
          have hjle2 := HLE.out (j + 1)
          have hT := HT.out.2
          have hbd : (slices_Concat_byte_byte.cat l0 j).length + (l0.getD j []).length ≤ tot.length := by
            have := congrArg List.length hsucc
            rw [List.length_append] at this
            omega
          have HBD : Aside0 (((slices_Concat_byte_byte.cat l0 j).length + (l0.getD j []).length) * 1 ≤ 140737488355328) := ⟨by omega⟩
          have HSU := Aside0.mk hsucc
          clear hsucc hjle2 hA hd hci hg e0 hjle hbd
          generalize slices_Concat_byte_byte.cat l0 j = cj at *
          generalize l0.getD j [] = x at *
          have hw2 : IntKind.i64.wrap ((j : Int) + 1) = (j : Int) + 1 := IntWalk.i64_in _ (by omega)
          go_wp2_with ((with_reducible refine gate_builtin (b := .append) (xs := #[.tmp 31, .tmp 32]) rfl ?_); at_builtin; refine Kd.R_append_rows (Kd.int .u8) (w0 := wo) wo.heap.size rfl (.tmp 31) (.tmp 32) 22 5 (.int .u8 0) 1 rfl Try.underlying22 info5 rfl (by decide) (by omega) (.slice A6 cj.length c6) cj x _ _ _ (fun _ => True) (fun _ => False) rfl rfl HO.out HG.out (fun _ _ h => h) (fun _ h => h.elim) (fun _ _ => trivial) HB.out HB.out.size HBD.out ?_; intro v7 w7 ho7 hb7 hg7 hat7; obtain ⟨A7, c7, rfl⟩ := Kd.R_slice ho7; have HO7 := Aside0.mk ho7; have HB7 := Aside0.mk hb7; clear ho7 hb7 hg7 hat7)
          go_roundg q
          case measure => omega
          case rel => exact ⟨j + 1, A7, c7, by go_num, by rw [HSU.out]; (simp), by omega, by rw [HSU.out]; exact HO7, HB7⟩
    | succ q =>
      have hj : (j : Int) < (l0.length : Int) := by omega
      have hj2 : j < l0.length := by omega
      have hd : decide ((j : Int) < (l0.length : Int)) = true := decide_eq_true hj
      obtain ⟨ad', Ai, ci, hA, e0, hci, hg⟩ := slices_Concat_byte_byte.elem HR.out j hj2
      obtain rfl := Option.some.inj hA
      have hsucc := HS.out j hj2
      have hjle2 := HLE.out (j + 1)
      have hsl : (slices_Concat_byte_byte.cat l0 (j + 1)).length = (slices_Concat_byte_byte.cat l0 j).length + (l0.getD j []).length := by rw [hsucc, List.length_append]
      have hT := HT.out.2
      have hbd : (slices_Concat_byte_byte.cat l0 j).length + (l0.getD j []).length ≤ tot.length := by omega
      have HSL := Aside0.mk hsl
      clear hsucc hsl hjle2
      generalize slices_Concat_byte_byte.cat l0 j = cj at *
      generalize l0.getD j [] = x at *
      have hw1 : IntKind.i64.wrap ((cj.length : Int) + (x.length : Int)) = (cj.length : Int) + (x.length : Int) := IntWalk.i64_in _ (by omega)
      have hw2 : IntKind.i64.wrap ((j : Int) + 1) = (j : Int) + 1 := IntWalk.i64_in _ (by omega)
      have hneg : decide ((cj.length : Int) + (x.length : Int) < 0) = false := decide_eq_false (by omega)
      clear hg hci hjle
      go_wp2
      go_roundg q
      case measure => omega
      case rel => exact ⟨j + 1, by go_num, by rw [HSL.out]; go_num, by omega, rfl⟩

/-! ### entry_Frame: function 41 (given) -/
def entry_Frame.f (a0 : Int) (l0 l1 : List Int) : Option (List Int × Int) :=
  (entry_Payload.f a0 l0).bind fun p => if p.2 = 0 then (if l1.length = 32 then (if p.1.length < 100000 then some (entry_length.bytes (p.1.length : Int) ++ p.1 ++ l1, 0) else none) else some ([], 2)) else some ([], p.2)
theorem entry_Frame.blk_C {W : World} {g : Nat} {T : TypeId} {l : List Int} (h : W.heap[g]? = some (.cells (nums .u8 l).toArray T (0, 0))) (hl : l.length ≤ 1000) : Kd.C (Kd.int .u8) W (some ⟨g, 0, none⟩) l.length l := by
  refine Kd.C_of_reads (d := (0 : Int)) (h1 := fun _ => rfl) ⟨rfl, by omega, fun _ => ⟨_, rfl, fun j hj => ?_⟩⟩
  rw [add_plain, blk_cell h]
  simp [nums, List.getElem?_eq_getElem hj, List.getD_eq_getElem?_getD]
theorem entry_Frame.lit3 {W : World} {g : Nat} {T : TypeId} {A0 A1 A2 : Option Addr} {c0 c1 c2 : Nat} {l0 l1 l2 : List Int} (h : W.heap[g]? = some (.cells #[.slice A0 l0.length c0, .slice A1 l1.length c1, .slice A2 l2.length c2] T (0, 0)))
    (h0 : Kd.C (Kd.int .u8) W A0 l0.length l0) (h1 : Kd.C (Kd.int .u8) W A1 l1.length l1) (h2 : Kd.C (Kd.int .u8) W A2 l2.length l2) (k0 : l0.length ≤ c0) (k1 : l1.length ≤ c1) (k2 : l2.length ≤ c2) :
    Kd.C (Kd.slice 5 (Kd.int .u8)) W (some ⟨g, 0, none⟩) [l0, l1, l2].length [l0, l1, l2] := by
  refine ⟨rfl, by simp, fun _ => ⟨_, rfl, fun j p hj => ?_⟩⟩
  match j, hj with
  | 0, hj =>
    obtain rfl : l0 = p := by simpa using hj
    exact ⟨_, rfl, ⟨A0, c0, rfl, k0, h0⟩, fun i u hu => by
      match i, hu with
      | 0, hu =>
        obtain rfl : Value.slice A0 l0.length c0 = u := by simpa using hu
        rw [add_plain, blk_cell h]; rfl⟩
  | 1, hj =>
    obtain rfl : l1 = p := by simpa using hj
    exact ⟨_, rfl, ⟨A1, c1, rfl, k1, h1⟩, fun i u hu => by
      match i, hu with
      | 0, hu =>
        obtain rfl : Value.slice A1 l1.length c1 = u := by simpa using hu
        rw [add_plain, blk_cell h]; rfl⟩
  | 2, hj =>
    obtain rfl : l2 = p := by simpa using hj
    exact ⟨_, rfl, ⟨A2, c2, rfl, k2, h2⟩, fun i u hu => by
      match i, hu with
      | 0, hu =>
        obtain rfl : Value.slice A2 l2.length c2 = u := by simpa using hu
        rw [add_plain, blk_cell h]; rfl⟩
theorem entry_length.lit (n : Nat) (hn : n < 100000) (w : World) :
    Calls Try.prog 57 #[.int .i64 (n : Int)] w fun e w' => e = .returned (.agg #[.int .u8 ((n : Int) / 16777216), .int .u8 ((n : Int) / 65536), .int .u8 ((n : Int) / 256 % 256), .int .u8 ((n : Int) % 256)]) ∧ Below w.heap.size w w' := entry_length.calls n hn w
theorem entry_Frame.cat (w2 : World) (T T' : TypeId) (n : Int) (A2 : Option Addr) (c2 : Nat) (p : List Int) (A1 : Option Addr) (c1 : Nat) (l1 r : List Int) (hp : Kd.C (Kd.int .u8) w2 A2 p.length p) (hcp : p.length ≤ c2) (hl : Kd.C (Kd.int .u8) w2 A1 l1.length l1) (hcl : l1.length ≤ c1) (h : slices_Concat_byte_byte.f [entry_length.bytes n, p, l1] = some r) :
    Calls Try.prog 58 #[.slice (some ⟨w2.heap.size + 1, 0, none⟩) 3 3] ((w2.alloc (.cells #[.int .u8 (n / 16777216), .int .u8 (n / 65536), .int .u8 (n / 256 % 256), .int .u8 (n % 256)] T)).alloc (.cells #[.slice (some ⟨w2.heap.size, 0, none⟩) 4 4, .slice A2 p.length c2, .slice A1 l1.length c1] T'))
      fun e w' => ∃ v0_ : Value, e = .returned (v0_) ∧ Kd.R (Kd.int .u8) 5 w' w2.heap.size (fun _ => True) v0_ r ∧ Below w2.heap.size w2 w' := by
  have hb := blk_new w2 (.cells #[.int .u8 (n / 16777216), .int .u8 (n / 65536), .int .u8 (n / 256 % 256), .int .u8 (n % 256)] T)
  have h1 : Kd.C (Kd.int .u8) (w2.alloc (.cells #[.int .u8 (n / 16777216), .int .u8 (n / 65536), .int .u8 (n / 256 % 256), .int .u8 (n % 256)] T)) (some ⟨w2.heap.size, 0, none⟩) (entry_length.bytes n).length (entry_length.bytes n) := entry_Frame.blk_C hb (by simp [entry_length.bytes])
  have h2 := blk_new (w2.alloc (.cells #[.int .u8 (n / 16777216), .int .u8 (n / 65536), .int .u8 (n / 256 % 256), .int .u8 (n % 256)] T)) (.cells #[.slice (some ⟨w2.heap.size, 0, none⟩) 4 4, .slice A2 p.length c2, .slice A1 l1.length c1] T')
  rw [show (w2.alloc (.cells #[.int .u8 (n / 16777216), .int .u8 (n / 65536), .int .u8 (n / 256 % 256), .int .u8 (n % 256)] T)).heap.size = w2.heap.size + 1 by simp] at h2
  have h3 := entry_Frame.lit3 (l0 := entry_length.bytes n) (c0 := 4) h2 (Kd.C_alloc h1 _) (Kd.C_alloc (Kd.C_alloc hp _) _) (Kd.C_alloc (Kd.C_alloc hl _) _) (by simp [entry_length.bytes]) hcp hcl
  refine (slices_Concat_byte_byte.calls (some ⟨w2.heap.size + 1, 0, none⟩) 3 [entry_length.bytes n, p, l1] r _ h3 (by simp) h).mono ?_
  rintro e w' ⟨v, rfl, ho, hbb⟩
  exact ⟨v, rfl, Kd.R_lower ho (by simp; omega), below_step (below_alloc (below_alloc (Below.refl _ _) _) _) hbb⟩
set_option maxHeartbeats 8000000 in
set_option maxRecDepth 100000 in
theorem entry_Frame.calls (a0_0 : Int) (A0_1 : Option Addr) (c0_1 : Nat) (l0_1 : List Int) (A1 : Option Addr) (c1 : Nat) (l1 : List Int) (r1 : List Int) (r2 : Int) (w : World) (hr0_1 : Kd.C (Kd.int .u8) w A0_1 l0_1.length l0_1) (hc0_1 : l0_1.length ≤ c0_1) (hr1 : Kd.C (Kd.int .u8) w A1 l1.length l1) (hc1 : l1.length ≤ c1) (h : entry_Frame.f a0_0 l0_1 l1 = some (r1, r2)) :
    Calls Try.prog 41 #[.agg #[.int .i64 a0_0, .slice A0_1 l0_1.length c0_1], .slice A1 l1.length c1] w fun e w' => ∃ v0_ : Value, e = .returned (.tuple #[v0_, .int .i64 r2]) ∧ Kd.R (Kd.int .u8) 5 w' w.heap.size (fun _ => True) v0_ r1 ∧ Below w.heap.size w w' := by
  have HR0 := Aside0.mk hr0_1
  have HC0 := Aside0.mk hc0_1
  have HR1 := Aside0.mk hr1
  have HC1 := Aside0.mk hc1
  unfold entry_Frame.f at h
  obtain ⟨⟨p, x⟩, hp, h2⟩ := Option.bind_eq_some_iff.mp h
  have HP := Aside0.mk hp
  clear hr0_1 hc0_1 hr1 hc1 h hp
  simp only at h2
  by_cases hx : x = 0
  · subst hx
    rw [if_pos rfl] at h2
    by_cases hl : l1.length = 32
    · rw [if_pos hl] at h2
      by_cases hpl : p.length < 100000
      case neg => rw [if_neg hpl] at h2; exact absurd h2 (by simp)
      rw [if_pos hpl] at h2
      simp only [Option.some.injEq, Prod.mk.injEq] at h2
      obtain ⟨hr, rfl⟩ := h2
      have hb : ((l1.length : Int) != 32) = false := by rw [hl]; rfl
      have hb2 : (l1.length != 32) = false := by rw [hl]; rfl
      have HPL := Aside0.mk hpl
      have HCAT : Aside0 (slices_Concat_byte_byte.f [entry_length.bytes (p.length : Int), p, l1] = some r1) := ⟨by
        unfold slices_Concat_byte_byte.f
        rw [if_pos (by simp [entry_length.bytes]; omega), ← hr]
        simp⟩
      clear hr hpl hl
      go_enter Try.func41, Try.ntmps41
      go_wp2_with (first | (go_at_call 56; (with_reducible refine (entry_Payload.calls a0_0 A0_1 c0_1 l0_1 p 0 _ (Kd.C_alloc HR0.out _) HC0.out HP.out).mono ?_); rintro e w1 ⟨v1, rfl, ho1, hb1⟩; (obtain ⟨A2, c2, rfl⟩ := Kd.R_slice ho1); (have HO1 := Aside0.mk (Kd.R_reads' ho1)); (have HB1 : Aside0 (Below w.heap.size w w1) := ⟨below_step (below_alloc (Below.refl _ _) _) hb1⟩); clear ho1 hb1) | (go_at_call 57; (with_reducible refine (entry_length.lit p.length HPL.out _).mono ?_); rintro e w2 ⟨rfl, hb2⟩; (have HB2 : Aside0 (Below w.heap.size w w2) := ⟨below_step HB1.out hb2⟩); (have HO2 : Aside0 (Kd.C (Kd.int .u8) w2 A2 p.length p) := ⟨Kd.C_below HO1.out.2.2 hb2⟩); clear hb2) | (go_at_call 58; (with_reducible refine (entry_Frame.cat w2 _ _ (p.length : Int) A2 c2 p A1 c1 l1 r1 HO2.out HO1.out.2.1 (Kd.C_below HR1.out HB2.out) HC1.out HCAT.out).mono ?_); rintro e w3 ⟨v3, rfl, ho3, hb3⟩; (have HO3 : Aside0 (Kd.R (Kd.int .u8) 5 w3 w.heap.size (fun _ => True) v3 r1) := ⟨Kd.R_lower ho3 HB2.out.size⟩); (have HB3 : Aside0 (Below w.heap.size w w3) := ⟨below_step HB2.out hb3⟩); clear ho3 hb3))
      go_ret2
      exact ⟨_, rfl, HO3.out, HB3.out⟩
    · rw [if_neg hl] at h2
      simp only [Option.some.injEq, Prod.mk.injEq] at h2
      obtain ⟨rfl, rfl⟩ := h2
      have hb : ((l1.length : Int) != 32) = true := by simp; omega
      have hb2 : (l1.length != 32) = true := by simp; omega
      clear hl
      go_enter Try.func41, Try.ntmps41
      go_wp2_with (((go_at_call 56; (with_reducible refine (entry_Payload.calls a0_0 A0_1 c0_1 l0_1 p 0 _ (Kd.C_alloc HR0.out _) HC0.out HP.out).mono ?_); rintro e w1 ⟨v1, rfl, ho1, hb1⟩; (obtain ⟨A2, c2, rfl⟩ := Kd.R_slice ho1); (have HB1 : Aside0 (Below w.heap.size w w1) := ⟨below_step (below_alloc (Below.refl _ _) _) hb1⟩); clear ho1 hb1)))
      go_ret2
      exact ⟨_, rfl, Kd.R_nil _ _ _ _ _, HB1.out⟩
  · rw [if_neg hx] at h2
    simp only [Option.some.injEq, Prod.mk.injEq] at h2
    obtain ⟨rfl, rfl⟩ := h2
    have hb : (x != 0) = true := by simpa using hx
    clear hx
    go_enter Try.func41, Try.ntmps41
    go_wp2_with (((go_at_call 56; (with_reducible refine (entry_Payload.calls a0_0 A0_1 c0_1 l0_1 p x _ (Kd.C_alloc HR0.out _) HC0.out HP.out).mono ?_); rintro e w1 ⟨v1, rfl, ho1, hb1⟩; (obtain ⟨A2, c2, rfl⟩ := Kd.R_slice ho1); (have HB1 : Aside0 (Below w.heap.size w w1) := ⟨below_step (below_alloc (Below.refl _ _) _) hb1⟩); clear ho1 hb1)))
    go_ret2
    exact ⟨_, rfl, Kd.R_nil _ _ _ _ _, HB1.out⟩

-- NOT PRINTED: function 15 (journal_Journal_Append)

-- NOT PRINTED: function 9 (notarylaw49_awake)

-- NOT PRINTED: function 13 (journal_Journal_Tag)

end Go.Proofs.Ytogjnipojakfjaa.PJv
