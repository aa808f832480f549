-- SLIM: a printed text of which the unused ways are cut off
-- PRINTED by print.py (a twelfth state) out of the translation. Not trusted: Lean checks it.
import Derived.Test.YtnkkgeglnmggpaaPCrx0
import Derived.Test.YtnkkgeglnmggpaaPCrx3
import Derived.Test.YtnkkgeglnmggpaaPCrx4
namespace Go.Proofs.Ytnkkgeglnmggpaa.PCr
open Go.RowKit Go.Proofs.YtnkkgeglnmggpaaW.PrintWords Go.Proofs.YtnkkgeglnmggpaaW.PrintLast Go.Proofs.YtnkkgeglnmggpaaW.PrintMore
attribute [local go_sem] max2_int min2_int max_two min_two max_three min_three max_four min_four
set_option linter.unusedVariables false
set_option linter.unusedSimpArgs false

/-! ### entry_Read: function 44 (given) -/
def entry_Read.n (l : List Int) (i : Nat) : Int := entry_number.of (rd l (i : Int)) (rd l ((i + 1 : Nat) : Int)) (rd l ((i + 2 : Nat) : Int)) (rd l ((i + 3 : Nat) : Int))
def entry_Read.byt (x : Int) : Prop := 0 ≤ x ∧ x < 256
instance (x : Int) : Decidable (entry_Read.byt x) := by unfold entry_Read.byt; exact inferInstance
/-- behind the first tests: there are four bytes -/
def entry_Read.g (l : List Int) (i : Nat) : Option (Int × List Int × List Int × Int × Int) :=
  if entry_Read.byt (rd l (i : Int)) ∧ entry_Read.byt (rd l ((i + 1 : Nat) : Int)) ∧ entry_Read.byt (rd l ((i + 2 : Nat) : Int)) ∧ entry_Read.byt (rd l ((i + 3 : Nat) : Int)) then
    (if entry_Read.n l i = 0 then some (0, [], [], 0, 2)
    else if 1025 < entry_Read.n l i then some (0, [], [], 0, 3)
    else if (l.length : Int) - i - 4 < entry_Read.n l i + 32 then some (0, [], [], 0, 1)
    else if entry_Read.byt (rd l ((i + 4 : Nat) : Int)) then
      (if 1 ≤ rd l ((i + 4 : Nat) : Int) ∧ rd l ((i + 4 : Nat) : Int) ≤ 3 then
        some (rd l ((i + 4 : Nat) : Int), (l.take (i + 4 + (entry_Read.n l i).toNat)).drop (i + 5), (l.take (i + 4 + (entry_Read.n l i).toNat + 32)).drop (i + 4 + (entry_Read.n l i).toNat), (i : Int) + 4 + entry_Read.n l i + 32, 0)
      else some (0, [], [], 0, 23))
    else none)
  else none
def entry_Read.f (l : List Int) (a : Int) : Option (Int × List Int × List Int × Int × Int) :=
  if l.length < 140737488355328 then
    (if a < 0 ∨ (l.length : Int) < a then some (0, [], [], 0, 13)
    else if (l.length : Int) - a < 4 then some (0, [], [], 0, 1)
    else entry_Read.g l a.toNat)
  else none
set_option maxHeartbeats 8000000 in
set_option maxRecDepth 100000 in
theorem entry_Read.calls (A0 : Option Addr) (c0 : Nat) (l0 : List Int) (a1 : Int) (r1 : Int) (r2 : List Int) (r3 : List Int) (r4 : Int) (r5 : Int) (w : World) (hr0 : Kd.C (Kd.int .u8) w A0 l0.length l0) (hc0 : l0.length ≤ c0) (h : entry_Read.f l0 a1 = some (r1, r2, r3, r4, r5)) :
    Calls Try.prog 44 #[.slice A0 l0.length c0, .int .i64 a1] w fun e w' => ∃ v1_ v2_ : Value, e = .returned (.tuple #[.agg #[.int .i64 r1, v1_], v2_, .int .i64 r4, .int .i64 r5]) ∧ Kd.R (Kd.int .u8) 5 w' w.heap.size (fun k_ => some k_ ≠ (v2_ : Value).ownBlock) v1_ r2 ∧ Kd.R (Kd.int .u8) 5 w' w.heap.size (fun k_ => some k_ ≠ (v1_ : Value).ownBlock) v2_ r3 ∧ Below w.heap.size w w' := by
  unfold entry_Read.f at h
  by_cases hlen : l0.length < 140737488355328
  case neg => rw [if_neg hlen] at h; exact absurd h (by simp)
  rw [if_pos hlen] at h
  have hu := Try.underlying42
  have HR := Aside0.mk hr0
  have HC := Aside0.mk hc0
  clear hr0 hc0
  have fin0 : ∀ (W : World) (x : Int), Below w.heap.size w W → ∃ v1_ v2_ : Value, Ending.returned (.tuple #[.agg #[.int .i64 0, .slice none 0 0], .slice none 0 0, .int .i64 0, .int .i64 x]) = .returned (.tuple #[.agg #[.int .i64 0, v1_], v2_, .int .i64 0, .int .i64 x]) ∧ Kd.R (Kd.int .u8) 5 W w.heap.size (fun k_ => some k_ ≠ (v2_ : Value).ownBlock) v1_ [] ∧ Kd.R (Kd.int .u8) 5 W w.heap.size (fun k_ => some k_ ≠ (v1_ : Value).ownBlock) v2_ [] ∧ Below w.heap.size w W := fun W x hb => ⟨_, _, rfl, Kd.R_nil _ _ _ _ _, Kd.R_nil _ _ _ _ _, hb⟩
  have FIN0 := Aside0.mk fin0
  clear fin0
  by_cases hneg : a1 < 0
  · rw [if_pos (.inl hneg)] at h
    simp only [Option.some.injEq, Prod.mk.injEq] at h
    obtain ⟨rfl, rfl, rfl, rfl, rfl⟩ := h
    have hd : decide (a1 < 0) = true := decide_eq_true hneg
    clear hneg
    go_enter Try.func44, Try.ntmps44
    go_wp2
    refine bodyPost_ret (results_list (rs := [.cell 4 42, .tmp 5, .tmp 6, .tmp 7]) rfl (by simp) (.cell _ 42 _ (0, 0) _ rfl (blk_new _ _) Try.underlying42 rfl (by kernel_rfl) (.tmp (.tmp (.tmp .nil))))) rfl ?_
    exact FIN0.out _ _ (below_alloc (Below.refl _ _) _)
  by_cases hgt : (l0.length : Int) < a1
  · rw [if_pos (.inr hgt)] at h
    simp only [Option.some.injEq, Prod.mk.injEq] at h
    obtain ⟨rfl, rfl, rfl, rfl, rfl⟩ := h
    have hd : decide (a1 < 0) = false := decide_eq_false hneg
    have hd2 : decide ((l0.length : Int) < a1) = true := decide_eq_true hgt
    clear hneg hgt
    go_enter Try.func44, Try.ntmps44
    go_wp2
    refine bodyPost_ret (results_list (rs := [.cell 4 42, .tmp 5, .tmp 6, .tmp 7]) rfl (by simp) (.cell _ 42 _ (0, 0) _ rfl (blk_new _ _) Try.underlying42 rfl (by kernel_rfl) (.tmp (.tmp (.tmp .nil))))) rfl ?_
    exact FIN0.out _ _ (below_alloc (Below.refl _ _) _)
  rw [if_neg (fun hh => hh.elim hneg hgt)] at h
  obtain ⟨i, rfl⟩ : ∃ i : Nat, a1 = (i : Int) := ⟨a1.toNat, by omega⟩
  have hi : i ≤ l0.length := by omega
  have hd : decide ((i : Int) < 0) = false := decide_eq_false hneg
  have hd2 : decide ((l0.length : Int) < (i : Int)) = false := decide_eq_false hgt
  have hw1 : IntKind.i64.wrap ((l0.length : Int) - (i : Int)) = (l0.length : Int) - (i : Int) := IntWalk.i64_in _ (by omega)
  clear hneg hgt
  by_cases hsh : (l0.length : Int) - i < 4
  · rw [if_pos hsh] at h
    simp only [Option.some.injEq, Prod.mk.injEq] at h
    obtain ⟨rfl, rfl, rfl, rfl, rfl⟩ := h
    have hd3 : decide ((l0.length : Int) - (i : Int) < 4) = true := decide_eq_true hsh
    clear hsh
    go_enter Try.func44, Try.ntmps44
    go_wp2
    refine bodyPost_ret (results_list (rs := [.cell 4 42, .tmp 5, .tmp 6, .tmp 7]) rfl (by simp) (.cell _ 42 _ (0, 0) _ rfl (blk_new _ _) Try.underlying42 rfl (by kernel_rfl) (.tmp (.tmp (.tmp .nil))))) rfl ?_
    exact FIN0.out _ _ (below_alloc (Below.refl _ _) _)
  rw [if_neg hsh] at h
  simp only [Int.toNat_natCast] at h
  unfold entry_Read.g at h
  have hd3 : decide ((l0.length : Int) - (i : Int) < 4) = false := decide_eq_false hsh
  by_cases hby : entry_Read.byt (rd l0 (i : Int)) ∧ entry_Read.byt (rd l0 ((i + 1 : Nat) : Int)) ∧ entry_Read.byt (rd l0 ((i + 2 : Nat) : Int)) ∧ entry_Read.byt (rd l0 ((i + 3 : Nat) : Int))
  case neg => rw [if_neg hby] at h; exact absurd h (by simp)
  rw [if_pos hby] at h
  have HBY := Aside0.mk hby
  have hw4 : IntKind.i64.wrap ((i : Int) + 4) = (i : Int) + 4 := IntWalk.i64_in _ (by omega)
  obtain ⟨i0, hi0, _, hsz0, _⟩ := info_parts info5
  obtain ⟨A', hcut, hrd, hle⟩ := print_mid_of (P := Try.prog) (Value.int .u8) 0 22 5 .i64 .i64 Try.underlying22 hi0 hsz0 A0 c0 l0 (i : Int) ((i : Int) + 4) (by omega) (by omega) (by omega) HC.out
  have hl4 : ((l0.take ((i : Int) + 4).toNat).drop (i : Int).toNat).length = 4 := by rw [List.length_drop, List.length_take]; omega
  have hreads := hrd w (Kd.reads_of_C HR.out)
  rw [hl4] at hcut hreads hle
  obtain ⟨ad, rfl, hcells⟩ := hreads.2.2 (by omega)
  have cell : ∀ j, j < 4 → w.cell? (ad.add j) = some (.int .u8 (rd l0 ((i + j : Nat) : Int))) := fun j hj => by
    rw [hcells j hj]
    congr 2
    unfold rd
    rw [Int.toNat_natCast, List.getD_eq_getElem?_getD, List.getD_eq_getElem?_getD, List.getElem?_drop, List.getElem?_take_of_lt (by omega), Int.toNat_natCast]
  have q0 : w.cell? ad = some (.int .u8 (rd l0 (i : Int))) := by have := cell 0 (by omega); simpa [Addr.add] using this
  have q1 : w.cell? ⟨ad.block, ad.off + 1, none⟩ = some (.int .u8 (rd l0 ((i + 1 : Nat) : Int))) := by have := cell 1 (by omega); simpa [Addr.add] using this
  have q2 : w.cell? ⟨ad.block, ad.off + 2, none⟩ = some (.int .u8 (rd l0 ((i + 2 : Nat) : Int))) := by have := cell 2 (by omega); simpa [Addr.add] using this
  have q3 : w.cell? ⟨ad.block, ad.off + 3, none⟩ = some (.int .u8 (rd l0 ((i + 3 : Nat) : Int))) := by have := cell 3 (by omega); simpa [Addr.add] using this
  have HNUM := Aside0.mk (entry_number.calls _ _ _ _ hby.1 hby.2.1 hby.2.2.1 hby.2.2.2)
  obtain ⟨n, hn⟩ : ∃ n, n = entry_Read.n l0 i := ⟨_, rfl⟩
  rw [show entry_number.of (rd l0 (i : Int)) (rd l0 ((i + 1 : Nat) : Int)) (rd l0 ((i + 2 : Nat) : Int)) (rd l0 ((i + 3 : Nat) : Int)) = n from hn.symm] at HNUM
  rw [← hn] at h
  have hn0 : 0 ≤ n ∧ n < 4294967296 := by
    obtain ⟨⟨a1, a2⟩, ⟨b1, b2⟩, ⟨c1, c2⟩, d1, d2⟩ := hby
    rw [hn]
    unfold entry_Read.n entry_number.of
    omega
  obtain ⟨hn1, hn2⟩ := hn0
  clear hn hby hcells cell hreads hrd hi0 hsz0 hl4 hle
  generalize rd l0 (i : Int) = b0 at *
  generalize rd l0 ((i + 1 : Nat) : Int) = b1 at *
  generalize rd l0 ((i + 2 : Nat) : Int) = b2 at *
  generalize rd l0 ((i + 3 : Nat) : Int) = b3 at *
  have qa0 := fun o => pw_cell_below (below_alloc (Below.refl w.heap.size w) o) q0
  have qa1 := fun o => pw_cell_below (below_alloc (Below.refl w.heap.size w) o) q1
  have qa2 := fun o => pw_cell_below (below_alloc (Below.refl w.heap.size w) o) q2
  have qa3 := fun o => pw_cell_below (below_alloc (Below.refl w.heap.size w) o) q3
  have harr : ∀ W, (Instr.arrayAt 76 (.slice (some ad) 4 (c0 - i))).run Try.prog W = .ok (.pointer (some ad)) W := fun W => run_arrayAt W _ 5 4 _ _ _ Try.underlying76 (Nat.le_refl _)
  by_cases hz : n = 0
  · rw [if_pos hz] at h
    simp only [Option.some.injEq, Prod.mk.injEq] at h
    obtain ⟨rfl, rfl, rfl, rfl, rfl⟩ := h
    have hz1 : (n == 0) = true := beq_iff_eq.mpr hz
    clear hz
    go_enter Try.func44, Try.ntmps44
    go_wp2_with (go_at_call 54; (with_reducible refine (HNUM.out _).mono ?_); rintro e w1 ⟨rfl, hb1⟩; (have hbk1 : w1.heap[w.heap.size]? = some (.cells #[.int .i64 0, .slice none 0 0] 42 (0, 0)) := blk_below (blk_new _ _) hb1); (have s0 : w1.cell? ⟨w.heap.size, 0, none⟩ = some (.int .i64 0) := (blk_cell hbk1 0).trans rfl); (have s1 : w1.cell? ⟨w.heap.size, 1, none⟩ = some (.slice none 0 0) := (blk_cell hbk1 1).trans rfl); (have f0 := blk_frozen hbk1 0); (have f1 := blk_frozen hbk1 1); (have HBK := Aside0.mk hbk1); (have HB1 : Aside0 (Below w.heap.size w w1) := ⟨below_step (below_alloc (Below.refl _ _) _) hb1⟩); clear hb1 hbk1)
    refine bodyPost_ret (results_list (rs := [.cell 4 42, .tmp 5, .tmp 6, .tmp 7]) rfl (by simp) (.cell _ 42 _ (0, 0) _ rfl (blk_put (blk_put HBK.out 0 (.int .i64 0) rfl) 1 (.slice none 0 0) rfl) Try.underlying42 rfl (by kernel_rfl) (.tmp (.tmp (.tmp .nil))))) rfl ?_
    exact FIN0.out _ _ (below_set (below_set HB1.out (Nat.le_refl _)) (Nat.le_refl _))
  rw [if_neg hz] at h
  have hz1 : (n == 0) = false := beq_eq_false_iff_ne.mpr hz
  by_cases hlong : 1025 < n
  · rw [if_pos hlong] at h
    simp only [Option.some.injEq, Prod.mk.injEq] at h
    obtain ⟨rfl, rfl, rfl, rfl, rfl⟩ := h
    have hz2 : decide (1025 < n) = true := decide_eq_true hlong
    clear hz hlong
    go_enter Try.func44, Try.ntmps44
    go_wp2_with (go_at_call 54; (with_reducible refine (HNUM.out _).mono ?_); rintro e w1 ⟨rfl, hb1⟩; (have hbk1 : w1.heap[w.heap.size]? = some (.cells #[.int .i64 0, .slice none 0 0] 42 (0, 0)) := blk_below (blk_new _ _) hb1); (have s0 : w1.cell? ⟨w.heap.size, 0, none⟩ = some (.int .i64 0) := (blk_cell hbk1 0).trans rfl); (have s1 : w1.cell? ⟨w.heap.size, 1, none⟩ = some (.slice none 0 0) := (blk_cell hbk1 1).trans rfl); (have f0 := blk_frozen hbk1 0); (have f1 := blk_frozen hbk1 1); (have HBK := Aside0.mk hbk1); (have HB1 : Aside0 (Below w.heap.size w w1) := ⟨below_step (below_alloc (Below.refl _ _) _) hb1⟩); clear hb1 hbk1)
    refine bodyPost_ret (results_list (rs := [.cell 4 42, .tmp 5, .tmp 6, .tmp 7]) rfl (by simp) (.cell _ 42 _ (0, 0) _ rfl (blk_put (blk_put HBK.out 0 (.int .i64 0) rfl) 1 (.slice none 0 0) rfl) Try.underlying42 rfl (by kernel_rfl) (.tmp (.tmp (.tmp .nil))))) rfl ?_
    exact FIN0.out _ _ (below_set (below_set HB1.out (Nat.le_refl _)) (Nat.le_refl _))
  rw [if_neg hlong] at h
  have hz2 : decide (1025 < n) = false := decide_eq_false hlong
  have hw5 : IntKind.i64.wrap ((l0.length : Int) - (i : Int) - 4) = (l0.length : Int) - (i : Int) - 4 := IntWalk.i64_in _ (by omega)
  have hw6 : IntKind.i64.wrap (n + 32) = n + 32 := IntWalk.i64_in _ (by omega)
  have hw6' : IntKind.i64.wrap n = n := IntWalk.i64_in _ (by omega)
  by_cases hsh2 : (l0.length : Int) - i - 4 < n + 32
  · rw [if_pos hsh2] at h
    simp only [Option.some.injEq, Prod.mk.injEq] at h
    obtain ⟨rfl, rfl, rfl, rfl, rfl⟩ := h
    have hz3 : decide ((l0.length : Int) - (i : Int) - 4 < n + 32) = true := decide_eq_true hsh2
    clear hz hlong hsh2
    go_enter Try.func44, Try.ntmps44
    go_wp2_with (go_at_call 54; (with_reducible refine (HNUM.out _).mono ?_); rintro e w1 ⟨rfl, hb1⟩; (have hbk1 : w1.heap[w.heap.size]? = some (.cells #[.int .i64 0, .slice none 0 0] 42 (0, 0)) := blk_below (blk_new _ _) hb1); (have s0 : w1.cell? ⟨w.heap.size, 0, none⟩ = some (.int .i64 0) := (blk_cell hbk1 0).trans rfl); (have s1 : w1.cell? ⟨w.heap.size, 1, none⟩ = some (.slice none 0 0) := (blk_cell hbk1 1).trans rfl); (have f0 := blk_frozen hbk1 0); (have f1 := blk_frozen hbk1 1); (have HBK := Aside0.mk hbk1); (have HB1 : Aside0 (Below w.heap.size w w1) := ⟨below_step (below_alloc (Below.refl _ _) _) hb1⟩); clear hb1 hbk1)
    refine bodyPost_ret (results_list (rs := [.cell 4 42, .tmp 5, .tmp 6, .tmp 7]) rfl (by simp) (.cell _ 42 _ (0, 0) _ rfl (blk_put (blk_put HBK.out 0 (.int .i64 0) rfl) 1 (.slice none 0 0) rfl) Try.underlying42 rfl (by kernel_rfl) (.tmp (.tmp (.tmp .nil))))) rfl ?_
    exact FIN0.out _ _ (below_set (below_set HB1.out (Nat.le_refl _)) (Nat.le_refl _))
  rw [if_neg hsh2] at h
  have hz3 : decide ((l0.length : Int) - (i : Int) - 4 < n + 32) = false := decide_eq_false hsh2
  by_cases hby4 : entry_Read.byt (rd l0 ((i + 4 : Nat) : Int))
  case neg => rw [if_neg hby4] at h; exact absurd h (by simp)
  rw [if_pos hby4] at h
  obtain ⟨hk0, hk1⟩ := hby4
  obtain ⟨m, rfl⟩ : ∃ m : Nat, n = (m : Int) := ⟨n.toNat, by omega⟩
  have hm : m ≤ 1025 := by omega
  clear hn1 hn2
  have hroom : i + 4 + m + 32 ≤ l0.length := by omega
  obtain ⟨ad0, hA0, kcell⟩ := Kd.at_int HR.out ((i : Int) + 4) (by omega) (by omega)
  have hto : ((i : Int) + 4).toNat = i + 4 := by omega
  have kcell2 := kcell
  rw [hto] at kcell
  have hcast : ((i + 4 : Nat) : Int) = (i : Int) + 4 := by omega
  rw [hcast] at h hk0 hk1
  subst hA0
  generalize rd l0 ((i : Int) + 4) = kb at *
  clear hcast hto
  have hlt : (i : Int) + 4 < (l0.length : Int) := by omega
  have hge : (0 : Int) ≤ (i : Int) + 4 := by omega
  have ka := fun o => pw_cell_below (below_alloc (Below.refl w.heap.size w) o) kcell
  have KC := Aside0.mk kcell
  have kcell3 : w.cell? ⟨ad0.block, ad0.off + (i + 3 + 1), none⟩ = some (.int .u8 kb) := by have := kcell; rwa [show ad0.add (i + 4) = ⟨ad0.block, ad0.off + (i + 3 + 1), none⟩ by unfold Addr.add; simp] at this
  have KC2 := Aside0.mk kcell3
  have hw7 : IntKind.i64.wrap ((i : Int) + 4 + (m : Int)) = (i : Int) + 4 + (m : Int) := IntWalk.i64_in _ (by omega)
  simp only [Int.toNat_natCast] at h
  by_cases hkn : 1 ≤ kb ∧ kb ≤ 3
  case neg =>
    rw [if_neg hkn] at h
    simp only [Option.some.injEq, Prod.mk.injEq] at h
    obtain ⟨rfl, rfl, rfl, rfl, rfl⟩ := h
    have HKN : Aside0 (entry_known.f kb = some false) := ⟨by
      unfold entry_known.f
      by_cases c : kb ≥ 1
      · rw [if_pos c, decide_eq_false (fun hh => hkn ⟨c, hh⟩)]
      · rw [if_neg c]⟩
    clear hz hlong hsh2 hkn
    go_enter Try.func44, Try.ntmps44
    go_wp2_with (first | (go_at_call 54; (with_reducible refine (HNUM.out _).mono ?_); rintro e w1 ⟨rfl, hb1⟩; (have hbk1 : w1.heap[w.heap.size]? = some (.cells #[.int .i64 0, .slice none 0 0] 42 (0, 0)) := blk_below (blk_new _ _) hb1); (have s0 : w1.cell? ⟨w.heap.size, 0, none⟩ = some (.int .i64 0) := (blk_cell hbk1 0).trans rfl); (have s1 : w1.cell? ⟨w.heap.size, 1, none⟩ = some (.slice none 0 0) := (blk_cell hbk1 1).trans rfl); (have f0 := blk_frozen hbk1 0); (have f1 := blk_frozen hbk1 1); (have HBK := Aside0.mk hbk1); (have HB1 : Aside0 (Below w.heap.size w w1) := ⟨below_step (below_alloc (Below.refl _ _) _) hb1⟩); clear hb1 hbk1; have kc1 := pw_cell_below HB1.out KC.out; have kc2 := pw_cell_below HB1.out KC2.out) | (go_at_call 53; (with_reducible refine (entry_known.calls kb false _ HKN.out).mono ?_); rintro e w' ⟨rfl, ⟨nd, rfl⟩⟩))
    refine bodyPost_ret (results_list (rs := [.cell 4 42, .tmp 5, .tmp 6, .tmp 7]) rfl (by simp) (.cell _ 42 #[.int .i64 0, .slice none 0 0] (0, 0) _ rfl (blk_put (blk_put (blk_drewN HBK.out nd) 0 (.int .i64 0) rfl) 1 (.slice none 0 0) rfl) Try.underlying42 rfl (by kernel_rfl) (.tmp (.tmp (.tmp .nil))))) rfl ?_
    exact FIN0.out _ _ (by repeat (first | exact HB1.out | apply pw_below_drewN | (refine below_set ?_ (Nat.le_refl _))))
  rw [if_pos hkn] at h
  simp only [Option.some.injEq, Prod.mk.injEq] at h
  obtain ⟨rfl, hr2, hr3, rfl, rfl⟩ := h
  have HKN : Aside0 (entry_known.f kb = some true) := ⟨by
    unfold entry_known.f
    rw [if_pos hkn.1, decide_eq_true hkn.2]⟩
  have hw8 : IntKind.i64.wrap ((i : Int) + 4 + 1) = (i : Int) + 5 := by rw [IntWalk.i64_in _ (by omega)]; omega
  have hw9 : IntKind.i64.wrap ((i : Int) + 4 + (m : Int) + 32) = (i : Int) + 4 + (m : Int) + 32 := IntWalk.i64_in _ (by omega)
  obtain ⟨i0', hi0, _, hsz0, _⟩ := info_parts info5
  have hmpos : 1 ≤ m := by
    rcases Nat.eq_zero_or_pos m with hh | hh
    · exact absurd (by rw [hh]; rfl) hz
    · exact hh
  obtain ⟨A5, hcut5, hrd5, hle5⟩ := print_mid_of (P := Try.prog) (Value.int .u8) 0 22 5 .i64 .i64 Try.underlying22 hi0 hsz0 (some ad0) c0 l0 ((i : Int) + 5) ((i : Int) + 4 + (m : Int)) (by omega) (by omega) (by omega) HC.out
  obtain ⟨A6, hcut6, hrd6, hle6⟩ := print_mid_of (P := Try.prog) (Value.int .u8) 0 22 5 .i64 .i64 Try.underlying22 hi0 hsz0 (some ad0) c0 l0 ((i : Int) + 4 + (m : Int)) ((i : Int) + 4 + (m : Int) + 32) (by omega) (by omega) (by omega) HC.out
  have hb5 := hrd5 w (Kd.reads_of_C HR.out)
  have hb6 := hrd6 w (Kd.reads_of_C HR.out)
  rw [show ((i : Int) + 4 + (m : Int)).toNat = i + 4 + m by omega, show ((i : Int) + 5).toNat = i + 5 by omega, hr2] at hcut5 hb5 hle5
  rw [show ((i : Int) + 4 + (m : Int) + 32).toNat = i + 4 + m + 32 by omega, show ((i : Int) + 4 + (m : Int)).toNat = i + 4 + m by omega, hr3] at hcut6 hb6 hle6
  have H5 : Aside0 (Kd.C (Kd.int .u8) w A5 r2.length r2) := ⟨Kd.C_of_reads (h1 := fun _ => rfl) hb5⟩
  have H6 : Aside0 (Kd.C (Kd.int .u8) w A6 r3.length r3) := ⟨Kd.C_of_reads (h1 := fun _ => rfl) hb6⟩
  have HE5 := Aside0.mk hle5
  have HE6 := Aside0.mk hle6
  have F5 : Aside0 (slices_Clone_byte_byte.f r2 = some r2) := ⟨by unfold slices_Clone_byte_byte.f; rw [if_pos (by rw [← hr2, List.length_drop, List.length_take]; omega)]⟩
  have F6 : Aside0 (slices_Clone_byte_byte.f r3 = some r3) := ⟨by unfold slices_Clone_byte_byte.f; rw [if_pos (by rw [← hr3, List.length_drop, List.length_take]; omega)]⟩
  clear hz hlong hsh2 hkn hb5 hb6 hrd5 hrd6 hle5 hle6 hi0 hsz0 hr2 hr3 hmpos
  generalize c0 - (i + 5) = c5 at hcut5 HE5
  generalize c0 - (i + 4 + m) = c6 at hcut6 HE6
  go_enter Try.func44, Try.ntmps44
  go_wp2_with (first | (go_at_call 54; (with_reducible refine (HNUM.out _).mono ?_); rintro e w1 ⟨rfl, hb1⟩; (have hbk1 : w1.heap[w.heap.size]? = some (.cells #[.int .i64 0, .slice none 0 0] 42 (0, 0)) := blk_below (blk_new _ _) hb1); (have s0 : w1.cell? ⟨w.heap.size, 0, none⟩ = some (.int .i64 0) := (blk_cell hbk1 0).trans rfl); (have s1 : w1.cell? ⟨w.heap.size, 1, none⟩ = some (.slice none 0 0) := (blk_cell hbk1 1).trans rfl); (have f0 := blk_frozen hbk1 0); (have f1 := blk_frozen hbk1 1); (have HBK := Aside0.mk hbk1); (have HB1 : Aside0 (Below w.heap.size w w1) := ⟨below_step (below_alloc (Below.refl _ _) _) hb1⟩); clear hb1 hbk1; have kc1 := pw_cell_below HB1.out KC.out; have kc2 := pw_cell_below HB1.out KC2.out) | (go_at_call 53; (with_reducible refine (entry_known.calls kb true _ HKN.out).mono ?_); rintro e w' ⟨rfl, ⟨nd, rfl⟩⟩))
  have nk := World.new_ne w1 _ kc1
  have HNK := Aside0.mk nk
  generalize hW1 : w1.drewN nd = W1
  have kd1 : W1.cell? (ad0.add (i + 4)) = some (.int .u8 kb) := by rw [← hW1]; exact pw_cell_below (pw_below_drewN (Below.refl w1.heap.size w1) nd) kc1
  have kd2 : W1.cell? ⟨ad0.block, ad0.off + (i + 3 + 1), none⟩ = some (.int .u8 kb) := by rw [← hW1]; exact pw_cell_below (pw_below_drewN (Below.refl w1.heap.size w1) nd) kc2
  have HBd : Aside0 (Below w.heap.size w W1) := ⟨by rw [← hW1]; exact pw_below_drewN HB1.out nd⟩
  have HBKd : Aside0 (W1.heap[w.heap.size]? = some (.cells #[.int .i64 0, .slice none 0 0] 42 (0, 0))) := ⟨by rw [← hW1]; exact blk_drewN HBK.out nd⟩
  have KC3 : Aside0 (w.cell? (ad0.add ((i : Int) + 4).toNat) = some (.int .u8 kb)) := ⟨by rw [show ((i : Int) + 4).toNat = i + 4 by omega]; exact KC.out⟩
  clear hW1 s0 s1 f0 f1 kc1 kc2 HBK HB1 nk HNK qa0 qa1 qa2 qa3 q0 q1 q2 q3 ka kcell kcell2 kcell3 harr hcut
  have kd3 : W1.cell? (ad0.add ((i : Int) + 4).toNat) = some (.int .u8 kb) := by rw [show ((i : Int) + 4).toNat = i + 4 by omega]; exact kd1
  have hwk : IntKind.i64.wrap kb = kb := IntWalk.i64_in _ (by omega)
  have n1 := World.new_ne W1 _ kd1
  have n3 := World.new_ne W1 _ kd3
  have n2 := World.new_ne W1 _ kd2
  go_region_held3 (fun w' => w'.cell? (ad0.add (i + 4)) = some (.int .u8 kb) ∧ w'.cell? ⟨ad0.block, ad0.off + (i + 3 + 1), none⟩ = some (.int .u8 kb) ∧ w'.cell? (ad0.add ((i : Int) + 4).toNat) = some (.int .u8 kb)) (go_keep) ((go_at_call 55; refine (slices_Clone_byte_byte.calls A5 c5 r2 r2 _ ?h1 HE5.out F5.out).mono ?_; (case h1 => exact Kd.C_below H5.out (by repeat (first | exact HBd.out | apply below_alloc | apply below_drew))); rintro e w2 ⟨v2, rfl, ho2, hb2⟩; (have HO2 := Aside0.mk ho2); (have HB2 := Aside0.mk hb2); (obtain ⟨A2, c2, rfl⟩ := Kd.R_slice ho2); (have HB2w : Aside0 (Below w.heap.size w w2) := ⟨below_step (by repeat (first | exact HBd.out | apply below_alloc | apply below_drew)) hb2⟩); (try (with_reducible have hk9 : Below (W1.alloc (.cells #[.int .i64 0, .slice none 0 0] 42)).drew.heap.size (W1.alloc (.cells #[.int .i64 0, .slice none 0 0] 42)).drew w2 := hb2; (have hb9 : w2.heap[W1.heap.size]? = some (.cells #[.int .i64 0, .slice none 0 0] 42 (0, 0)) := blk_below (blk_drew (blk_new _ _)) hk9); have HB9 := Aside0.mk hb9; have u0 : w2.cell? ⟨W1.heap.size, 0, none⟩ = some (.int .i64 0) := (blk_cell hb9 0).trans rfl; have u1 : w2.cell? ⟨W1.heap.size, 1, none⟩ = some (.slice none 0 0) := (blk_cell hb9 1).trans rfl; have v0 := blk_frozen hb9 0; have v1' := blk_frozen hb9 1; clear hb9 hk9)); (have e1 := pw_cell_below HB2w.out KC.out); (have e2 := pw_cell_below HB2w.out KC2.out); (have e3 := pw_cell_below HB2w.out KC3.out); clear ho2 hb2))
  all_goals skip
  all_goals go_wp2
  · obtain ⟨W3, hW3⟩ : ∃ W3, W3 = w2.alloc (.cells #[.int .i64 kb, .slice A2 r2.length c2] 42) := ⟨_, rfl⟩
    have hlt1 : w.heap.size < w2.heap.size := Nat.lt_of_lt_of_le (blk_lt HBKd.out) (by have := HB2.out.size; simpa using this)
    have hlt2 := hlt1
    have HX3 : Aside0 (W3.heap[w2.heap.size]? = some (.cells #[.int .i64 kb, .slice A2 r2.length c2] 42 (0, 0))) := ⟨by rw [hW3]; exact blk_new _ _⟩
    have HBK3 : Aside0 (W3.heap[w.heap.size]? = some (.cells #[.int .i64 0, .slice none 0 0] 42 (0, 0))) := ⟨by rw [hW3]; exact blk_alloc (blk_below (blk_drew HBKd.out) HB2.out) _⟩
    have HB3 : Aside0 (Below w.heap.size w W3) := ⟨by rw [hW3]; exact below_alloc HB2w.out _⟩
    have HO3 : Aside0 (Kd.R (Kd.int .u8) 5 W3 w.heap.size (fun k => w.heap.size < k ∧ k ≠ w2.heap.size ∧ k < W3.heap.size) (.slice A2 r2.length c2) r2) := ⟨by
      have hb := Kd.R_base HO2.out
      have hl := Kd.R_lt HO2.out
      have hw := blk_lt HBKd.out
      rw [hW3]
      refine Kd.R_alloc (Kd.R_reok rfl (Kd.R_lower HO2.out (by have := HBd.out.size; simpa using this)) (fun k hk => ?_)) _
      have h1 : W1.heap.size ≤ k := by simpa using hb k hk
      have h2 := hl k hk
      have h3 : k < (w2.alloc (.cells #[.int .i64 kb, .slice A2 r2.length c2] 42)).heap.size := by simp; omega
      exact ⟨by omega, by omega, h3⟩⟩
    rw [← hW3]
    have HNE : Aside0 (w.heap.size < w2.heap.size) := ⟨by (exact hlt1)⟩
    clear hW3
    have x0 : W3.cell? ⟨w2.heap.size, 0, none⟩ = some (.int .i64 kb) := (blk_cell HX3.out 0).trans rfl
    have x1 : W3.cell? ⟨w2.heap.size, 1, none⟩ = some (.slice A2 r2.length c2) := (blk_cell HX3.out 1).trans rfl
    have nx0 := World.new_ne W3 _ x0
    have nx1 := World.new_ne W3 _ x1
    have f0 := blk_frozen HBK3.out 0
    have f1 := blk_frozen HBK3.out 1
    have s0 : W3.cell? ⟨w.heap.size, 0, none⟩ = some (.int .i64 0) := (blk_cell HBK3.out 0).trans rfl
    have s1 : W3.cell? ⟨w.heap.size, 1, none⟩ = some (.slice none 0 0) := (blk_cell HBK3.out 1).trans rfl
    have fd0 := blk_frozen (blk_drew HBK3.out) 0
    have fd1 := blk_frozen (blk_drew HBK3.out) 1
    clear e1 e2 e3 hlt1 hlt2
    go_region_held3 (fun w' => w'.cell? ⟨w2.heap.size, 0, none⟩ = some (.int .i64 kb) ∧ w'.cell? ⟨w2.heap.size, 1, none⟩ = some (.slice A2 r2.length c2)) (first | go_keep | exact ⟨(blk_cell (blk_far (p := ⟨w.heap.size, 1, none⟩) (blk_far (p := ⟨w.heap.size, 0, none⟩) HX5.out (Nat.ne_of_gt HNE.out) _) (Nat.ne_of_gt HNE.out) _) 0).trans rfl, (blk_cell (blk_far (p := ⟨w.heap.size, 1, none⟩) (blk_far (p := ⟨w.heap.size, 0, none⟩) HX5.out (Nat.ne_of_gt HNE.out) _) (Nat.ne_of_gt HNE.out) _) 1).trans rfl⟩) ((go_at_call 55; refine (slices_Clone_byte_byte.calls A6 c6 r3 r3 _ ?h1 HE6.out F6.out).mono ?_; (case h1 => exact Kd.C_below H6.out (by repeat (first | exact HB3.out | apply below_drew))); rintro e w5 ⟨v5, rfl, ho5, hb5⟩; (have HO5 := Aside0.mk ho5); (have HB5 := Aside0.mk hb5); (have HB5w : Aside0 (Below w.heap.size w w5) := ⟨below_step (by repeat (first | exact HB3.out | apply below_drew)) hb5⟩); (obtain ⟨A7, c7, rfl⟩ := Kd.R_slice ho5); (have hx5 : w5.heap[w2.heap.size]? = some (.cells #[.int .i64 kb, .slice A2 r2.length c2] 42 (0, 0)) := blk_below (by with_reducible (exact blk_drew HX3.out)) hb5); (have y0 : w5.cell? ⟨w2.heap.size, 0, none⟩ = some (.int .i64 kb) := (blk_cell hx5 0).trans rfl); (have y1 : w5.cell? ⟨w2.heap.size, 1, none⟩ = some (.slice A2 r2.length c2) := (blk_cell hx5 1).trans rfl); (try (with_reducible have hk9 : Below W3.drew.heap.size W3.drew w5 := hb5; (have hb9 : w5.heap[w.heap.size]? = some (.cells #[.int .i64 0, .slice none 0 0] 42 (0, 0)) := blk_below (blk_drew HBK3.out) hk9); have HK5 := Aside0.mk hb9; have u0' : w5.cell? ⟨w.heap.size, 0, none⟩ = some (.int .i64 0) := (blk_cell hb9 0).trans rfl; have u1' : w5.cell? ⟨w.heap.size, 1, none⟩ = some (.slice none 0 0) := (blk_cell hb9 1).trans rfl; have v0'' := blk_frozen hb9 0; have v1'' := blk_frozen hb9 1; clear hb9 hk9)); (have HX5 := Aside0.mk hx5); clear hx5 ho5 hb5))
    go_wp2
    have hkp : ∀ u v, Kept w5 ((w5.setCell ⟨w.heap.size, 0, none⟩ u).setCell ⟨w.heap.size, 1, none⟩ v) (fun k => k = w.heap.size) := fun u v => Kept.setCell (p := ⟨w.heap.size, 1, none⟩) (Kept.setCell (p := ⟨w.heap.size, 0, none⟩) (Kept.refl w5 (fun k => k = w.heap.size)) (.inl rfl) _) (.inl rfl) _
    have hb35 : Below W3.heap.size W3 w5 := below_step (below_drew (Below.refl _ _)) HB5.out
    have h7 := Kd.R_base HO5.out
    have hsz3 := HB3.out.size
    refine bodyPost_ret (results_list (rs := [.cell 4 42, .tmp 5, .tmp 6, .tmp 7]) rfl (by simp) (.cell _ 42 #[.int .i64 kb, .slice A2 r2.length c2] (0, 0) _ rfl (blk_put (blk_put HK5.out 0 (.int .i64 kb) rfl) 1 (.slice A2 r2.length c2) rfl) Try.underlying42 rfl (by kernel_rfl) (.tmp (.tmp (.tmp .nil))))) rfl ?_
    refine ⟨_, _, rfl, ?_, ?_, ?_⟩
    · have h2 := Kd.R_kept (Kd.R_below HO3.out hb35) (hkp (.int .i64 kb) (.slice A2 r2.length c2)) (fun k hk he => by have := hk.1; omega)
      refine Kd.R_reok rfl h2 (fun k hk he => ?_)
      have h3 := (h2.1 k hk).2.2
      have h4 := h7 k he.symm
      simp at h4
      omega
    · have h2 := Kd.R_kept (Kd.R_reok (ok := fun k => w.heap.size < k ∧ W3.heap.size ≤ k) rfl (Kd.R_lower HO5.out (by simpa using hsz3)) (fun k hk => by
        have h4 := h7 k hk
        have h5 := blk_lt HBK3.out
        simp at h4
        exact ⟨by omega, h4⟩)) (hkp (.int .i64 kb) (.slice A2 r2.length c2)) (fun k hk he => by have := hk.1; omega)
      refine Kd.R_reok rfl h2 (fun k hk he => ?_)
      have h3 := (h2.1 k hk).2
      have h4 := ((Kd.R_below HO3.out hb35).1 k he.symm).2.2
      omega
    · exact below_set (below_set HB5w.out (Nat.le_refl _)) (Nat.le_refl _)
  · obtain ⟨W3, hW3⟩ : ∃ W3, W3 = (w2.setCell ⟨W1.heap.size, 0, none⟩ (.int .i64 kb)).setCell ⟨W1.heap.size, 1, none⟩ (.slice A2 r2.length c2) := ⟨_, rfl⟩
    have hlt1 : w.heap.size < W1.heap.size := blk_lt HBKd.out
    have hlt2 := hlt1
    have HX3 : Aside0 (W3.heap[W1.heap.size]? = some (.cells #[.int .i64 kb, .slice A2 r2.length c2] 42 (0, 0))) := ⟨by rw [hW3]; exact blk_put (blk_put HB9.out 0 (.int .i64 kb) rfl) 1 (.slice A2 r2.length c2) rfl⟩
    have HBK3 : Aside0 (W3.heap[w.heap.size]? = some (.cells #[.int .i64 0, .slice none 0 0] 42 (0, 0))) := ⟨by rw [hW3]; exact blk_far (p := ⟨W1.heap.size, 1, none⟩) (blk_far (p := ⟨W1.heap.size, 0, none⟩) (blk_below (blk_drew (blk_alloc HBKd.out _)) HB2.out) (Nat.ne_of_lt hlt1) (.int .i64 kb)) (Nat.ne_of_lt hlt1) (.slice A2 r2.length c2)⟩
    have HB3 : Aside0 (Below w.heap.size w W3) := ⟨by rw [hW3]; exact below_set (below_set HB2w.out (Nat.le_of_lt hlt1)) (Nat.le_of_lt hlt1)⟩
    have HO3 : Aside0 (Kd.R (Kd.int .u8) 5 W3 w.heap.size (fun k => w.heap.size < k ∧ k ≠ W1.heap.size ∧ k < W3.heap.size) (.slice A2 r2.length c2) r2) := ⟨by
      have hb := Kd.R_base HO2.out
      have hl := Kd.R_lt HO2.out
      have hk0 : Kept w2 W3 (fun k => k = W1.heap.size) := by
        rw [hW3]
        exact Kept.setCell (p := ⟨W1.heap.size, 1, none⟩) (Kept.setCell (p := ⟨W1.heap.size, 0, none⟩) (Kept.refl w2 (fun k => k = W1.heap.size)) (.inl rfl) _) (.inl rfl) _
      refine Kd.R_kept (Kd.R_reok rfl (Kd.R_lower HO2.out (by have := HBd.out.size; simp; omega)) (fun k hk => ?_)) hk0 (fun k hk => hk.2.1)
      have h1 : W1.heap.size + 1 ≤ k := by simpa using hb k hk
      have h2 := hl k hk
      have h3 := hk0.1
      exact ⟨by omega, by omega, by omega⟩⟩
    rw [← hW3]
    have HNE : Aside0 (w.heap.size < W1.heap.size) := ⟨by (exact hlt1)⟩
    clear hW3
    have x0 : W3.cell? ⟨W1.heap.size, 0, none⟩ = some (.int .i64 kb) := (blk_cell HX3.out 0).trans rfl
    have x1 : W3.cell? ⟨W1.heap.size, 1, none⟩ = some (.slice A2 r2.length c2) := (blk_cell HX3.out 1).trans rfl
    have nx0 := World.new_ne W3 _ x0
    have nx1 := World.new_ne W3 _ x1
    have f0 := blk_frozen HBK3.out 0
    have f1 := blk_frozen HBK3.out 1
    have s0 : W3.cell? ⟨w.heap.size, 0, none⟩ = some (.int .i64 0) := (blk_cell HBK3.out 0).trans rfl
    have s1 : W3.cell? ⟨w.heap.size, 1, none⟩ = some (.slice none 0 0) := (blk_cell HBK3.out 1).trans rfl
    have fd0 := blk_frozen (blk_drew HBK3.out) 0
    have fd1 := blk_frozen (blk_drew HBK3.out) 1
    clear e1 e2 e3 hlt1 hlt2
    go_region_held3 (fun w' => w'.cell? ⟨W1.heap.size, 0, none⟩ = some (.int .i64 kb) ∧ w'.cell? ⟨W1.heap.size, 1, none⟩ = some (.slice A2 r2.length c2)) (first | go_keep | exact ⟨(blk_cell (blk_far (p := ⟨w.heap.size, 1, none⟩) (blk_far (p := ⟨w.heap.size, 0, none⟩) HX5.out (Nat.ne_of_gt HNE.out) _) (Nat.ne_of_gt HNE.out) _) 0).trans rfl, (blk_cell (blk_far (p := ⟨w.heap.size, 1, none⟩) (blk_far (p := ⟨w.heap.size, 0, none⟩) HX5.out (Nat.ne_of_gt HNE.out) _) (Nat.ne_of_gt HNE.out) _) 1).trans rfl⟩) ((go_at_call 55; refine (slices_Clone_byte_byte.calls A6 c6 r3 r3 _ ?h1 HE6.out F6.out).mono ?_; (case h1 => exact Kd.C_below H6.out (by repeat (first | exact HB3.out | apply below_drew))); rintro e w5 ⟨v5, rfl, ho5, hb5⟩; (have HO5 := Aside0.mk ho5); (have HB5 := Aside0.mk hb5); (have HB5w : Aside0 (Below w.heap.size w w5) := ⟨below_step (by repeat (first | exact HB3.out | apply below_drew)) hb5⟩); (obtain ⟨A7, c7, rfl⟩ := Kd.R_slice ho5); (have hx5 : w5.heap[W1.heap.size]? = some (.cells #[.int .i64 kb, .slice A2 r2.length c2] 42 (0, 0)) := blk_below (by with_reducible (exact blk_drew HX3.out)) hb5); (have y0 : w5.cell? ⟨W1.heap.size, 0, none⟩ = some (.int .i64 kb) := (blk_cell hx5 0).trans rfl); (have y1 : w5.cell? ⟨W1.heap.size, 1, none⟩ = some (.slice A2 r2.length c2) := (blk_cell hx5 1).trans rfl); (try (with_reducible have hk9 : Below W3.drew.heap.size W3.drew w5 := hb5; (have hb9 : w5.heap[w.heap.size]? = some (.cells #[.int .i64 0, .slice none 0 0] 42 (0, 0)) := blk_below (blk_drew HBK3.out) hk9); have HK5 := Aside0.mk hb9; have u0' : w5.cell? ⟨w.heap.size, 0, none⟩ = some (.int .i64 0) := (blk_cell hb9 0).trans rfl; have u1' : w5.cell? ⟨w.heap.size, 1, none⟩ = some (.slice none 0 0) := (blk_cell hb9 1).trans rfl; have v0'' := blk_frozen hb9 0; have v1'' := blk_frozen hb9 1; clear hb9 hk9)); (have HX5 := Aside0.mk hx5); clear hx5 ho5 hb5))
    go_wp2
    have hkp : ∀ u v, Kept w5 ((w5.setCell ⟨w.heap.size, 0, none⟩ u).setCell ⟨w.heap.size, 1, none⟩ v) (fun k => k = w.heap.size) := fun u v => Kept.setCell (p := ⟨w.heap.size, 1, none⟩) (Kept.setCell (p := ⟨w.heap.size, 0, none⟩) (Kept.refl w5 (fun k => k = w.heap.size)) (.inl rfl) _) (.inl rfl) _
    have hb35 : Below W3.heap.size W3 w5 := below_step (below_drew (Below.refl _ _)) HB5.out
    have h7 := Kd.R_base HO5.out
    have hsz3 := HB3.out.size
    refine bodyPost_ret (results_list (rs := [.cell 4 42, .tmp 5, .tmp 6, .tmp 7]) rfl (by simp) (.cell _ 42 #[.int .i64 kb, .slice A2 r2.length c2] (0, 0) _ rfl (blk_put (blk_put HK5.out 0 (.int .i64 kb) rfl) 1 (.slice A2 r2.length c2) rfl) Try.underlying42 rfl (by kernel_rfl) (.tmp (.tmp (.tmp .nil))))) rfl ?_
    refine ⟨_, _, rfl, ?_, ?_, ?_⟩
    · have h2 := Kd.R_kept (Kd.R_below HO3.out hb35) (hkp (.int .i64 kb) (.slice A2 r2.length c2)) (fun k hk he => by have := hk.1; omega)
      refine Kd.R_reok rfl h2 (fun k hk he => ?_)
      have h3 := (h2.1 k hk).2.2
      have h4 := h7 k he.symm
      simp at h4
      omega
    · have h2 := Kd.R_kept (Kd.R_reok (ok := fun k => w.heap.size < k ∧ W3.heap.size ≤ k) rfl (Kd.R_lower HO5.out (by simpa using hsz3)) (fun k hk => by
        have h4 := h7 k hk
        have h5 := blk_lt HBK3.out
        simp at h4
        exact ⟨by omega, h4⟩)) (hkp (.int .i64 kb) (.slice A2 r2.length c2)) (fun k hk he => by have := hk.1; omega)
      refine Kd.R_reok rfl h2 (fun k hk he => ?_)
      have h3 := (h2.1 k hk).2
      have h4 := ((Kd.R_below HO3.out hb35).1 k he.symm).2.2
      omega
    · exact below_set (below_set HB5w.out (Nat.le_refl _)) (Nat.le_refl _)

/-! ### chain_along: function 25 (given) -/
/-- along the frames of a log: 'see' tells what becomes of a state at a frame, and what is wrong -/
def chain_along.l {α : Type} (see : Nat → α → Int → List Int → List Int → List Int → Option (α × Int)) : Nat → List Int → α → List Int → Int → Int → Option (α × Int)
  | 0, _, _, _, _, _ => none
  | k + 1, log, s, ahead, at_, n => if at_ < (log.length : Int) then (entry_Read.f log at_).bind fun R => (if R.2.2.2.2 = 0 then (chain_Message.f k ahead n R.1 R.2.1).bind fun M => (if M.2 = 0 then (see k s R.1 R.2.1 M.1 R.2.2.1).bind fun y => (if y.2 = 0 then chain_along.l see k log y.1 R.2.2.1 R.2.2.2.1 ((n + 1) % 18446744073709551616) else some y) else some (s, M.2)) else some (s, R.2.2.2.2)) else some (s, 0)
def chain_along.f {α : Type} (see : Nat → α → Int → List Int → List Int → List Int → Option (α × Int)) (k : Nat) (log : List Int) (s : α) : Option (α × Int) := (chain_First.f).bind fun t => chain_along.l see k log s t 0 1
theorem chain_along.mono_l {α : Type} (see : Nat → α → Int → List Int → List Int → List Int → Option (α × Int)) (hs : ∀ k a0 a1 a2 a3 a4, LeO (see k a0 a1 a2 a3 a4) (see (k + 1) a0 a1 a2 a3 a4)) : ∀ k a0 a1 a2 a3 a4, LeO (chain_along.l see k a0 a1 a2 a3 a4) (chain_along.l see (k + 1) a0 a1 a2 a3 a4)
  | 0, _, _, _, _, _ => fun r h => by simp [chain_along.l] at h
  | k + 1, a0, a1, a2, a3, a4 => by
    have ih := chain_along.mono_l see hs k
    rw [chain_along.l, chain_along.l]
    refine LeO.ite (LeO.bind (LeO.refl _) fun R => LeO.ite (LeO.bind (chain_Message.mono _ _ _ _ _) fun M => LeO.ite (LeO.bind (hs _ _ _ _ _ _) fun y => LeO.ite (ih _ _ _ _ _) (LeO.refl _)) (LeO.refl _)) (LeO.refl _)) (LeO.refl _)
theorem chain_along.mono {α : Type} (see : Nat → α → Int → List Int → List Int → List Int → Option (α × Int)) (hs : ∀ k a0 a1 a2 a3 a4, LeO (see k a0 a1 a2 a3 a4) (see (k + 1) a0 a1 a2 a3 a4)) (a0 : List Int) (a1 : α) (k : Nat) : LeO (chain_along.f see k a0 a1) (chain_along.f see (k + 1) a0 a1) :=
  LeO.bind (LeO.refl _) fun t => chain_along.mono_l see hs k _ _ _ _ _
/-- what is only read, and lies in no block of O -/
abbrev chain_along.Off (W : World) (B : Nat) (O : Nat → Prop) (A : Option Addr) (l : List Int) : Prop := Kd.F (Kd.int .u8) W (fun q => B ≤ q ∧ ¬ O q) A l.length l
theorem chain_along.off_move {W W' : World} {B : Nat} {O O' : Nat → Prop} {A : Option Addr} {l : List Int} (h : chain_along.Off W B O A l) (hk : Kept W W' O) (ho : ∀ q, q < W.heap.size → O' q → O q) : chain_along.Off W' B O' A l := by
  have h1 := Kd.F_step (Kd.F_bound h) (fun q hq hlt => hk.2 q hlt hq.1.2)
  exact Kd.F_mono h1 (fun q hq => ⟨hq.1.1, fun hq' => hq.1.2 (ho q hq.2 hq')⟩)
theorem chain_along.off_new {W' : World} {B : Nat} {O : Nat → Prop} {base : Nat} {ok : Nat → Prop} {A : Option Addr} {l : List Int} {c : Nat} (h : Kd.R (Kd.int .u8) 5 W' base ok (.slice A l.length c) l) (hb : B ≤ base) (hO : ∀ q, O q → q < base) : chain_along.Off W' B O A l :=
  Kd.F_mono (Kd.R_F (Kd.R_bound h)) (fun q hq => ⟨Nat.le_trans hb hq.2.1, fun ho => by have := hO q ho; omega⟩)
def chain_along.Post {α : Type} (B : Nat) (I : World → α → (Nat → Prop) → Prop) (w : World) (O : Nat → Prop) (r : α × Int) (e : Ending) (w' : World) : Prop :=
  ∃ O', e = .returned (.int .i64 r.2) ∧ I w' r.1 O' ∧ Kept w w' O ∧ Below B w w' ∧ ∀ q, q < w.heap.size → O' q → O q
set_option maxHeartbeats 16000000 in
set_option maxRecDepth 100000 in
theorem chain_along.calls {α : Type} (see : Nat → α → Int → List Int → List Int → List Int → Option (α × Int)) (G : Nat) (caps : Array Value) (B : Nat) (I : World → α → (Nat → Prop) → Prop)
    (hI : ∀ W W' s O, I W s O → Below W.heap.size W W' → I W' s O) (hO : ∀ W s O, I W s O → ∀ q, O q → B ≤ q ∧ q < W.heap.size)
    (hE : ∀ (z : Value) (W : World), (callFunc G (#[z] ++ caps)).run Try.prog W = .ok (.enter G (#[z] ++ caps)) W)
    (hF : ∀ k s kd b m t r W O Ab cb Am cm At ct, I W s O → b.length ≤ cb → m.length ≤ cm → t.length ≤ ct → chain_along.Off W B O Ab b → chain_along.Off W B O Am m → chain_along.Off W B O At t → see k s kd b m t = some r →
      Calls Try.prog G (#[.agg #[.int .i64 kd, .slice Ab b.length cb, .slice Am m.length cm, .slice At t.length ct]] ++ caps) W (chain_along.Post B I W O r))
    (k : Nat) (A0 : Option Addr) (c0 : Nat) (l0 : List Int) (s : α) (O : Nat → Prop) (r : α × Int) (w : World) (hr0 : Kd.F (Kd.int .u8) w (fun q => q < B) A0 l0.length l0) (hc0 : l0.length ≤ c0) (hB : B ≤ w.heap.size) (h0 : I w s O) (h : chain_along.f see k l0 s = some r) :
    Calls Try.prog 25 #[.slice A0 l0.length c0, .func (.func G) #[] caps] w (chain_along.Post B I w O r) := by
  have hu := Try.underlying42
  have HR0 := Aside0.mk hr0
  have HC0 := Aside0.mk hc0
  have HI := Aside0.mk hI
  have HO := Aside0.mk hO
  have HF := Aside0.mk hF
  have H0 := Aside0.mk h0
  have HBw := Aside0.mk hB
  unfold chain_along.f at h
  obtain ⟨t, ht, h⟩ := Option.bind_eq_some_iff.mp h
  have HT := Aside0.mk ht
  have H := Aside0.mk h
  clear hr0 hc0 hI hO hF h0 ht h hB
  go_enter Try.func25, Try.ntmps25
  go_wp2_with (go_at_call 23; (with_reducible refine (chain_First.calls t _ HT.out).mono ?_); rintro e w1 ⟨v5, rfl, ho1, hb1⟩; (obtain ⟨AT, cT, rfl⟩ := Kd.R_slice ho1); (have HA := Aside0.mk ho1); (have HB := Aside0.mk hb1); clear ho1 hb1)
  clear h
  go_loopg [5, 6, 7] k (fun q v5 v6 v7 w' => ∃ (s' : α) (O' : Nat → Prop) (ahead : List Int) (A1 : Option Addr) (c1 : Nat) (a n : Int), v5 = .slice A1 ahead.length c1 ∧ v6 = .int .i64 a ∧ v7 = .int .u64 n ∧ Aside0 (chain_along.l see q l0 s' ahead a n = some r) ∧ Aside0 (I w' s' O') ∧ Aside0 (Kept w w' O) ∧ Aside0 (Below B w w') ∧ Aside0 (∀ q, q < w.heap.size → O' q → O q) ∧ Aside0 (chain_along.Off w' B O' A1 ahead) ∧ Aside0 (ahead.length ≤ c1))
  case atStart => exact ⟨s, O, t, AT, cT, 0, 1, rfl, rfl, rfl, H, ⟨HI.out _ _ _ _ H0.out HB.out⟩, ⟨Kept.of_below HB.out _⟩, ⟨HB.out.mono HBw.out⟩, ⟨fun _ _ h => h⟩, ⟨chain_along.off_new HA.out HBw.out (fun q hq => (HO.out _ _ _ H0.out q hq).2)⟩, ⟨(Kd.R_reads' HA.out).2.1⟩⟩
  case round =>
    clear H HA HB HT
    obtain ⟨s', O', ahead, A1, c1, a, n, rfl, rfl, rfl, H, HI0, HK, HBK, HOO, HA, HAL⟩ := hrel
    have HL : Aside0 (Kd.F (Kd.int .u8) wr (fun q => q < B) A0 l0.length l0) := ⟨Kd.F_kept HR0.out HK.out (fun q hq ho => by have := (HO.out _ _ _ H0.out q ho).1; omega)⟩
    have HBr : Aside0 (B ≤ wr.heap.size) := ⟨Nat.le_trans HBw.out HK.out.1⟩
    have HOW : Aside0 (∀ q, O' q → q < wr.heap.size) := ⟨fun q hq => (HO.out _ _ _ HI0.out q hq).2⟩
    cases gk with
    | zero => exact absurd H.out (by simp [chain_along.l])
    | succ q =>
      have h := H.out
      clear H
      rw [chain_along.l] at h
      by_cases d1 : a < (l0.length : Int)
      case neg =>
        rw [if_neg d1] at h
        obtain rfl := Option.some.inj h
        have d1b : decide (a < (l0.length : Int)) = false := decide_eq_false d1
        clear h d1
        go_wp2
        go_ret
        exact ⟨O', rfl, HI0.out, HK.out, HBK.out, HOO.out⟩
      rw [if_pos d1] at h
      have d1b : decide (a < (l0.length : Int)) = true := decide_eq_true d1
      clear d1
      obtain ⟨⟨r1, r2, r3, r4, r5⟩, hR, h⟩ := Option.bind_eq_some_iff.mp h
      have HRd := Aside0.mk hR
      clear hR
      simp only at h
      by_cases d2 : r5 = 0
      case neg =>
        rw [if_neg d2] at h
        obtain rfl := Option.some.inj h
        have d2b : (r5 != 0) = true := by simpa using d2
        clear h d2
        go_wp2_with (((go_at_call 44; (with_reducible refine (entry_Read.calls A0 c0 l0 a r1 r2 r3 r4 _ _ (Kd.F_now HL.out) HC0.out HRd.out).mono ?_); rintro e w1 ⟨v1, v2, rfl, ho1, ho2, hb1⟩; (obtain ⟨A2, c2, rfl⟩ := Kd.R_slice ho1); (obtain ⟨A3, c3, rfl⟩ := Kd.R_slice ho2); (have HB1 := Aside0.mk hb1); (have O2 := Aside0.mk (chain_along.off_new ho1 HBr.out HOW.out)); (have O3 := Aside0.mk (chain_along.off_new ho2 HBr.out HOW.out)); (have L2 := Aside0.mk (Kd.R_reads' ho1).2.1); (have L3 := Aside0.mk (Kd.R_reads' ho2).2.1); clear ho1 ho2 hb1)))
        go_ret
        exact ⟨O', rfl, HI.out _ _ _ _ HI0.out (by repeat (first | exact HB1.out | apply below_alloc)), (HK.out).below (by repeat (first | exact HB1.out | apply below_alloc)), HBK.out.trans (Below.mono (by repeat (first | exact HB1.out | apply below_alloc)) HBr.out), HOO.out⟩
      subst d2
      rw [if_pos rfl] at h
      obtain ⟨⟨m, x⟩, hM, h⟩ := Option.bind_eq_some_iff.mp h
      have HM := Aside0.mk hM
      clear hM
      simp only at h
      by_cases d3 : x = 0
      case neg =>
        rw [if_neg d3] at h
        obtain rfl := Option.some.inj h
        have d3b : (x != 0) = true := by simpa using d3
        clear h d3
        go_wp2_with (first | (go_at_call 44; (with_reducible refine (entry_Read.calls A0 c0 l0 a r1 r2 r3 r4 _ _ (Kd.F_now HL.out) HC0.out HRd.out).mono ?_); rintro e w1 ⟨v1, v2, rfl, ho1, ho2, hb1⟩; (obtain ⟨A2, c2, rfl⟩ := Kd.R_slice ho1); (obtain ⟨A3, c3, rfl⟩ := Kd.R_slice ho2); (have HB1 := Aside0.mk hb1); (have O2 := Aside0.mk (chain_along.off_new ho1 HBr.out HOW.out)); (have O3 := Aside0.mk (chain_along.off_new ho2 HBr.out HOW.out)); (have L2 := Aside0.mk (Kd.R_reads' ho1).2.1); (have L3 := Aside0.mk (Kd.R_reads' ho2).2.1); clear ho1 ho2 hb1) | (go_at_call 24; (with_reducible refine (chain_Message.calls q A1 c1 ahead n r1 A2 c2 r2 m _ _ (Kd.C_below (Kd.F_now HA.out) (by repeat (first | exact HB1.out | apply below_alloc))) HAL.out (Kd.C_below (Kd.F_now O2.out) (by repeat (first | exact Below.refl _ _ | apply below_alloc))) L2.out HM.out).mono ?_); rintro e w2 ⟨v4, rfl, ho4, hb4⟩; (obtain ⟨A4, c4, rfl⟩ := Kd.R_slice ho4); (have hk : w2.heap[w1.heap.size]? = some (.cells #[.int .i64 r1, .slice A2 r2.length c2] 42 (0, 0)) := blk_below (by repeat (exact blk_new _ _)) hb4); (have s0 : w2.cell? ⟨w1.heap.size, 0, none⟩ = some (.int .i64 r1) := (blk_cell hk 0).trans rfl); (have s1 : w2.cell? ⟨w1.heap.size, 1, none⟩ = some (.slice A2 r2.length c2) := (blk_cell hk 1).trans rfl); (have HB12 : Aside0 (Below w1.heap.size w1 w2) := ⟨below_step (by repeat (first | exact Below.refl _ _ | apply below_alloc)) hb4⟩); (have HB2 : Aside0 (Below wr.heap.size wr w2) := ⟨below_step HB1.out HB12.out⟩); (have O4 := Aside0.mk (chain_along.off_new ho4 (Nat.le_trans HBr.out (by have := HB1.out.size; simp; omega)) (fun q hq => Nat.lt_of_lt_of_le (HOW.out q hq) (by have := HB1.out.size; simp; omega)))); (have L4 := Aside0.mk (Kd.R_reads' ho4).2.1); clear ho4 hb4 hk))
        go_ret
        exact ⟨O', rfl, HI.out _ _ _ _ HI0.out HB2.out, (HK.out).below HB2.out, HBK.out.trans (HB2.out.mono HBr.out), HOO.out⟩
      subst d3
      rw [if_pos rfl] at h
      obtain ⟨y, hS, h⟩ := Option.bind_eq_some_iff.mp h
      have HS := Aside0.mk hS
      clear hS
      by_cases d4 : y.2 = 0
      case neg =>
        rw [if_neg d4] at h
        obtain rfl := Option.some.inj h
        have d4b : (y.2 != 0) = true := by simpa using d4
        clear h d4
        go_wp2_with (first | (go_at_call 44; (with_reducible refine (entry_Read.calls A0 c0 l0 a r1 r2 r3 r4 _ _ (Kd.F_now HL.out) HC0.out HRd.out).mono ?_); rintro e w1 ⟨v1, v2, rfl, ho1, ho2, hb1⟩; (obtain ⟨A2, c2, rfl⟩ := Kd.R_slice ho1); (obtain ⟨A3, c3, rfl⟩ := Kd.R_slice ho2); (have HB1 := Aside0.mk hb1); (have O2 := Aside0.mk (chain_along.off_new ho1 HBr.out HOW.out)); (have O3 := Aside0.mk (chain_along.off_new ho2 HBr.out HOW.out)); (have L2 := Aside0.mk (Kd.R_reads' ho1).2.1); (have L3 := Aside0.mk (Kd.R_reads' ho2).2.1); clear ho1 ho2 hb1) | (go_at_call 24; (with_reducible refine (chain_Message.calls q A1 c1 ahead n r1 A2 c2 r2 m _ _ (Kd.C_below (Kd.F_now HA.out) (by repeat (first | exact HB1.out | apply below_alloc))) HAL.out (Kd.C_below (Kd.F_now O2.out) (by repeat (first | exact Below.refl _ _ | apply below_alloc))) L2.out HM.out).mono ?_); rintro e w2 ⟨v4, rfl, ho4, hb4⟩; (obtain ⟨A4, c4, rfl⟩ := Kd.R_slice ho4); (have hk : w2.heap[w1.heap.size]? = some (.cells #[.int .i64 r1, .slice A2 r2.length c2] 42 (0, 0)) := blk_below (by repeat (exact blk_new _ _)) hb4); (have s0 : w2.cell? ⟨w1.heap.size, 0, none⟩ = some (.int .i64 r1) := (blk_cell hk 0).trans rfl); (have s1 : w2.cell? ⟨w1.heap.size, 1, none⟩ = some (.slice A2 r2.length c2) := (blk_cell hk 1).trans rfl); (have HB12 : Aside0 (Below w1.heap.size w1 w2) := ⟨below_step (by repeat (first | exact Below.refl _ _ | apply below_alloc)) hb4⟩); (have HB2 : Aside0 (Below wr.heap.size wr w2) := ⟨below_step HB1.out HB12.out⟩); (have O4 := Aside0.mk (chain_along.off_new ho4 (Nat.le_trans HBr.out (by have := HB1.out.size; simp; omega)) (fun q hq => Nat.lt_of_lt_of_le (HOW.out q hq) (by have := HB1.out.size; simp; omega)))); (have L4 := Aside0.mk (Kd.R_reads' ho4).2.1); clear ho4 hb4 hk) | ((with_reducible refine (HF.out q s' r1 r2 m r3 y _ O' A2 c2 A4 c4 A3 c3 (HI.out _ _ _ _ HI0.out HB2.out) L2.out L4.out L3.out (Kd.F_below O2.out HB12.out) O4.out (Kd.F_below O3.out HB12.out) HS.out).mono ?_); rintro e w3 ⟨O3', rfl, hi3, hk3, hbk3, ho3⟩; have HI3 := Aside0.mk hi3; (have HBK3 : Aside0 (Below B w w3) := ⟨(HBK.out.trans (HB2.out.mono HBr.out)).trans hbk3⟩); have HK3 := Aside0.mk hk3; have HO3 := Aside0.mk ho3; clear hi3 hk3 ho3 hbk3))
        have HKK : Aside0 (Kept w w3 O) := ⟨((HK.out).below HB2.out).then_ HK3.out (fun k hk => (Nat.lt_or_ge k w.heap.size).imp (fun hlt => HOO.out k hlt hk) id)⟩
        have HOO3 : Aside0 (∀ q, q < w.heap.size → O3' q → O q) := ⟨fun k hlt hk => HOO.out k hlt (HO3.out k (Nat.lt_of_lt_of_le hlt (Nat.le_trans HK.out.1 HB2.out.size)) hk)⟩
        go_ret
        exact ⟨O3', rfl, HI3.out, HKK.out, HBK3.out, HOO3.out⟩
      rw [if_pos d4] at h
      have d4b : (y.2 != 0) = false := by simpa using d4
      have H := Aside0.mk h
      clear h d4
      go_wp2_with (first | (go_at_call 44; (with_reducible refine (entry_Read.calls A0 c0 l0 a r1 r2 r3 r4 _ _ (Kd.F_now HL.out) HC0.out HRd.out).mono ?_); rintro e w1 ⟨v1, v2, rfl, ho1, ho2, hb1⟩; (obtain ⟨A2, c2, rfl⟩ := Kd.R_slice ho1); (obtain ⟨A3, c3, rfl⟩ := Kd.R_slice ho2); (have HB1 := Aside0.mk hb1); (have O2 := Aside0.mk (chain_along.off_new ho1 HBr.out HOW.out)); (have O3 := Aside0.mk (chain_along.off_new ho2 HBr.out HOW.out)); (have L2 := Aside0.mk (Kd.R_reads' ho1).2.1); (have L3 := Aside0.mk (Kd.R_reads' ho2).2.1); clear ho1 ho2 hb1) | (go_at_call 24; (with_reducible refine (chain_Message.calls q A1 c1 ahead n r1 A2 c2 r2 m _ _ (Kd.C_below (Kd.F_now HA.out) (by repeat (first | exact HB1.out | apply below_alloc))) HAL.out (Kd.C_below (Kd.F_now O2.out) (by repeat (first | exact Below.refl _ _ | apply below_alloc))) L2.out HM.out).mono ?_); rintro e w2 ⟨v4, rfl, ho4, hb4⟩; (obtain ⟨A4, c4, rfl⟩ := Kd.R_slice ho4); (have hk : w2.heap[w1.heap.size]? = some (.cells #[.int .i64 r1, .slice A2 r2.length c2] 42 (0, 0)) := blk_below (by repeat (exact blk_new _ _)) hb4); (have s0 : w2.cell? ⟨w1.heap.size, 0, none⟩ = some (.int .i64 r1) := (blk_cell hk 0).trans rfl); (have s1 : w2.cell? ⟨w1.heap.size, 1, none⟩ = some (.slice A2 r2.length c2) := (blk_cell hk 1).trans rfl); (have HB12 : Aside0 (Below w1.heap.size w1 w2) := ⟨below_step (by repeat (first | exact Below.refl _ _ | apply below_alloc)) hb4⟩); (have HB2 : Aside0 (Below wr.heap.size wr w2) := ⟨below_step HB1.out HB12.out⟩); (have O4 := Aside0.mk (chain_along.off_new ho4 (Nat.le_trans HBr.out (by have := HB1.out.size; simp; omega)) (fun q hq => Nat.lt_of_lt_of_le (HOW.out q hq) (by have := HB1.out.size; simp; omega)))); (have L4 := Aside0.mk (Kd.R_reads' ho4).2.1); clear ho4 hb4 hk) | ((with_reducible refine (HF.out q s' r1 r2 m r3 y _ O' A2 c2 A4 c4 A3 c3 (HI.out _ _ _ _ HI0.out HB2.out) L2.out L4.out L3.out (Kd.F_below O2.out HB12.out) O4.out (Kd.F_below O3.out HB12.out) HS.out).mono ?_); rintro e w3 ⟨O3', rfl, hi3, hk3, hbk3, ho3⟩; have HI3 := Aside0.mk hi3; (have HBK3 : Aside0 (Below B w w3) := ⟨(HBK.out.trans (HB2.out.mono HBr.out)).trans hbk3⟩); have HK3 := Aside0.mk hk3; have HO3 := Aside0.mk ho3; clear hi3 hk3 ho3 hbk3))
      have HKK : Aside0 (Kept w w3 O) := ⟨((HK.out).below HB2.out).then_ HK3.out (fun k hk => (Nat.lt_or_ge k w.heap.size).imp (fun hlt => HOO.out k hlt hk) id)⟩
      have HOO3 : Aside0 (∀ q, q < w.heap.size → O3' q → O q) := ⟨fun k hlt hk => HOO.out k hlt (HO3.out k (Nat.lt_of_lt_of_le hlt (Nat.le_trans HK.out.1 HB2.out.size)) hk)⟩
      go_roundg q
      case measure => omega
      case rel => exact ⟨y.1, O3', r3, A3, c3, r4, (n + 1) % 18446744073709551616, rfl, rfl, by simp [IntKind.wrap, IntKind.bits, IntKind.signed], H, HI3, HKK, HBK3, HOO3, ⟨chain_along.off_move (Kd.F_below O3.out HB12.out) HK3.out HO3.out⟩, L3⟩

/-! ### chain_Entries: function 8 (given) -/
def chain_Entries.see (key : List Int) (k : Nat) (s : List S42 × List Int) (kd : Int) (b m t : List Int) : Option ((List S42 × List Int) × Int) :=
  (hmac_Tag.f k key m).bind fun g => (hmac_Same.f k g t).bind fun c => if c = true then (if s.1.length < 4398046511104 then some ((s.1 ++ [⟨kd, b⟩], t), 0) else none) else some (s, 29)
def chain_Entries.f (k : Nat) (key log : List Int) : Option (List S42 × List Int × Int) :=
  (chain_First.f).bind fun t => (chain_along.f (chain_Entries.see key) k log ([], t)).bind fun y => if y.2 = 0 then some (y.1.1, y.1.2, 0) else some ([], [], y.2)
theorem chain_Entries.see_mono (key : List Int) (k : Nat) (s : List S42 × List Int) (kd : Int) (b m t : List Int) : LeO (chain_Entries.see key k s kd b m t) (chain_Entries.see key (k + 1) s kd b m t) :=
  LeO.bind (hmac_Tag.mono _ _ _) fun g => LeO.bind (hmac_Same.mono _ _ _) fun c => LeO.refl _
theorem chain_Entries.mono (a0 a1 : List Int) (k : Nat) : LeO (chain_Entries.f k a0 a1) (chain_Entries.f (k + 1) a0 a1) :=
  LeO.bind (LeO.refl _) fun t => LeO.bind (chain_along.mono _ (chain_Entries.see_mono a0) _ _ _) fun y => LeO.refl _
/-- the variables that the closure holds: the key, what was read, the last tag -/
def chain_Entries.I (B g2 g7 g8 : Nat) (Ak : Option Addr) (ck : Nat) (key : List Int) (W : World) (s : List S42 × List Int) (O : Nat → Prop) : Prop :=
  ∃ vo vl, W.heap[g2]? = some (.cells #[.slice Ak key.length ck] 22 (0, 0)) ∧ W.heap[g7]? = some (.cells #[vo] 24 (0, 0)) ∧ W.heap[g8]? = some (.cells #[vl] 22 (0, 0)) ∧
    Kd.N k42 42 W B (fun q => B ≤ q ∧ q ≠ g7 ∧ q ≠ g8) vo s.1 ∧ Kd.V (Kd.int .u8) 5 W B (fun q => B ≤ q ∧ q ≠ g7 ∧ q ≠ g8 ∧ some q ≠ vo.ownBlock) vl s.2 ∧ Kd.F (Kd.int .u8) W (fun q => q < B) Ak key.length key ∧ ∀ q, O q ↔ q = g7 ∨ q = g8 ∨ some q = vo.ownBlock
theorem chain_Entries.I_below {B g2 g7 g8 : Nat} {Ak : Option Addr} {ck : Nat} {key : List Int} (W W' : World) (s : List S42 × List Int) (O : Nat → Prop) (h : chain_Entries.I B g2 g7 g8 Ak ck key W s O) (hb : Below W.heap.size W W') : chain_Entries.I B g2 g7 g8 Ak ck key W' s O := by
  obtain ⟨vo, vl, h2, h7, h8, hN, hV, hK, hO⟩ := h
  exact ⟨vo, vl, blk_below h2 hb, blk_below h7 hb, blk_below h8 hb, Kd.N_below hN hb, Kd.V_below hV hb, Kd.F_below hK hb, hO⟩
theorem chain_Entries.I_own {B g2 g7 g8 : Nat} {Ak : Option Addr} {ck : Nat} {key : List Int} (h7B : B ≤ g7) (h8B : B ≤ g8) (W : World) (s : List S42 × List Int) (O : Nat → Prop) (h : chain_Entries.I B g2 g7 g8 Ak ck key W s O) : ∀ q, O q → B ≤ q ∧ q < W.heap.size := by
  obtain ⟨vo, vl, h2, h7, h8, hN, hV, hK, hO⟩ := h
  intro q hq
  rcases (hO q).1 hq with rfl | rfl | he
  · exact ⟨h7B, blk_lt h7⟩
  · exact ⟨h8B, blk_lt h8⟩
  · exact ⟨Kd.N_base hN q he.symm, Kd.N_lt hN q he.symm⟩
set_option maxHeartbeats 16000000 in
set_option maxRecDepth 100000 in
theorem chain_Entries1.calls (B g2 g7 g8 : Nat) (Ak : Option Addr) (ck : Nat) (key : List Int) (hck : key.length ≤ ck) (h72 : g2 < g7) (h78 : g7 < g8) (hB7 : B ≤ g2)
    (k : Nat) (s : List S42 × List Int) (kd : Int) (b m t : List Int) (r : (List S42 × List Int) × Int) (W : World) (O : Nat → Prop) (Ab : Option Addr) (cb : Nat) (Am : Option Addr) (cm : Nat) (At : Option Addr) (ct : Nat) (hi : chain_Entries.I B g2 g7 g8 Ak ck key W s O) (hlb : b.length ≤ cb) (hlm : m.length ≤ cm) (hlt : t.length ≤ ct)
    (hb : chain_along.Off W B O Ab b) (hm : chain_along.Off W B O Am m) (ht : chain_along.Off W B O At t) (h : chain_Entries.see key k s kd b m t = some r) :
    Calls Try.prog 26 (#[.agg #[.int .i64 kd, .slice Ab b.length cb, .slice Am m.length cm, .slice At t.length ct]] ++ #[.pointer (some ⟨g2, 0, none⟩), .pointer (some ⟨g7, 0, none⟩), .pointer (some ⟨g8, 0, none⟩)]) W (chain_along.Post B (chain_Entries.I B g2 g7 g8 Ak ck key) W O r) := by
  have hu := Try.underlying42
  have hu2 := Try.underlying49
  obtain ⟨vo, vl, h2, h7, h8, hN, hV, hK, hO⟩ := hi
  unfold chain_Entries.see at h
  obtain ⟨g, hg, h⟩ := Option.bind_eq_some_iff.mp h
  obtain ⟨c, hc, h⟩ := Option.bind_eq_some_iff.mp h
  have z2 : (W.alloc (.cells #[.int .i64 kd, .slice Ab b.length cb, .slice Am m.length cm, .slice At t.length ct] 49)).cell? ⟨g2, 0, none⟩ = some (.slice Ak key.length ck) := (blk_cell (blk_alloc h2 _) 0).trans rfl
  have hl2 := blk_lt h2
  have hl7 := blk_lt h7
  have hl8 := blk_lt h8
  have HCK := Aside0.mk hck
  have HLB := Aside0.mk hlb
  have HLM := Aside0.mk hlm
  have HLT := Aside0.mk hlt
  have HOB := Aside0.mk hb
  have HOM := Aside0.mk hm
  have HOT := Aside0.mk ht
  have HH2 := Aside0.mk h2
  have HH7 := Aside0.mk h7
  have HH8 := Aside0.mk h8
  have HN := Aside0.mk hN
  have HV := Aside0.mk hV
  have HKY := Aside0.mk hK
  have HOO := Aside0.mk hO
  have HG := Aside0.mk hg
  have HC := Aside0.mk hc
  have H := Aside0.mk h
  have L78 := Aside0.mk (And.intro h72 (And.intro h78 hB7))
  have LL := Aside0.mk (And.intro hl2 (And.intro hl7 hl8))
  clear hck hlb hlm hlt hb hm ht h2 h7 h8 hN hV hK hO hg hc h h72 h78 hB7 hl2 hl7 hl8
  have zm : (W.alloc (.cells #[.int .i64 kd, .slice Ab b.length cb, .slice Am m.length cm, .slice At t.length ct] 49)).cell? ⟨W.heap.size, 2, none⟩ = some (.slice Am m.length cm) := (blk_cell (blk_new _ _) 2).trans rfl
  have zt : (W.alloc (.cells #[.int .i64 kd, .slice Ab b.length cb, .slice Am m.length cm, .slice At t.length ct] 49)).cell? ⟨W.heap.size, 3, none⟩ = some (.slice At t.length ct) := (blk_cell (blk_new _ _) 3).trans rfl
  have HX : Aside0 ((W.alloc (.cells #[.int .i64 kd, .slice Ab b.length cb, .slice Am m.length cm, .slice At t.length ct] 49)).heap[W.heap.size]? = some (.cells #[.int .i64 kd, .slice Ab b.length cb, .slice Am m.length cm, .slice At t.length ct] 49 (0, 0))) := ⟨blk_new _ _⟩
  simp only [List.append_toArray]
  cases c with
  | false =>
    obtain rfl := Option.some.inj ((if_neg (by decide)).symm.trans H.out)
    clear H h
    go_enter Try.func26, Try.ntmps26
    go_wp2
    go_region_held3 (fun w' => w'.cell? ⟨g2, 0, none⟩ = some (.slice Ak key.length ck) ∧ w'.cell? ⟨W.heap.size, 2, none⟩ = some (.slice Am m.length cm) ∧ w'.cell? ⟨W.heap.size, 3, none⟩ = some (.slice At t.length ct)) (first | exact ⟨z2, zm, zt⟩ | exact ⟨pw_cell_below HB5.out z2, pw_cell_below HB5.out zm, pw_cell_below HB5.out zt⟩) (first | (go_at_call 16; (with_reducible refine (hmac_Tag.calls k Ak ck key Am cm m g _ (Kd.C_below (Kd.F_now HKY.out) (by repeat (first | exact Below.refl _ _ | apply below_alloc | apply below_drew))) HCK.out (Kd.C_below (Kd.F_now HOM.out) (by repeat (first | exact Below.refl _ _ | apply below_alloc | apply below_drew))) HLM.out HG.out).mono ?_); rintro e w5 ⟨v5, rfl, ho5, hb5⟩; (obtain ⟨A5, c5, rfl⟩ := Kd.R_slice ho5); (have hb5' : Below (W.alloc (.cells #[.int .i64 kd, .slice Ab b.length cb, .slice Am m.length cm, .slice At t.length ct] 49)).heap.size (W.alloc (.cells #[.int .i64 kd, .slice Ab b.length cb, .slice Am m.length cm, .slice At t.length ct] 49)) w5 := below_step (by repeat (first | exact Below.refl _ _ | apply below_drew)) hb5); (have HB5 := Aside0.mk hb5'); (have HO5 := Aside0.mk ho5); clear ho5 hb5 hb5') | (go_at_call 27; (with_reducible refine (hmac_Same.calls k A5 c5 g At ct t _ _ (Kd.C_below (Kd.R_reads' HO5.out).2.2 (by repeat (exact Below.refl _ _))) (Kd.R_reads' HO5.out).2.1 (Kd.C_below (Kd.F_now HOT.out) (by (exact below_step (below_alloc (Below.refl _ _) _) HB5.out))) HLT.out HC.out).mono ?_); rintro e w6 ⟨rfl, ⟨nd, rfl⟩⟩))
    go_wp2
    go_ret
    have HB6 : Below W.heap.size W (w5.drewN nd) := pw_below_drewN (below_step (below_alloc (Below.refl _ _) _) HB5.out) nd
    exact ⟨O, rfl, chain_Entries.I_below _ _ _ _ ⟨vo, vl, HH2.out, HH7.out, HH8.out, HN.out, HV.out, HKY.out, HOO.out⟩ HB6, Kept.of_below HB6 _, HB6.mono (by have h1 := LL.out; have h3 := L78.out; omega), fun _ _ h => h⟩
  | true =>
    have h' : (if s.1.length < 4398046511104 then some (((s.1 ++ [⟨kd, b⟩], t), 0) : (List S42 × List Int) × Int) else none) = some r := (if_pos rfl).symm.trans H.out
    by_cases hlen : s.1.length < 4398046511104
    case neg => rw [if_neg hlen] at h'; exact absurd h' (by simp)
    rw [if_pos hlen] at h'
    obtain rfl := Option.some.inj h'
    have HLEN := Aside0.mk hlen
    clear H h h' hlen
    go_enter Try.func26, Try.ntmps26
    go_wp2
    go_region_held3 (fun w' => w'.cell? ⟨g2, 0, none⟩ = some (.slice Ak key.length ck) ∧ w'.cell? ⟨W.heap.size, 2, none⟩ = some (.slice Am m.length cm) ∧ w'.cell? ⟨W.heap.size, 3, none⟩ = some (.slice At t.length ct)) (first | exact ⟨z2, zm, zt⟩ | exact ⟨pw_cell_below HB5.out z2, pw_cell_below HB5.out zm, pw_cell_below HB5.out zt⟩) (first | (go_at_call 16; (with_reducible refine (hmac_Tag.calls k Ak ck key Am cm m g _ (Kd.C_below (Kd.F_now HKY.out) (by repeat (first | exact Below.refl _ _ | apply below_alloc | apply below_drew))) HCK.out (Kd.C_below (Kd.F_now HOM.out) (by repeat (first | exact Below.refl _ _ | apply below_alloc | apply below_drew))) HLM.out HG.out).mono ?_); rintro e w5 ⟨v5, rfl, ho5, hb5⟩; (obtain ⟨A5, c5, rfl⟩ := Kd.R_slice ho5); (have hb5' : Below (W.alloc (.cells #[.int .i64 kd, .slice Ab b.length cb, .slice Am m.length cm, .slice At t.length ct] 49)).heap.size (W.alloc (.cells #[.int .i64 kd, .slice Ab b.length cb, .slice Am m.length cm, .slice At t.length ct] 49)) w5 := below_step (by repeat (first | exact Below.refl _ _ | apply below_drew)) hb5); (have HB5 := Aside0.mk hb5'); (have HO5 := Aside0.mk ho5); clear ho5 hb5 hb5') | (go_at_call 27; (with_reducible refine (hmac_Same.calls k A5 c5 g At ct t _ _ (Kd.C_below (Kd.R_reads' HO5.out).2.2 (by repeat (exact Below.refl _ _))) (Kd.R_reads' HO5.out).2.1 (Kd.C_below (Kd.F_now HOT.out) (by (exact below_step (below_alloc (Below.refl _ _) _) HB5.out))) HLT.out HC.out).mono ?_); rintro e w6 ⟨rfl, ⟨nd, rfl⟩⟩))
    have HB6 : Aside0 (Below W.heap.size W (w5.drewN nd)) := ⟨pw_below_drewN (below_step (below_alloc (Below.refl _ _) _) HB5.out) nd⟩
    have HX6 : Aside0 ((w5.drewN nd).heap[W.heap.size]? = some (.cells #[.int .i64 kd, .slice Ab b.length cb, .slice Am m.length cm, .slice At t.length ct] 49 (0, 0))) := ⟨blk_drewN (blk_below HX.out HB5.out) nd⟩
    rename_i hHeld
    clear hHeld HB5 HO5 z2 zm zt
    generalize w5.drewN nd = w6 at HB6 HX6 ⊢
    have H72 : Aside0 (w6.heap[g2]? = some (.cells #[.slice Ak key.length ck] 22 (0, 0))) := ⟨blk_below HH2.out HB6.out⟩
    have H77 : Aside0 (w6.heap[g7]? = some (.cells #[vo] 24 (0, 0))) := ⟨blk_below HH7.out HB6.out⟩
    have H78 : Aside0 (w6.heap[g8]? = some (.cells #[vl] 22 (0, 0))) := ⟨blk_below HH8.out HB6.out⟩
    have HN6 := Aside0.mk (Kd.N_below HN.out HB6.out)
    have y7 : w6.cell? ⟨g7, 0, none⟩ = some vo := (blk_cell H77.out 0).trans rfl
    have x0 : w6.cell? ⟨W.heap.size, 0, none⟩ = some (.int .i64 kd) := (blk_cell HX6.out 0).trans rfl
    have x1 : w6.cell? ⟨W.heap.size, 1, none⟩ = some (.slice Ab b.length cb) := (blk_cell HX6.out 1).trans rfl
    have q7 : some g7 ≠ vo.ownBlock := Kd.N_ne HN6.out H77.out (by decide)
    have q8 : some g8 ≠ vo.ownBlock := Kd.N_ne HN6.out H78.out (by decide)
    have q2 : some g2 ≠ vo.ownBlock := Kd.N_ne HN6.out H72.out (by decide)
    have qx : some W.heap.size ≠ vo.ownBlock := Kd.N_ne HN6.out HX6.out (by decide)
    have Q2 := Aside0.mk q2
    have Q7 := Aside0.mk q7
    have Q8 := Aside0.mk q8
    have QX := Aside0.mk qx
    clear q2 q7 q8 qx
    have e78 : g7 ≠ g8 := Nat.ne_of_lt L78.out.2.1
    have ex7 : W.heap.size ≠ g7 := Nat.ne_of_gt LL.out.2.1
    have ex8 : W.heap.size ≠ g8 := Nat.ne_of_gt LL.out.2.2
    have hfk : Aside0 (Kd.FK k42 w6 (fun q => B ≤ q ∧ ¬ O q) (⟨kd, b⟩ : S42) [.int .i64 kd, .slice Ab b.length cb]) := ⟨k42_mkF w6 _ ⟨kd, b⟩ HLB.out (Kd.F_below HOB.out HB6.out)⟩
    go_wp2_with ((with_reducible refine gate_builtin (b := .append) (xs := #[.tmp 14, .tmp 17]) rfl ?_); at_builtin; refine Kd.N_append k42 (w0 := w6) B rfl (.tmp 14) (.tmp 17) 24 42 (.agg #[(.int .i64 0), (.slice none 0 0)]) 32 rfl Try.underlying24 info42 rfl (by decide) (by omega) vo s.1 (⟨kd, b⟩ : S42) [.int .i64 kd, .slice Ab b.length cb] (fun q => B ≤ q ∧ q ≠ g7 ∧ q ≠ g8) (fun q => B ≤ q ∧ ¬ O q) rfl rfl hfk.out (fun q hq => ⟨⟨hq.1, fun e => hq.2 ((HOO.out q).2 (.inl e)), fun e => hq.2 ((HOO.out q).2 (.inr (.inl e)))⟩, fun e => hq.2 ((HOO.out q).2 (.inr (.inr e)))⟩) (fun q hq => ?fr) HN6.out (Below.refl _ _) ?bs (by have := HLEN.out; omega) ?_; (case fr => have h1 := HB6.out.size; have h2 := LL.out; have h3 := L78.out; exact ⟨by omega, by omega, by omega⟩); (case bs => have h1 := HB6.out.size; have h2 := LL.out; have h3 := L78.out; omega); intro v1 w7 hn1 _ hg1 hat1; (obtain ⟨A7, n7, c7, e7⟩ : ∃ A n c, v1 = .slice A n c := by obtain ⟨A, c, e⟩ := Kd.N_slice hn1; exact ⟨A, _, c, e⟩); subst e7; have HN7 := Aside0.mk hn1; have HGR := Aside0.mk hg1; have HAT := Aside0.mk hat1; (have k7 := blk_grown H77.out hg1 Q7.out); (have k8 := blk_grown H78.out hg1 Q8.out); (have kx := blk_grown HX6.out hg1 QX.out); (have K7 := Aside0.mk k7); (have K8 := Aside0.mk k8); (have K2 := Aside0.mk (blk_grown H72.out hg1 Q2.out)); (have f7 : w7.frozen? ⟨g7, 0, none⟩ = false := blk_frozen k7 0); (have y7' : w7.cell? ⟨g7, 0, none⟩ = some vo := (blk_cell k7 0).trans rfl); (have x3 : (w7.setCell ⟨g7, 0, none⟩ (.slice A7 n7 c7)).cell? ⟨W.heap.size, 3, none⟩ = some (.slice At t.length ct) := (blk_cell (blk_far kx ex7 _) 3).trans rfl); (have f8 : (w7.setCell ⟨g7, 0, none⟩ (.slice A7 n7 c7)).frozen? ⟨g8, 0, none⟩ = false := blk_frozen (blk_far k8 (Ne.symm e78) _) 0); (have y8 : (w7.setCell ⟨g7, 0, none⟩ (.slice A7 n7 c7)).cell? ⟨g8, 0, none⟩ = some vl := (blk_cell (blk_far k8 (Ne.symm e78) _) 0).trans rfl); clear hn1 hg1 hat1 k7 k8 kx)
    go_ret
    obtain ⟨l1, l2, l3⟩ := L78.out
    obtain ⟨m1, m2, m3⟩ := LL.out
    have e27 : g2 ≠ g7 := Nat.ne_of_lt l1
    have e28 : g2 ≠ g8 := Nat.ne_of_lt (Nat.lt_trans l1 l2)
    have hsz := HB6.out.size
    have hO7 : ∀ q, q < W.heap.size → some q = (Value.slice A7 n7 c7).ownBlock → some q = vo.ownBlock := fun q hq he => by
      rcases HAT.out with h | ⟨x, h, hx⟩
      · exact he.trans h
      · rw [h] at he
        have := Option.some.inj he
        omega
    have hk : Kept W ((w7.setCell ⟨g7, 0, none⟩ (.slice A7 n7 c7)).setCell ⟨g8, 0, none⟩ (.slice At t.length ct)) O :=
      ((Kept.of_grown HGR.out (Kept.of_below HB6.out O) (fun q hq => .inl ((HOO.out q).2 (.inr (.inr hq.symm))))).setCell (p := ⟨g7, 0, none⟩) (.inl ((HOO.out g7).2 (.inl rfl))) _).setCell (p := ⟨g8, 0, none⟩) (.inl ((HOO.out g8).2 (.inr (.inl rfl)))) _
    have hbb : Below B W ((w7.setCell ⟨g7, 0, none⟩ (.slice A7 n7 c7)).setCell ⟨g8, 0, none⟩ (.slice At t.length ct)) :=
      (((HB6.out.mono (by omega)).grown HGR.out (by omega) (fun q hq => Kd.N_base HN.out q hq)).setCell (p := ⟨g7, 0, none⟩) (by show B ≤ g7; omega) _).setCell (p := ⟨g8, 0, none⟩) (by show B ≤ g8; omega) _
    refine ⟨fun q => q = g7 ∨ q = g8 ∨ some q = (Value.slice A7 n7 c7).ownBlock, rfl, ⟨_, _, blk_far (blk_far K2.out e27 _) e28 _, blk_far (blk_put K7.out 0 _ rfl) e78 _, blk_put (blk_far K8.out (Ne.symm e78) _) 0 _ rfl, ?_, ⟨At, ct, rfl, HLT.out, ?_⟩, ?_, fun q => Iff.rfl⟩, hk, hbb, fun q hq ho => (HOO.out q).2 (ho.imp_right (Or.imp_right (hO7 q hq)))⟩
    · exact Kd.N_far (Kd.N_far HN7.out (fun q hq => hq.2.1) _) (fun q hq => hq.2.2) _
    · exact Kd.F_mono (Kd.F_step (Kd.F_bound HOT.out) (fun q hq hlt => hk.2 q hlt hq.1.2)) (fun q hq => ⟨hq.1.1, fun e => hq.1.2 ((HOO.out q).2 (.inl e)), fun e => hq.1.2 ((HOO.out q).2 (.inr (.inl e))), fun e => hq.1.2 ((HOO.out q).2 (.inr (.inr (hO7 q hq.2 e))))⟩)
    · exact Kd.F_kept HKY.out hk (fun q hq ho => by
        rcases (HOO.out q).1 ho with rfl | rfl | he
        · omega
        · omega
        · have := Kd.N_base HN.out q he.symm; omega)
theorem chain_Entries1.goes (c1 c2 c3 : Value) (z : Value) (w : World) : (callFunc 26 (#[z] ++ #[c1, c2, c3])).run Try.prog w = .ok (.enter 26 (#[z] ++ #[c1, c2, c3])) w := by go_simp
def chain_Entries.Post (w : World) (r1 : List S42) (r2 : List Int) (r3 : Int) (e : Ending) (w' : World) : Prop :=
  ∃ v0_ v1_ : Value, e = .returned (.tuple #[v0_, v1_, .int .i64 r3]) ∧ Kd.V k42 42 w' w.heap.size (fun k_ => (w.heap.size ≤ k_)) v0_ r1 ∧ Kd.V (Kd.int .u8) 5 w' w.heap.size (fun k_ => (w.heap.size ≤ k_)) v1_ r2 ∧ Below w.heap.size w w'
set_option maxHeartbeats 16000000 in
set_option maxRecDepth 100000 in
theorem chain_Entries.post (k : Nat) (A0 : Option Addr) (c0 : Nat) (l0 : List Int) (A1 : Option Addr) (c1 : Nat) (l1 : List Int) (r1 : List S42) (r2 : List Int) (r3 : Int) (w : World) (hr0 : Kd.C (Kd.int .u8) w A0 l0.length l0) (hc0 : l0.length ≤ c0) (hr1 : Kd.C (Kd.int .u8) w A1 l1.length l1) (hc1 : l1.length ≤ c1) (h : chain_Entries.f k l0 l1 = some (r1, r2, r3)) :
    Calls Try.prog 8 #[.slice A0 l0.length c0, .slice A1 l1.length c1] w (chain_Entries.Post w r1 r2 r3) := by
  unfold chain_Entries.f at h
  obtain ⟨t, ht, h⟩ := Option.bind_eq_some_iff.mp h
  obtain ⟨y, hy, h⟩ := Option.bind_eq_some_iff.mp h
  have HR0 := Aside0.mk hr0
  have HC0 := Aside0.mk hc0
  have HR1 := Aside0.mk hr1
  have HC1 := Aside0.mk hc1
  have HT := Aside0.mk ht
  have HY := Aside0.mk hy
  have H := Aside0.mk h
  clear hr0 hc0 hr1 hc1 ht hy h
  have HCL : Aside0 (∀ (c1 c2 c3 : Value) (z : Value) (w : World), (callFunc 26 (#[z] ++ #[c1, c2, c3])).run Try.prog w = .ok (.enter 26 (#[z] ++ #[c1, c2, c3])) w) := ⟨chain_Entries1.goes⟩
  go_enter Try.func8, Try.ntmps8
  go_wp2_with (((go_at_call 23; (with_reducible refine (chain_First.calls t _ HT.out).mono ?_); rintro e w1 ⟨v5, rfl, ho1, hb1⟩; (obtain ⟨AT, cT, rfl⟩ := Kd.R_slice ho1); (have HA := Aside0.mk ho1); (have HB := Aside0.mk hb1); clear ho1 hb1)))
  have hs1 : w.heap.size + 2 ≤ w1.heap.size := by have := HB.out.size; simpa using this
  have hbw : Below w.heap.size w (w1.alloc (.cells #[.slice AT t.length cT] 22)) := below_alloc (below_step (by repeat (first | exact Below.refl _ _ | apply below_alloc)) HB.out) _
  have hsz2 : (w.alloc (.cells #[.slice A0 l0.length c0] 22)).heap.size = w.heap.size + 1 := by simp
  have hk7 : (w1.alloc (.cells #[.slice AT t.length cT] 22)).heap[w.heap.size + 1]? = some (.cells #[.slice none 0 0] 24 (0, 0)) := by
    have := blk_alloc (blk_below (blk_new (w.alloc (.cells #[.slice A0 l0.length c0] 22)) (.cells #[.slice none 0 0] 24)) HB.out) (.cells #[.slice AT t.length cT] 22)
    rwa [hsz2] at this
  have hi0 : chain_Entries.I w.heap.size w.heap.size (w.heap.size + 1) w1.heap.size A0 c0 l0 (w1.alloc (.cells #[.slice AT t.length cT] 22)) ([], t) (fun q => q = w.heap.size + 1 ∨ q = w1.heap.size ∨ some q = (Value.slice none 0 0).ownBlock) := by
    refine ⟨_, _, blk_alloc (blk_below (blk_alloc (blk_new w _) _) HB.out) _, hk7, blk_new w1 _, Kd.N_nil _ _ _ _ _, ⟨AT, cT, rfl, (Kd.R_reads' HA.out).2.1, ?_⟩, Kd.F_below (Kd.C_F (Kd.heap_int .u8) HR0.out) hbw, fun q => Iff.rfl⟩
    refine Kd.F_alloc (Kd.F_mono (Kd.R_F (Kd.R_bound HA.out)) (fun q hq => ?_)) _
    have h1 := hq.2.1
    have h2 := hq.2.2.1
    have h3 : ((w.alloc (.cells #[.slice A0 l0.length c0] 22)).alloc (.cells #[.slice none 0 0] 24)).heap.size = w.heap.size + 2 := by simp
    rw [h3] at h1
    exact ⟨by omega, by omega, by omega, by simp [Value.ownBlock]⟩
  have HI0 := Aside0.mk hi0
  have HBW := Aside0.mk hbw
  have HS1 := Aside0.mk hs1
  clear hk7 hi0 hbw hsz2 hs1 HA HB
  obtain ⟨⟨y1, y2⟩, y3⟩ := y
  by_cases d : y3 = 0
  case neg =>
    have d1 : (y3 != 0) = true := by simpa using d
    have e := H.out
    simp only [if_neg d, Option.some.injEq, Prod.mk.injEq] at e
    obtain ⟨rfl, rfl, rfl⟩ := e
    clear d H h
    go_wp2_with (go_at_call 25; (with_reducible refine (chain_along.calls (chain_Entries.see l0) 26 #[.pointer (some ⟨w.heap.size, 0, none⟩), .pointer (some ⟨w.heap.size + 1, 0, none⟩), .pointer (some ⟨w1.heap.size, 0, none⟩)] w.heap.size (chain_Entries.I w.heap.size w.heap.size (w.heap.size + 1) w1.heap.size A0 c0 l0) chain_Entries.I_below (chain_Entries.I_own (Nat.le_succ _) (Nat.le_trans (Nat.le_add_right _ 2) HS1.out)) (fun z W => HCL.out _ _ _ z W) (chain_Entries1.calls w.heap.size w.heap.size (w.heap.size + 1) w1.heap.size A0 c0 l0 HC0.out (Nat.lt_succ_self _) (Nat.lt_of_lt_of_le (Nat.lt_succ_self _) HS1.out) (Nat.le_refl _)) k A1 c1 l1 ([], t) _ ((y1, y2), y3) _ (Kd.F_below (Kd.C_F (Kd.heap_int .u8) HR1.out) HBW.out) HC1.out HBW.out.size HI0.out HY.out).mono ?_); rintro e w3 ⟨O', rfl, hi3, hk3, hb3, ho3⟩; (obtain ⟨vo, vl, h2, h7, h8, hN, hV, hK, hO⟩ := hi3); (have y7 : w3.cell? ⟨w.heap.size + 1, 0, none⟩ = some vo := (blk_cell h7 0).trans rfl); (have y8 : w3.cell? ⟨w1.heap.size, 0, none⟩ = some vl := (blk_cell h8 0).trans rfl); have HN := Aside0.mk hN; have HV := Aside0.mk hV; have HB3 := Aside0.mk hb3; clear hk3 hb3 ho3 h2 h7 h8 hN hV hK hO)
    go_ret3
    exact ⟨_, _, rfl, Kd.R_V (Kd.R_nil _ _ _ 0 _), Kd.R_V (Kd.R_nil _ _ _ 0 _), HBW.out.trans HB3.out⟩
  subst d
  have e := H.out
  simp only [if_pos, Option.some.injEq, Prod.mk.injEq] at e
  obtain ⟨rfl, rfl, rfl⟩ := e
  clear H h
  go_wp2_with (go_at_call 25; (with_reducible refine (chain_along.calls (chain_Entries.see l0) 26 #[.pointer (some ⟨w.heap.size, 0, none⟩), .pointer (some ⟨w.heap.size + 1, 0, none⟩), .pointer (some ⟨w1.heap.size, 0, none⟩)] w.heap.size (chain_Entries.I w.heap.size w.heap.size (w.heap.size + 1) w1.heap.size A0 c0 l0) chain_Entries.I_below (chain_Entries.I_own (Nat.le_succ _) (Nat.le_trans (Nat.le_add_right _ 2) HS1.out)) (fun z W => HCL.out _ _ _ z W) (chain_Entries1.calls w.heap.size w.heap.size (w.heap.size + 1) w1.heap.size A0 c0 l0 HC0.out (Nat.lt_succ_self _) (Nat.lt_of_lt_of_le (Nat.lt_succ_self _) HS1.out) (Nat.le_refl _)) k A1 c1 l1 ([], t) _ ((y1, y2), 0) _ (Kd.F_below (Kd.C_F (Kd.heap_int .u8) HR1.out) HBW.out) HC1.out HBW.out.size HI0.out HY.out).mono ?_); rintro e w3 ⟨O', rfl, hi3, hk3, hb3, ho3⟩; (obtain ⟨vo, vl, h2, h7, h8, hN, hV, hK, hO⟩ := hi3); (have y7 : w3.cell? ⟨w.heap.size + 1, 0, none⟩ = some vo := (blk_cell h7 0).trans rfl); (have y8 : w3.cell? ⟨w1.heap.size, 0, none⟩ = some vl := (blk_cell h8 0).trans rfl); have HN := Aside0.mk hN; have HV := Aside0.mk hV; have HB3 := Aside0.mk hb3; clear hk3 hb3 ho3 h2 h7 h8 hN hV hK hO)
  go_quiet (fail)
  try go_wp2
  go_ret3
  exact ⟨_, _, rfl, Kd.V_mono (Kd.N_V (Kd.N_drewN HN.out _)) (fun q hq => hq.1), Kd.V_mono (Kd.V_drewN HV.out _) (fun q hq => hq.1), pw_below_drewN (HBW.out.trans HB3.out) _⟩
theorem chain_Entries.calls (k : Nat) (A0 : Option Addr) (c0 : Nat) (l0 : List Int) (A1 : Option Addr) (c1 : Nat) (l1 : List Int) (r1 : List S42) (r2 : List Int) (r3 : Int) (w : World) (hr0 : Kd.C (Kd.int .u8) w A0 l0.length l0) (hc0 : l0.length ≤ c0) (hr1 : Kd.C (Kd.int .u8) w A1 l1.length l1) (hc1 : l1.length ≤ c1) (h : chain_Entries.f k l0 l1 = some (r1, r2, r3)) :
    Calls Try.prog 8 #[.slice A0 l0.length c0, .slice A1 l1.length c1] w fun e w' => ∃ v0_ v1_ : Value, e = .returned (.tuple #[v0_, v1_, .int .i64 r3]) ∧ Kd.V k42 42 w' w.heap.size (fun k_ => (w.heap.size ≤ k_)) v0_ r1 ∧ Kd.V (Kd.int .u8) 5 w' w.heap.size (fun k_ => (w.heap.size ≤ k_)) v1_ r2 ∧ Below w.heap.size w w' :=
  (chain_Entries.post k A0 c0 l0 A1 c1 l1 r1 r2 r3 w hr0 hc0 hr1 hc1 h).mono fun _ _ h => h

/-! ### chain_Verify: function 12 -/
def chain_Verify.f (k : Nat) (l0 : List Int) (l1 : List Int) (a2 : Int) (l3 : List Int) : Option (Bool) := (chain_Entries.f k l0 l1).bind fun bt140 => (if bt140.2.2 = 0 then (if (bt140.1.length : Int) = a2 then ((hmac_Same.f k bt140.2.1 l3).bind fun t147 => (some t147)) else (some false)) else (some false))
theorem chain_Verify.mono : ∀ a0 a1 a2 a3 k, LeO (chain_Verify.f k a0 a1 a2 a3) (chain_Verify.f (k + 1) a0 a1 a2 a3) := by
  intro a0 a1 a2 a3 k
  unfold chain_Verify.f
  repeat' first | (with_reducible exact chain_Entries.mono _ _ _) | (with_reducible exact hmac_Same.mono _ _ _) | (with_reducible exact LeO.refl _) | (with_reducible refine LeO.ite ?_ ?_) | (with_reducible refine LeO.bind ?_ (fun _ => ?_))
set_option maxHeartbeats 8000000 in
set_option maxRecDepth 100000 in
theorem chain_Verify.calls (k : Nat) (A0 : Option Addr) (c0 : Nat) (l0 : List Int) (A1 : Option Addr) (c1 : Nat) (l1 : List Int) (a2 : Int) (A3 : Option Addr) (c3 : Nat) (l3 : List Int) (r : Bool) (w : World) (hr0 : Kd.C (Kd.int .u8) w A0 l0.length l0) (hc0 : l0.length ≤ c0) (hr1 : Kd.C (Kd.int .u8) w A1 l1.length l1) (hc1 : l1.length ≤ c1) (hr3 : Kd.C (Kd.int .u8) w A3 l3.length l3) (hc3 : l3.length ≤ c3) (h : chain_Verify.f k l0 l1 a2 l3 = some r) :
    Calls Try.prog 12 #[.slice A0 l0.length c0, .slice A1 l1.length c1, .int .i64 a2, .slice A3 l3.length c3] w fun e w' => e = .returned (.bool r) ∧ Below w.heap.size w w' := by
  have HR0 := Aside0.mk hr0
  have HC0 := Aside0.mk hc0
  clear hr0 hc0
  have HR1 := Aside0.mk hr1
  have HC1 := Aside0.mk hc1
  clear hr1 hc1
  have HR3 := Aside0.mk hr3
  have HC3 := Aside0.mk hc3
  clear hr3 hc3
  have HB := Aside0.mk (Below.refl w.heap.size w)
  have H : ((chain_Entries.f k l0 l1).bind fun bt140 => (if bt140.2.2 = 0 then (if (bt140.1.length : Int) = a2 then ((hmac_Same.f k bt140.2.1 l3).bind fun t147 => (some t147)) else (some false)) else (some false))) = some r := h
  clear h
  replace H := Option.bind_eq_some_iff.mp H
  obtain ⟨⟨t140, t143, t146⟩, A50, H⟩ := H
  replace H : (if t146 = 0 then (if (t140.length : Int) = a2 then ((hmac_Same.f k t143 l3).bind fun t147 => (some t147)) else (some false)) else (some false)) = some r := H
  have A5 := Aside0.mk A50
  clear A50
  by_cases c6 : t146 = 0
  rotate_left
  · rw [if_neg c6] at H
    have c6b0 : (t146 == 0) = false := beq_eq_false_iff_ne.mpr c6
    have c6b1 : (t146 != 0) = true := bne_iff_ne.mpr c6
    obtain rfl := Option.some.inj H
    go_enter Try.func12, Try.ntmps12
    go_wp2_with ((((with_reducible refine gate_callee (f := 8) rfl ?_); refine goesL_ (some 15) rfl rfl Try.func8 (by kernel_rfl) rfl #[.slice A0 l0.length c0, .slice A1 l1.length c1] rfl (by (try simp only [List.map_toArray, List.map_cons, List.map_nil]); (rfl)) ?_; (with_reducible refine (chain_Entries.calls k _ _ l0 _ _ l1 t140 t143 t146 _ ?side1 ?side2 ?side3 ?side4 A5.out).mono ?_); (case side1 => repeat (exact HR0.out)); (case side2 => exact HC0.out); (case side3 => repeat (exact HR1.out)); (case side4 => exact HC1.out); rintro e w14 ⟨v141, v144, rfl, ho0, ho1, hb⟩; refine ⟨_, rfl, ?_⟩; have n0_ := Aside0.mk (Kd.V_lower (Kd.V_mono (ok' := fun k_ => True) ho0 (fun k_ hk_ => trivial)) (below_size HB.out)); have n1_ := Aside0.mk (Kd.V_lower (Kd.V_mono (ok' := fun k_ => True) ho1 (fun k_ hk_ => trivial)) (below_size HB.out)); have n2_ := Aside0.mk (below_step HB.out hb); clear HB; have HO142 := n0_; have HO145 := n1_; have HB := n2_; clear n0_ n1_ n2_; (try clear hb); (try clear ho0); (try clear ho1))))
    go_ret
    exact ⟨by (rfl), HB.out⟩


  rw [if_pos c6] at H
  have c6b0 : (t146 == 0) = true := beq_iff_eq.mpr c6
  have c6b1 : (t146 != 0) = false := bne_eq_false_iff_eq.mpr c6
  clear c6
  by_cases c7 : (t140.length : Int) = a2
  rotate_left
  · rw [if_neg c7] at H
    have c7b0 : ((t140.length : Int) == a2) = false := beq_eq_false_iff_ne.mpr c7
    have c7b1 : ((t140.length : Int) != a2) = true := bne_iff_ne.mpr c7
    obtain rfl := Option.some.inj H
    go_enter Try.func12, Try.ntmps12
    go_wp2_with ((((with_reducible refine gate_callee (f := 8) rfl ?_); refine goesL_ (some 15) rfl rfl Try.func8 (by kernel_rfl) rfl #[.slice A0 l0.length c0, .slice A1 l1.length c1] rfl (by (try simp only [List.map_toArray, List.map_cons, List.map_nil]); (rfl)) ?_; (with_reducible refine (chain_Entries.calls k _ _ l0 _ _ l1 t140 t143 t146 _ ?side1 ?side2 ?side3 ?side4 A5.out).mono ?_); (case side1 => repeat (exact HR0.out)); (case side2 => exact HC0.out); (case side3 => repeat (exact HR1.out)); (case side4 => exact HC1.out); rintro e w12 ⟨v141, v144, rfl, ho0, ho1, hb⟩; refine ⟨_, rfl, ?_⟩; have n0_ := Aside0.mk (Kd.V_lower (Kd.V_mono (ok' := fun k_ => True) ho0 (fun k_ hk_ => trivial)) (below_size HB.out)); have n1_ := Aside0.mk (Kd.V_lower (Kd.V_mono (ok' := fun k_ => True) ho1 (fun k_ hk_ => trivial)) (below_size HB.out)); have n2_ := Aside0.mk (below_step HB.out hb); clear HB; have HO142 := n0_; have HO145 := n1_; have HB := n2_; clear n0_ n1_ n2_; (try clear hb); (try clear ho0); (try clear ho1); obtain ⟨Ao13, co13, eo13⟩ := Kd.V_slice HO142.out; subst eo13)))
    go_ret
    exact ⟨by (rfl), HB.out⟩
  rw [if_pos c7] at H
  have c7b0 : ((t140.length : Int) == a2) = true := beq_iff_eq.mpr c7
  have c7b1 : ((t140.length : Int) != a2) = false := bne_eq_false_iff_eq.mpr c7
  clear c7
  replace H := Option.bind_eq_some_iff.mp H
  obtain ⟨t147, A80, H⟩ := H
  replace H : (some t147) = some r := H
  have A8 := Aside0.mk A80
  clear A80
  obtain rfl := Option.some.inj H
  go_enter Try.func12, Try.ntmps12
  go_wp2_with (first | ((with_reducible refine gate_callee (f := 8) rfl ?_); refine goesL_ (some 15) rfl rfl Try.func8 (by kernel_rfl) rfl #[.slice A0 l0.length c0, .slice A1 l1.length c1] rfl (by (try simp only [List.map_toArray, List.map_cons, List.map_nil]); (rfl)) ?_; (with_reducible refine (chain_Entries.calls k _ _ l0 _ _ l1 t140 t143 t146 _ ?side1 ?side2 ?side3 ?side4 A5.out).mono ?_); (case side1 => repeat (exact HR0.out)); (case side2 => exact HC0.out); (case side3 => repeat (exact HR1.out)); (case side4 => exact HC1.out); rintro e w9 ⟨v141, v144, rfl, ho0, ho1, hb⟩; refine ⟨_, rfl, ?_⟩; have n0_ := Aside0.mk (Kd.V_lower (Kd.V_mono (ok' := fun k_ => True) ho0 (fun k_ hk_ => trivial)) (below_size HB.out)); have n1_ := Aside0.mk (Kd.V_lower (Kd.V_mono (ok' := fun k_ => True) ho1 (fun k_ hk_ => trivial)) (below_size HB.out)); have n2_ := Aside0.mk (below_step HB.out hb); clear HB; have HO142 := n0_; have HO145 := n1_; have HB := n2_; clear n0_ n1_ n2_; (try clear hb); (try clear ho0); (try clear ho1); obtain ⟨Ao10, co10, eo10⟩ := Kd.V_slice HO142.out; subst eo10; obtain ⟨Ao11, co11, eo11⟩ := Kd.V_slice HO145.out; subst eo11) | (go_at_call 27; (with_reducible refine (hmac_Same.calls k _ _ t143 _ _ l3 t147 _ ?side1 ?side2 ?side3 ?side4 A8.out).mono ?_); (case side1 => repeat ((exact (Kd.V_reads' HO145.out).2.2))); (case side2 => exact (Kd.V_reads' HO145.out).2.1); (case side3 => exact Kd.C_below HR3.out HB.out); (case side4 => exact HC3.out); rintro e w' ⟨rfl, ⟨nd, rfl⟩⟩))
  go_ret
  exact ⟨by (rfl), by repeat (with_reducible first | exact HB.out | apply pw_below_drewN)⟩/-! ### notaryref47_First: function 19 -/
def notaryref47_First.f  : Option (List Int) := if 32 ≤ 281474976710656 then (some (List.replicate 32 0)) else (none)
set_option maxHeartbeats 8000000 in
set_option maxRecDepth 100000 in
theorem notaryref47_First.calls  (r : List Int) (w : World) (h : notaryref47_First.f  = some r) :
    Calls Try.prog 19 #[] w fun e w' => ∃ v0_ : Value, e = .returned (v0_) ∧ Kd.R (Kd.int .u8) 5 w' w.heap.size (fun _ => True) v0_ r ∧ Below w.heap.size w w' := by
  have HB := Aside0.mk (Below.refl w.heap.size w)
  have H : (if 32 ≤ 281474976710656 then (some (List.replicate 32 0)) else (none)) = some r := h
  clear h
  by_cases c1 : 32 ≤ 281474976710656
  rotate_left
  · rw [if_neg c1] at H
    exact absurd H (by simp)


  rw [if_pos c1] at H
  have c1b0 := eq_true c1
  have c1b1 : decide (32 ≤ 281474976710656) = true := decide_eq_true c1
  clear c1
  obtain ⟨y148, hy148⟩ : ∃ y_ : List Int, y_ = (List.replicate 32 0) := ⟨_, rfl⟩
  replace H : (some y148) = some r := by (rw [hy148]; with_reducible exact H)
  have Ny148 := Aside0.mk hy148
  clear hy148
  obtain rfl := Option.some.inj H
  go_enter Try.func19, Try.ntmps19
  go_wp2_with ((((with_reducible refine gate_dst (N := 1) rfl ?_); refine Kd.R_make (Kd.int .u8) _ 5 rfl (N := 1) rfl 22 _ _ rfl 32 rfl rfl Try.underlying22 (.int .u8 0) 1 info5 rfl (by decide) (by omega) 0 (ok := fun _ => True) (okp := fun _ => True) rfl (fun _ hk => hk) trivial (by omega) (by omega) (Below.refl _ _) (Nat.le_refl _) ?_; intro v149 w2 ho3 hb hg_ hnew_; clear hg_ hnew_; (simp only [Int.reduceToNat] at ho3; rw [← Ny148.out] at ho3); have n0_ := Aside0.mk (Kd.R_lower ho3 (below_size HB.out)); have n1_ := Aside0.mk (below_step HB.out hb); clear HB; have HO150 := n0_; have HB := n1_; clear n0_ n1_; clear hb ho3)))
  go_ret
  exact ⟨_, by (rfl), by exact HO150.out, HB.out⟩/-! ### notarylaw47_awake: function 7 -/
def notarylaw47_awake.f (k : Nat)  : Option (Bool) := (notaryref47_First.f).bind fun t151 => ((chain_Verify.f k ([] : List Int) ([] : List Int) 0 t151).bind fun t154 => (if t154 = true then ((chain_First.f).bind fun t155 => (some ((t155.length : Int) == 32))) else (some false)))
theorem notarylaw47_awake.mono : ∀ k, LeO (notarylaw47_awake.f k ) (notarylaw47_awake.f (k + 1) ) := by
  intro  k
  unfold notarylaw47_awake.f
  repeat' first | (with_reducible exact chain_Verify.mono _ _ _ _ _) | (with_reducible exact LeO.refl _) | (with_reducible refine LeO.bind ?_ (fun _ => ?_))
set_option maxHeartbeats 8000000 in
set_option maxRecDepth 100000 in
theorem notarylaw47_awake.calls (k : Nat)  (r : Bool) (w : World) (h : notarylaw47_awake.f k  = some r) :
    Calls Try.prog 7 #[] w fun e w' => e = .returned (.bool r) ∧ Below w.heap.size w w' := by
  have HB := Aside0.mk (Below.refl w.heap.size w)
  have H : ((notaryref47_First.f).bind fun t151 => ((chain_Verify.f k ([] : List Int) ([] : List Int) 0 t151).bind fun t154 => (if t154 = true then ((chain_First.f).bind fun t155 => (some ((t155.length : Int) == 32))) else (some false)))) = some r := h
  clear h
  replace H := Option.bind_eq_some_iff.mp H
  obtain ⟨t151, A10, H⟩ := H
  replace H : ((chain_Verify.f k ([] : List Int) ([] : List Int) 0 t151).bind fun t154 => (if t154 = true then ((chain_First.f).bind fun t155 => (some ((t155.length : Int) == 32))) else (some false))) = some r := H
  have A1 := Aside0.mk A10
  clear A10
  replace H := Option.bind_eq_some_iff.mp H
  obtain ⟨t154, A20, H⟩ := H
  replace H : (if t154 = true then ((chain_First.f).bind fun t155 => (some ((t155.length : Int) == 32))) else (some false)) = some r := H
  have A2 := Aside0.mk A20
  clear A20
  by_cases c3 : t154 = true
  rotate_left
  · replace c3 := Bool.eq_false_iff.mpr c3
    subst c3
    have H1 : (some false) = some r := by rw [if_neg (show ¬ (false = true) by decide)] at H; exact H
    clear H
    have H := H1
    clear H1
    obtain rfl := Option.some.inj H
    go_enter Try.func7, Try.ntmps7
    go_wp2_with (first | ((with_reducible refine gate_callee (f := 19) rfl ?_); refine goesL_ (some 1) rfl rfl Try.func19 (by kernel_rfl) rfl #[] rfl (by (try simp only [List.map_toArray, List.map_cons, List.map_nil]); (done)) ?_; (with_reducible refine (notaryref47_First.calls  t151 _ A1.out).mono ?_); rintro e w10 ⟨v152, rfl, ho0, hb⟩; refine ⟨_, rfl, ?_⟩; have n0_ := Aside0.mk (Kd.R_lower ho0 (below_size HB.out)); have n1_ := Aside0.mk (below_step HB.out hb); clear HB; have HO153 := n0_; have HB := n1_; clear n0_ n1_; (try clear hb); (try clear ho0); obtain ⟨Ao11, co11, eo11⟩ := Kd.R_slice HO153.out; subst eo11) | ((with_reducible refine gate_callee (f := 12) rfl ?_); refine goesL_ (some 2) rfl rfl Try.func12 (by kernel_rfl) rfl #[.slice none 0 0, .slice none 0 0, .int .i64 0, .slice Ao11 t151.length co11] rfl (by (try simp only [List.map_toArray, List.map_cons, List.map_nil]); (rfl)) ?_; (refine (chain_Verify.calls k _ _ ([] : List Int) _ _ ([] : List Int) 0 _ _ t151 false _ ?side1 ?side2 ?side3 ?side4 ?side5 ?side6 A2.out).mono ?_); (case side1 => exact Kd.C_nil _ _); (case side2 => exact Nat.le_refl _); (case side3 => exact Kd.C_nil _ _); (case side4 => exact Nat.le_refl _); (case side5 => repeat ((exact (Kd.R_reads' HO153.out).2.2))); (case side6 => exact (Kd.R_reads' HO153.out).2.1); rintro e w12 ⟨rfl, hb⟩; refine ⟨_, rfl, ?_⟩; have n0_ := Aside0.mk (Kd.R_below (by exact HO153.out) hb); have n1_ := Aside0.mk (below_step HB.out hb); clear HO153; clear HB; have HO153 := n0_; have HB := n1_; clear n0_ n1_; (try clear hb); (skip)))
    go_ret
    exact ⟨by (rfl), HB.out⟩

  subst c3
  have H1 : ((chain_First.f).bind fun t155 => (some ((t155.length : Int) == 32))) = some r := by rw [if_pos rfl] at H; exact H
  clear H
  have H := H1
  clear H1
  replace H := Option.bind_eq_some_iff.mp H
  obtain ⟨t155, A40, H⟩ := H
  replace H : (some ((t155.length : Int) == 32)) = some r := H
  have A4 := Aside0.mk A40
  clear A40
  obtain rfl := Option.some.inj H
  go_enter Try.func7, Try.ntmps7
  go_wp2_with (first | ((with_reducible refine gate_callee (f := 19) rfl ?_); refine goesL_ (some 1) rfl rfl Try.func19 (by kernel_rfl) rfl #[] rfl (by (try simp only [List.map_toArray, List.map_cons, List.map_nil]); (done)) ?_; (with_reducible refine (notaryref47_First.calls  t151 _ A1.out).mono ?_); rintro e w5 ⟨v152, rfl, ho0, hb⟩; refine ⟨_, rfl, ?_⟩; have n0_ := Aside0.mk (Kd.R_lower ho0 (below_size HB.out)); have n1_ := Aside0.mk (below_step HB.out hb); clear HB; have HO153 := n0_; have HB := n1_; clear n0_ n1_; (try clear hb); (try clear ho0); obtain ⟨Ao6, co6, eo6⟩ := Kd.R_slice HO153.out; subst eo6) | ((with_reducible refine gate_callee (f := 12) rfl ?_); refine goesL_ (some 2) rfl rfl Try.func12 (by kernel_rfl) rfl #[.slice none 0 0, .slice none 0 0, .int .i64 0, .slice Ao6 t151.length co6] rfl (by (try simp only [List.map_toArray, List.map_cons, List.map_nil]); (rfl)) ?_; (refine (chain_Verify.calls k _ _ ([] : List Int) _ _ ([] : List Int) 0 _ _ t151 true _ ?side1 ?side2 ?side3 ?side4 ?side5 ?side6 A2.out).mono ?_); (case side1 => exact Kd.C_nil _ _); (case side2 => exact Nat.le_refl _); (case side3 => exact Kd.C_nil _ _); (case side4 => exact Nat.le_refl _); (case side5 => repeat ((exact (Kd.R_reads' HO153.out).2.2))); (case side6 => exact (Kd.R_reads' HO153.out).2.1); rintro e w7 ⟨rfl, hb⟩; refine ⟨_, rfl, ?_⟩; have n0_ := Aside0.mk (Kd.R_below (by exact HO153.out) hb); have n1_ := Aside0.mk (below_step HB.out hb); clear HO153; clear HB; have HO153 := n0_; have HB := n1_; clear n0_ n1_; (try clear hb); (skip)) | (go_at_call 23; (with_reducible refine (chain_First.calls  t155 _ A4.out).mono ?_); rintro e w8 ⟨v156, rfl, ho0, hb⟩; have n0_ := Aside0.mk (Kd.R_elder' (by exact HO153.out) (Kd.R_base ho0) hb); have n1_ := Aside0.mk (Kd.R_lower (Kd.R_new' ho0 (Kd.R_lt (by exact HO153.out))) (below_size HB.out)); have n2_ := Aside0.mk (below_step HB.out hb); clear HO153; clear HB; have HO153 := n0_; have HO157 := n1_; have HB := n2_; clear n0_ n1_ n2_; (try clear hb); (try clear ho0); obtain ⟨Ao9, co9, eo9⟩ := Kd.R_slice HO157.out; subst eo9))
  go_ret
  exact ⟨by (rfl), HB.out⟩
end Go.Proofs.Ytnkkgeglnmggpaa.PCr
