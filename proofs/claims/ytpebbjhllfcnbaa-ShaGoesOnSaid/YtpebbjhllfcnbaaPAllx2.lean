-- PRINTED by print.py (a twelfth state) out of the translation. Not trusted: Lean checks it.
import Derived.Test.YtpebbjhllfcnbaaPAllx0
import Derived.Test.YtpebbjhllfcnbaaPAllx1
import Derived.Test.YtpebbjhllfcnbaaPAllx3
namespace Go.Proofs.Ytpebbjhllfcnbaa.PAll
open Go.RowKit Go.Proofs.YtpebbjhllfcnbaaW.PrintWords Go.Proofs.YtpebbjhllfcnbaaW.PrintLast Go.Proofs.YtpebbjhllfcnbaaW.PrintMore
attribute [local go_sem] max2_int min2_int max_two min_two max_three min_three max_four min_four   -- for this text's walks alone
set_option linter.unusedVariables false
set_option linter.unusedSimpArgs false

/-! ### sha_rounds: function 24 (given) -/
/-- the numbers of primes' roots, 32 bits of each -/
def sha_rounds.go : List Int → Option (List Int)
  | [] => some []
  | p :: r => (root_Cube.f p).bind fun t => (sha_rounds.go r).bind fun l => some (t % 4294967296 :: l)
def sha_rounds.f : Option (List Int) := (root_Primes.f 64).bind fun ps => if ps.length = 64 then sha_rounds.go ps else none
theorem sha_rounds.drop_at (l : List Int) (j : Nat) (h : j < l.length) : l.drop j = rd l j :: l.drop (j + 1) := by
  rw [List.drop_eq_getElem_cons h]
  unfold rd
  rw [Int.toNat_natCast, List.getD_eq_getElem?_getD, List.getElem?_eq_getElem h]; rfl
theorem sha_rounds.set_at (d : List Int) (x : Int) (n : Nat) : (d ++ List.replicate (n + 1) 0).set d.length x = (d ++ [x]) ++ List.replicate n 0 := by
  rw [List.set_append_right _ _ (Nat.le_refl _), Nat.sub_self, List.replicate_succ, List.set_cons_zero]; simp
theorem sha_rounds.arr_set (k : IntKind) (l : List Int) (j : Nat) (x : Int) : (nums k l).toArray.setIfInBounds j (.int k x) = (nums k (l.set j x)).toArray := by
  apply Array.toList_inj.1
  simp [nums, List.map_set]
theorem sha_rounds.arr_get (k : IntKind) (l : List Int) (j : Nat) (h : j < l.length) : (nums k l).toArray[j]? = some (.int k l[j]) := by
  simp [nums, List.getElem?_eq_getElem h]
/-- block g holds these numbers of 32 bits -/
structure sha_rounds.Blk (W : World) (g : Nat) (l : List Int) : Prop where
  mk ::
  out : W.heap[g]? = some (.cells (nums .u32 l).toArray 38 (0, 0))
theorem sha_rounds.size (l : List Int) (h : l.length = 64) : (Try.prog.info? 38).map (·.size) = some (nums .u32 l).toArray.size := by
  rw [show (Try.prog.info? 38).map (·.size) = some 64 from by kernel_rfl]
  simp [nums, h]
theorem sha_rounds.ones (k : IntKind) (l : List Int) : (nums k l).toArray.all (·.oneCell') = true := by
  rw [Array.all_eq_true_iff_forall_mem]
  intro v hv
  simp [nums] at hv
  obtain ⟨a, _, rfl⟩ := hv
  rfl
theorem sha_rounds.below_row {w W : World} {g : Nat} (h : Below w.heap.size w W) (hg : w.heap.size ≤ g) (cs : Array Value) : Below w.heap.size w (W.setRow g cs) :=
  h.trans ⟨rfl, rfl, rfl, by simp, fun k hk => setRow_other _ _ _ _ (by omega)⟩
set_option maxHeartbeats 4000000 in
set_option maxRecDepth 100000 in
theorem sha_rounds.calls (r : List Int) (w : World) (h : sha_rounds.f = some r) :
    Calls Try.prog 24 #[] w fun e w' => e = .returned (.agg (nums .u32 r).toArray) ∧ Below w.heap.size w w' := by
  obtain ⟨ps, hps0, hgo0⟩ := Option.bind_eq_some_iff.mp h
  have hln : ps.length = 64 := by
    by_cases hl : ps.length = 64
    · exact hl
    · rw [if_neg hl] at hgo0; exact absurd hgo0 (by simp)
  rw [if_pos hln] at hgo0
  have HPS := Aside0.mk hps0
  have HGO := Aside0.mk hgo0
  have HLN := Aside0.mk hln
  clear h hps0 hgo0 hln
  have hnew : ∀ W : World, W.heap.size = w.heap.size → sha_rounds.Blk ((W.alloc (.cells (nums .u32 (List.replicate 64 0)).toArray 38)).alloc (.cells (nums .u32 (List.replicate 64 0)).toArray 38)) w.heap.size (List.replicate 64 0) ∧ sha_rounds.Blk ((W.alloc (.cells (nums .u32 (List.replicate 64 0)).toArray 38)).alloc (.cells (nums .u32 (List.replicate 64 0)).toArray 38)) (w.heap.size + 1) (List.replicate 64 0) := by
    intro W hW
    rw [← hW]
    exact ⟨⟨blk_alloc (blk_new _ _) _⟩, ⟨by have := blk_new (W.alloc (.cells (nums .u32 (List.replicate 64 0)).toArray 38)) (.cells (nums .u32 (List.replicate 64 0)).toArray 38); simpa using this⟩⟩
  have HNEW := Aside0.mk hnew
  clear hnew
  go_enter Try.func24, Try.ntmps24
  go_wp2_with (go_at_call 35; (with_reducible refine (root_Primes.calls _ ps _ HPS.out).mono ?_); rintro e w1 ⟨v4, rfl, ho, hb⟩; (obtain ⟨A4, c4, rfl, hle, hC⟩ := Kd.R_reads ho); have HO0 := Aside0.mk ho; have HB1 := Aside0.mk hb; clear ho hb hle hC)
  have HZ0 : Aside0 (sha_rounds.Blk w1 w.heap.size (List.replicate 64 0)) := ⟨⟨blk_below (HNEW.out w rfl).1.out HB1.out⟩⟩
  have HZ1 : Aside0 (sha_rounds.Blk w1 (w.heap.size + 1) (List.replicate 64 0)) := ⟨⟨blk_below (HNEW.out w rfl).2.out HB1.out⟩⟩
  have HB : Aside0 (Below w.heap.size w w1) := ⟨below_step (below_alloc (below_alloc (Below.refl _ _) _) _) HB1.out⟩
  have HO : Aside0 (Kd.R (Kd.int .i64) 3 w1 w.heap.size (fun _ => True) (Value.slice A4 ps.length c4) ps) := ⟨Kd.R_lower HO0.out (by simp; omega)⟩
  clear HB1 HO0 HNEW
  go_loopg [6] 64 (fun q v6 w' => ∃ (j : Nat) (d : List Int), v6 = .int .i64 (j : Int) ∧ j + q = 64 ∧ d.length = j ∧ Aside0 (∃ l, sha_rounds.go (ps.drop j) = some l ∧ d ++ l = r) ∧ Aside0 (sha_rounds.Blk w' w.heap.size (List.replicate 64 0)) ∧ Aside0 (sha_rounds.Blk w' (w.heap.size + 1) (d ++ List.replicate q 0)) ∧ Aside0 (Below w.heap.size w w') ∧ Aside0 (Kd.R (Kd.int .i64) 3 w' w.heap.size (fun _ => True) (Value.slice A4 ps.length c4) ps))
  case atStart => exact ⟨0, [], by go_num, rfl, rfl, ⟨⟨r, HGO.out, rfl⟩⟩, HZ0, HZ1, HB, HO⟩
  case round =>
    clear HZ0 HZ1 HB HO
    obtain ⟨j, d, rfl, hjq, hdl, HL, HZ0, HZ1, HB, HO⟩ := hrel
    have HDL := Aside0.mk hdl
    clear hdl
    cases gk with
    | zero =>
      obtain rfl : j = 64 := by omega
      have hb0 : decide (((64 : Nat) : Int) < (ps.length : Int)) = false := decide_eq_false (by have := HLN.out; omega)
      have hb1 : decide (64 < ps.length) = false := decide_eq_false (by have := HLN.out; omega)
      have hb2 : decide ((64 : Int) < (ps.length : Int)) = false := decide_eq_false (by have := HLN.out; omega)
      have hr : d = r := by
        obtain ⟨l, hl, hr⟩ := HL.out
        rw [List.drop_eq_nil_of_le (by have := HLN.out; omega)] at hl
        simp only [sha_rounds.go] at hl
        obtain rfl := Option.some.inj hl
        simpa using hr
      have HD : Aside0 (d.length = 64) := HDL
      subst hr
      have HZ2 : Aside0 (sha_rounds.Blk wr (w.heap.size + 1) d) := ⟨by simpa using HZ1.out⟩
      clear HZ1 HL
      go_wp2_with (first | (refine wpList_load_row rfl 38 (.tmp 1) rfl (w.heap.size + 1) rfl 38 _ (0, 0) _ HZ2.out.out Try.underlying38 rfl (sha_rounds.size d HD.out) ?_) | (refine wpList_store_row rfl 38 (.tmp 0) (.tmp 17) rfl w.heap.size _ rfl rfl 38 _ HZ0.out.out (sha_rounds.size d HD.out) (by have := HD.out; simp [nums, this]) (sha_rounds.ones _ _) ?_))
      refine bodyPost_ret (v := .agg (nums .u32 d).toArray) (results_cell_row rfl _ _ w.heap.size 38 _ (0, 0) _ rfl (setRow_heap _ _ _ _ _ _ HZ0.out.out) Try.underlying38 rfl (sha_rounds.size d HD.out)) rfl ⟨rfl, sha_rounds.below_row HB.out (Nat.le_refl _) _⟩
    | succ q =>
      have hj : j < ps.length := by have := HLN.out; omega
      have hjn : j < 64 := by omega
      have hb0 : decide ((j : Int) < (ps.length : Int)) = true := decide_eq_true (by omega)
      have hb1 : decide (j < ps.length) = true := decide_eq_true hj
      have hb2 : decide (j < 64) = true := decide_eq_true hjn
      have hb3 : decide ((j : Int) < 64) = true := decide_eq_true (by omega)
      obtain ⟨l, hl, hr⟩ := HL.out
      rw [sha_rounds.drop_at ps j hj] at hl
      obtain ⟨t, ht, hl⟩ := Option.bind_eq_some_iff.mp hl
      obtain ⟨l', hl', hl⟩ := Option.bind_eq_some_iff.mp hl
      obtain rfl := Option.some.inj hl
      have HT := Aside0.mk ht
      have HL' := Aside0.mk hl'
      have HR := Aside0.mk hr
      clear HL ht hl' hr hl
      obtain ⟨A4_, c4_, e4, hle, hC⟩ := Kd.R_reads HO.out
      obtain ⟨rfl, rfl⟩ : A4 = A4_ ∧ c4 = c4_ := by injection e4 with e1 e2 e3; exact ⟨e1, e3⟩
      clear e4
      obtain ⟨ad, eA, hcell⟩ := Kd.at_int hC (j : Int) (by omega) (by omega)
      subst eA
      rw [Int.toNat_natCast] at hcell
      clear hC hle
      go_wp2_with (go_at_call 36; (with_reducible refine (root_Cube.calls _ t _ HT.out).mono ?_); rintro e w2 ⟨rfl, hb2⟩; (have HZ0n : Aside0 (sha_rounds.Blk w2 w.heap.size (List.replicate 64 0)) := ⟨⟨blk_below HZ0.out.out hb2⟩⟩); (have HZ1n : Aside0 (sha_rounds.Blk w2 (w.heap.size + 1) (d ++ List.replicate (q + 1) 0)) := ⟨⟨blk_below HZ1.out.out hb2⟩⟩); (have HBn : Aside0 (Below w.heap.size w w2) := ⟨below_step HB.out hb2⟩); (have HOn : Aside0 (Kd.R (Kd.int .i64) 3 w2 w.heap.size (fun _ => True) (Value.slice (some ad) ps.length c4) ps) := ⟨Kd.R_below HO.out hb2⟩); (have hcl : w2.cell? ⟨w.heap.size + 1, j, none⟩ = some (.int .u32 (d ++ List.replicate (q + 1) 0)[j]!) := by rw [blk_cell HZ1n.out.out, sha_rounds.arr_get _ _ _ (by have := HDL.out; simp; omega)]; congr 2; rw [List.getElem!_eq_getElem?_getD, List.getElem?_eq_getElem]; rfl); (have hfz : w2.frozen? ⟨w.heap.size + 1, j, none⟩ = false := blk_frozen HZ1n.out.out _); clear hb2)
      go_roundg q
      case measure => omega
      case rel =>
        refine ⟨j + 1, d ++ [t % 4294967296], by go_num, by omega, by have := HDL.out; simp [this], ⟨⟨l', HL'.out, by rw [← HR.out]; simp⟩⟩, ⟨⟨blk_far HZ0n.out.out (by simp) _⟩⟩, ⟨⟨?_⟩⟩, ⟨HBn.out.setCell (by simp) _⟩, ⟨Kd.R_set HOn.out HZ1n.out.out (by decide) _ _⟩⟩
        have hs := blk_set HZ1n.out.out j (.int .u32 (t % 4294967296))
        rw [sha_rounds.arr_set] at hs
        have e := sha_rounds.set_at d (t % 4294967296) q
        rw [HDL.out] at e
        rw [e] at hs
        exact hs

/-! ### bits_RotateLeft32: function 50 -/
def bits_RotateLeft32.f (a0 : Int) (a1 : Int) : Option (Int) := if 0 ≤ (Go.bits .and .u64 (IntKind.u64.wrap (a1)) 31) then (if 0 ≤ (IntKind.u64.wrap (32 - (Go.bits .and .u64 (IntKind.u64.wrap (a1)) 31))) then (some (Go.bits .or .u32 (shl .u32 a0 (Go.bits .and .u64 (IntKind.u64.wrap (a1)) 31)) (shr .u32 a0 (IntKind.u64.wrap (32 - (Go.bits .and .u64 (IntKind.u64.wrap (a1)) 31)))))) else (none)) else (none)
set_option maxHeartbeats 8000000 in
set_option maxRecDepth 100000 in
theorem bits_RotateLeft32.calls (a0 : Int) (a1 : Int) (r : Int) (w : World) (h : bits_RotateLeft32.f a0 a1 = some r) :
    Calls Try.prog 50 #[.int .u32 a0, .int .i64 a1] w fun e w' => e = .returned (.int .u32 r) ∧ Drawn0 w w' := by
  have H : (if 0 ≤ (Go.bits .and .u64 (IntKind.u64.wrap (a1)) 31) then (if 0 ≤ (IntKind.u64.wrap (32 - (Go.bits .and .u64 (IntKind.u64.wrap (a1)) 31))) then (some (Go.bits .or .u32 (shl .u32 a0 (Go.bits .and .u64 (IntKind.u64.wrap (a1)) 31)) (shr .u32 a0 (IntKind.u64.wrap (32 - (Go.bits .and .u64 (IntKind.u64.wrap (a1)) 31)))))) else (none)) else (none)) = some r := h
  clear h
  obtain ⟨ji3, hji3⟩ : ∃ j_ : Int, (Go.bits .and .u64 (IntKind.u64.wrap (a1)) 31) = j_ := ⟨_, rfl⟩
  replace H : (if 0 ≤ (ji3) then (if 0 ≤ (IntKind.u64.wrap (32 - (ji3))) then (some (Go.bits .or .u32 (shl .u32 a0 (ji3)) (shr .u32 a0 (IntKind.u64.wrap (32 - (ji3)))))) else (none)) else (none)) = some r := by first | (rw [hji3] at H; exact H) | (simp only [hji3] at H ⊢; exact H)
  by_cases c4 : 0 ≤ (ji3)
  · rw [if_pos c4] at H
    have c4b0 := eq_true c4
    have c4b1 : decide (0 ≤ (ji3)) = true := decide_eq_true c4
    clear c4
    obtain ⟨ji5, hji5⟩ : ∃ j_ : Int, (shl .u32 a0 (ji3)) = j_ := ⟨_, rfl⟩
    replace H : (if 0 ≤ (IntKind.u64.wrap (32 - (ji3))) then (some (Go.bits .or .u32 (ji5) (shr .u32 a0 (IntKind.u64.wrap (32 - (ji3)))))) else (none)) = some r := by first | (rw [hji5] at H; exact H) | (simp only [hji5] at H ⊢; exact H)
    have hji5_ : (IntKind.u32.wrap (a0 * 2 ^ min (ji3).toNat 32)) = ji5 := hji5
    have hji5z : (ji3) ≤ 32 → (IntKind.u32.wrap (a0 * 2 ^ (ji3).toNat)) = ji5 := shl_small hji5
    obtain ⟨ji6, hji6⟩ : ∃ j_ : Int, (IntKind.u64.wrap (32 - (ji3))) = j_ := ⟨_, rfl⟩
    replace H : (if 0 ≤ (ji6) then (some (Go.bits .or .u32 (ji5) (shr .u32 a0 (ji6)))) else (none)) = some r := by first | (rw [hji6] at H; exact H) | (simp only [hji6] at H ⊢; exact H)
    by_cases c7 : 0 ≤ (ji6)
    · rw [if_pos c7] at H
      have c7b0 := eq_true c7
      have c7b1 : decide (0 ≤ (ji6)) = true := decide_eq_true c7
      clear c7
      obtain ⟨ji8, hji8⟩ : ∃ j_ : Int, (shr .u32 a0 (ji6)) = j_ := ⟨_, rfl⟩
      replace H : (some (Go.bits .or .u32 (ji5) (ji8))) = some r := by first | (rw [hji8] at H; exact H) | (simp only [hji8] at H ⊢; exact H)
      have hji8_ : (a0 / 2 ^ min (ji6).toNat 32) = ji8 := hji8
      have hji8z : (ji6) ≤ 32 → (a0 / 2 ^ (ji6).toNat) = ji8 := shr_small hji8
      obtain rfl := Option.some.inj H
      go_enter Try.func50, Try.ntmps50
      go_wp2
      go_ret
      exact ⟨by first | rfl | (simp; done) | (simp only [← hji3, ← hji5, ← hji6, ← hji8] <;> (first | rfl | simp)) | (simp [*]; done), by repeat (first | exact Drawn0.refl _ | apply Drawn0.step)⟩
    · rw [if_neg c7] at H
      exact absurd H (by simp)
  · rw [if_neg c4] at H
    exact absurd H (by simp)

/-! ### sha_rot: function 38 (given) -/
set_option maxHeartbeats 4000000 in
set_option maxRecDepth 100000 in
theorem bits_RotateLeft32.same (a0 : Int) (a1 : Int) (r : Int) (w : World) (h : bits_RotateLeft32.f a0 a1 = some r) :
    Calls Try.prog 50 #[.int .u32 a0, .int .i64 a1] w fun e w' => e = .returned (.int .u32 r) ∧ w = w' := by
  unfold bits_RotateLeft32.f at h
  obtain ⟨j3, h3⟩ : ∃ j_ : Int, (Go.bits .and .u64 (IntKind.u64.wrap (a1)) 31) = j_ := ⟨_, rfl⟩
  rw [h3] at h
  by_cases c4 : 0 ≤ j3
  · rw [if_pos c4] at h
    have c4b0 := eq_true c4
    have c4b1 : decide (0 ≤ j3) = true := decide_eq_true c4
    clear c4
    obtain ⟨j5, h5⟩ : ∃ j_ : Int, (shl .u32 a0 j3) = j_ := ⟨_, rfl⟩
    rw [h5] at h
    have h5_ : (IntKind.u32.wrap (a0 * 2 ^ min j3.toNat 32)) = j5 := h5
    have h5z : j3 ≤ 32 → (IntKind.u32.wrap (a0 * 2 ^ j3.toNat)) = j5 := shl_small h5
    obtain ⟨j6, h6⟩ : ∃ j_ : Int, (IntKind.u64.wrap (32 - j3)) = j_ := ⟨_, rfl⟩
    rw [h6] at h
    by_cases c7 : 0 ≤ j6
    · rw [if_pos c7] at h
      have c7b0 := eq_true c7
      have c7b1 : decide (0 ≤ j6) = true := decide_eq_true c7
      clear c7
      obtain ⟨j8, h8⟩ : ∃ j_ : Int, (shr .u32 a0 j6) = j_ := ⟨_, rfl⟩
      rw [h8] at h
      have h8_ : (a0 / 2 ^ min j6.toNat 32) = j8 := h8
      have h8z : j6 ≤ 32 → (a0 / 2 ^ j6.toNat) = j8 := shr_small h8
      obtain rfl := Option.some.inj h
      go_enter Try.func50, Try.ntmps50
      go_wp2
      go_ret
      exact ⟨by first | rfl | (simp; done) | (simp only [← h3, ← h5, ← h6, ← h8] <;> (first | rfl | simp)) | (simp [*]; done), rfl⟩
    · rw [if_neg c7] at h; exact absurd h (by simp)
  · rw [if_neg c4] at h; exact absurd h (by simp)
def sha_rot.f (a0 : Int) (a1 : Int) : Option (Int) := bits_RotateLeft32.f a0 (wrap64 (-a1))
theorem sha_rot.same (a0 : Int) (a1 : Int) (r : Int) (w : World) (h : sha_rot.f a0 a1 = some r) :
    Calls Try.prog 38 #[.int .u32 a0, .int .i64 a1] w fun e w' => e = .returned (.int .u32 r) ∧ w = w' := by
  have H := Aside0.mk h
  clear h
  unfold sha_rot.f at H
  go_enter Try.func38, Try.ntmps38
  go_wp2_with (go_at_call 50; (with_reducible refine (bits_RotateLeft32.same _ _ r _ H.out).mono ?_); rintro e w' ⟨rfl, rfl⟩)
  go_ret
  exact ⟨rfl, rfl⟩
theorem sha_rot.calls (a0 : Int) (a1 : Int) (r : Int) (w : World) (h : sha_rot.f a0 a1 = some r) :
    Calls Try.prog 38 #[.int .u32 a0, .int .i64 a1] w fun e w' => e = .returned (.int .u32 r) ∧ Drawn0 w w' :=
  (sha_rot.same a0 a1 r w h).mono fun e w' ⟨he, hw⟩ => ⟨he, hw ▸ Drawn0.refl _⟩
theorem sha_rot.still (a0 : Int) (a1 : Int) (r : Int) (w : World) (h : sha_rot.f a0 a1 = some r) :
    Calls Try.prog 38 #[.int .u32 a0, .int .i64 a1] w fun e w' => e = .returned (.int .u32 r) ∧ w' = w :=
  (sha_rot.same a0 a1 r w h).mono fun e w' ⟨he, hw⟩ => ⟨he, hw.symm⟩

/-! ### sha_spread: function 37 (given) -/
/-- a word of four bytes -/
def sha_spread.word (b0 b1 b2 b3 : Int) : Int := bits .or .u32 (bits .or .u32 (bits .or .u32 (IntKind.u32.wrap (IntKind.u32.wrap b0 * 16777216)) (IntKind.u32.wrap (IntKind.u32.wrap b1 * 65536))) (IntKind.u32.wrap (IntKind.u32.wrap b2 * 256))) (IntKind.u32.wrap b3)
def sha_spread.w0 (b : List Int) (j : Nat) : Int := sha_spread.word (rd b (4 * (j : Int))) (rd b (4 * (j : Int) + 1)) (rd b (4 * (j : Int) + 2)) (rd b (4 * (j : Int) + 3))
/-- the first sixteen -/
def sha_spread.begin (b : List Int) : Nat → List Int
  | 0 => []
  | n + 1 => sha_spread.begin b n ++ [sha_spread.w0 b n]
theorem sha_spread.begin_length (b : List Int) : ∀ n, (sha_spread.begin b n).length = n
  | 0 => rfl
  | n + 1 => by simp [sha_spread.begin, sha_spread.begin_length b n]
/-- one number more -/
def sha_spread.next (l : List Int) (i : Int) : Option Int :=
  (sha_rot.f (rd l (i - 15)) 7).bind fun a => (sha_rot.f (rd l (i - 15)) 18).bind fun b => (sha_rot.f (rd l (i - 2)) 17).bind fun c => (sha_rot.f (rd l (i - 2)) 19).bind fun d =>
    some (IntKind.u32.wrap (IntKind.u32.wrap (IntKind.u32.wrap (rd l (i - 16) + rd l (i - 7)) + bits .xor .u32 (bits .xor .u32 a b) (rd l (i - 15) / 8)) + bits .xor .u32 (bits .xor .u32 c d) (rd l (i - 2) / 1024)))
def sha_spread.more : Nat → List Int → Option (List Int)
  | 0, l => some l
  | n + 1, l => (sha_spread.next l (l.length : Int)).bind fun v => sha_spread.more n (l ++ [v])
def sha_spread.f (b : List Int) : Option (List Int) := sha_spread.more 48 (sha_spread.begin b 16)
theorem sha_spread.rd_get (l : List Int) (i : Int) (n : Nat) (h : i = (n : Int)) (hn : n < l.length) : rd l i = l[n] := by
  subst h
  unfold rd
  rw [Int.toNat_natCast, List.getD_eq_getElem?_getD, List.getElem?_eq_getElem hn]; rfl
theorem sha_spread.cell {W : World} {g : Nat} {l : List Int} {m : Nat} (h : sha_rounds.Blk W g (l ++ List.replicate m 0)) (i : Int) (h0 : 0 ≤ i) (h1 : i < l.length) : W.cell? ⟨g, i.toNat, none⟩ = some (.int .u32 (rd l i)) := by
  have hn : i.toNat < l.length := by omega
  rw [blk_cell h.out, sha_rounds.arr_get _ _ _ (by simp; omega), sha_spread.rd_get l i i.toNat (by omega) hn, List.getElem_append_left hn]
set_option maxHeartbeats 4000000 in
set_option maxRecDepth 100000 in
theorem sha_spread.calls (A0 : Option Addr) (c0 : Nat) (l0 : List Int) (r : List Int) (w : World) (hr0 : Kd.C (Kd.int .u8) w A0 l0.length l0) (hc0 : l0.length ≤ c0) (hl : l0.length = 64) (h : sha_spread.f l0 = some r) :
    Calls Try.prog 37 #[.slice A0 l0.length c0] w fun e w' => e = .returned (.agg (nums .u32 r).toArray) ∧ Below w.heap.size w w' := by
  have HR0 := Aside0.mk hr0
  have HLN := Aside0.mk hl
  have HF := Aside0.mk h
  clear hr0 hl h
  have hnew : ∀ W : World, W.heap.size = w.heap.size → sha_rounds.Blk ((W.alloc (.cells (nums .u32 (List.replicate 64 0)).toArray 38)).alloc (.cells (nums .u32 (List.replicate 64 0)).toArray 38)) w.heap.size (List.replicate 64 0) ∧ sha_rounds.Blk ((W.alloc (.cells (nums .u32 (List.replicate 64 0)).toArray 38)).alloc (.cells (nums .u32 (List.replicate 64 0)).toArray 38)) (w.heap.size + 1) (List.replicate 64 0) := by
    intro W hW
    rw [← hW]
    exact ⟨⟨blk_alloc (blk_new _ _) _⟩, ⟨by have := blk_new (W.alloc (.cells (nums .u32 (List.replicate 64 0)).toArray 38)) (.cells (nums .u32 (List.replicate 64 0)).toArray 38); simpa using this⟩⟩
  have HNEW := Aside0.mk hnew
  clear hnew
  go_enter Try.func37, Try.ntmps37
  go_wp2
  go_loopg [8] 16 (fun q v8 w' => ∃ (j : Nat) (d : List Int), v8 = .int .i64 (j : Int) ∧ j + q = 16 ∧ Aside0 (d = sha_spread.begin l0 j) ∧ Aside0 (sha_rounds.Blk w' w.heap.size (List.replicate 64 0)) ∧ Aside0 (sha_rounds.Blk w' (w.heap.size + 1) (d ++ List.replicate (48 + q) 0)) ∧ Aside0 (Below w.heap.size w w'))
  case atStart => exact ⟨0, [], by go_num, rfl, ⟨rfl⟩, ⟨⟨(HNEW.out w rfl).1.out⟩⟩, ⟨⟨(HNEW.out w rfl).2.out⟩⟩, ⟨below_alloc (below_alloc (Below.refl _ _) _) _⟩⟩
  case round =>
    obtain ⟨j, d, rfl, hjq, hdl, HZ0, HZ1, HB⟩ := hrel
    have HDL : Aside0 (d.length = j) := ⟨by rw [hdl.out, sha_spread.begin_length]⟩
    cases gk with
    | zero =>
      obtain rfl : j = 16 := by omega
      have hb0 : decide (((16 : Nat) : Int) < 16) = false := by decide
      have hd := hdl.out
      have HM : Aside0 (sha_spread.more 48 d = some r) := ⟨by rw [hd]; exact HF.out⟩
      clear hdl hd HF
      go_wp2
      obtain ⟨wo, rfl⟩ : ∃ wo : World, wo = wr := ⟨_, rfl⟩
      go_loopg [5] 48 (fun q v5 w' => ∃ (d : List Int), v5 = .int .i64 (d.length : Int) ∧ d.length + q = 64 ∧ 16 ≤ d.length ∧ Aside0 (sha_spread.more q d = some r) ∧ Aside0 (sha_rounds.Blk w' w.heap.size (List.replicate 64 0)) ∧ Aside0 (sha_rounds.Blk w' (w.heap.size + 1) (d ++ List.replicate q 0)) ∧ Aside0 (Below w.heap.size w w'))
      case atStart => exact ⟨d, by rw [HDL.out]; rfl, by have := HDL.out; omega, by have := HDL.out; omega, HM, HZ0, HZ1, HB⟩
      case round =>
        clear HZ0 HZ1 HB HM HDL
        obtain ⟨d, rfl, hdq, hd16, HM, HZ0, HZ1, HB⟩ := hrel
        cases gk with
        | zero =>
          have hd64 : d.length = 64 := by omega
          have HD := Aside0.mk hd64
          have hb0 : decide ((d.length : Int) < 64) = false := decide_eq_false (by omega)
          have hb1 : decide (d.length < 64) = false := decide_eq_false (by omega)
          have hm := HM.out
          simp only [sha_spread.more] at hm
          obtain rfl := Option.some.inj hm
          have HZ2 : Aside0 (sha_rounds.Blk wr (w.heap.size + 1) d) := ⟨by simpa using HZ1.out⟩
          clear HZ1 HM hd64 hdq hd16
          go_wp2_with (first | (refine wpList_load_row rfl 38 (.tmp 3) rfl (w.heap.size + 1) rfl 38 _ (0, 0) _ HZ2.out.out Try.underlying38 rfl (sha_rounds.size d HD.out) ?_) | (refine wpList_store_row rfl 38 (.tmp 2) (.tmp 88) rfl w.heap.size _ rfl rfl 38 _ HZ0.out.out (sha_rounds.size d HD.out) (by have := HD.out; simp [nums, this]) (sha_rounds.ones _ _) ?_))
          refine bodyPost_ret (v := .agg (nums .u32 d).toArray) (results_cell_row rfl _ _ w.heap.size 38 _ (0, 0) _ rfl (setRow_heap _ _ _ _ _ _ HZ0.out.out) Try.underlying38 rfl (sha_rounds.size d HD.out)) rfl ⟨rfl, sha_rounds.below_row HB.out (Nat.le_refl _) _⟩
        | succ q =>
          have hj64 : (d.length : Int) < 64 := by omega
          have hjb : decide ((d.length : Int) < 64) = true := decide_eq_true hj64
          have hjc : decide (d.length < 64) = true := decide_eq_true (by omega)
          have hc15 := sha_spread.cell HZ1.out ((d.length : Int) - 15) (by omega) (by omega)
          have hc2 := sha_spread.cell HZ1.out ((d.length : Int) - 2) (by omega) (by omega)
          have hc16 := sha_spread.cell HZ1.out ((d.length : Int) - 16) (by omega) (by omega)
          have hc7 := sha_spread.cell HZ1.out ((d.length : Int) - 7) (by omega) (by omega)
          have hw15 : IntKind.i64.wrap ((d.length : Int) - 15) = (d.length : Int) - 15 := IntWalk.i64_in _ (by omega)
          have hw2 : IntKind.i64.wrap ((d.length : Int) - 2) = (d.length : Int) - 2 := IntWalk.i64_in _ (by omega)
          have hw16 : IntKind.i64.wrap ((d.length : Int) - 16) = (d.length : Int) - 16 := IntWalk.i64_in _ (by omega)
          have hw7 : IntKind.i64.wrap ((d.length : Int) - 7) = (d.length : Int) - 7 := IntWalk.i64_in _ (by omega)
          have hp15 : 0 ≤ (d.length : Int) - 15 := by omega
          have hp2 : 0 ≤ (d.length : Int) - 2 := by omega
          have hp16 : 0 ≤ (d.length : Int) - 16 := by omega
          have hp7 : 0 ≤ (d.length : Int) - 7 := by omega
          have hs15 : 15 ≤ (d.length : Int) := by omega
          have hs2 : 2 ≤ (d.length : Int) := by omega
          have hs16 : 16 ≤ (d.length : Int) := by omega
          have hs7 : 7 ≤ (d.length : Int) := by omega
          have hl15 : (d.length : Int) - 15 < 64 := by omega
          have hl2 : (d.length : Int) - 2 < 64 := by omega
          have hl16 : (d.length : Int) - 16 < 64 := by omega
          have hl7 : (d.length : Int) - 7 < 64 := by omega
          have hm := HM.out
          simp only [sha_spread.more] at hm
          obtain ⟨v, hv, hm1⟩ := Option.bind_eq_some_iff.mp hm
          have HM2 := Aside0.mk hm1
          clear hm hm1 HM
          unfold sha_spread.next at hv
          obtain ⟨ra, hra, hv1⟩ := Option.bind_eq_some_iff.mp hv
          obtain ⟨rb, hrb, hv2⟩ := Option.bind_eq_some_iff.mp hv1
          obtain ⟨rc, hrc, hv3⟩ := Option.bind_eq_some_iff.mp hv2
          obtain ⟨rd', hrd, hv4⟩ := Option.bind_eq_some_iff.mp hv3
          have HV := Aside0.mk (Option.some.inj hv4)
          clear hv1 hv2 hv3 hv4
          have HRA := Aside0.mk hra
          have HRB := Aside0.mk hrb
          have HRC := Aside0.mk hrc
          have HRD := Aside0.mk hrd
          clear hv hra hrb hrc hrd
          generalize rd d ((d.length : Int) - 15) = x15 at *
          generalize rd d ((d.length : Int) - 2) = x2 at *
          generalize rd d ((d.length : Int) - 16) = x16 at *
          generalize rd d ((d.length : Int) - 7) = x7 at *
          go_wp2
          go_quiet (fail)
          obtain ⟨W3, hW3⟩ : ∃ W3, W3 = wr.drewN nq := ⟨_, rfl⟩
          have HZ0a : Aside0 (sha_rounds.Blk W3 w.heap.size (List.replicate 64 0)) := ⟨⟨by rw [hW3]; exact HZ0.out.out⟩⟩
          have HZ1a : Aside0 (sha_rounds.Blk W3 (w.heap.size + 1) (d ++ List.replicate (q + 1) 0)) := ⟨⟨by rw [hW3]; exact HZ1.out.out⟩⟩
          have HBa : Aside0 (Below w.heap.size w W3) := ⟨by rw [hW3]; exact pw_below_drewN HB.out _⟩
          have ha16 : W3.cell? ⟨w.heap.size + 1, ((d.length : Int) - 16).toNat, none⟩ = some (.int .u32 x16) := by rw [hW3]; exact hc16
          have ha7 : W3.cell? ⟨w.heap.size + 1, ((d.length : Int) - 7).toNat, none⟩ = some (.int .u32 x7) := by rw [hW3]; exact hc7
          rw [← hW3]
          clear hW3 HZ0 HZ1 HB hc15 hc2 hc16 hc7
          go_wp2
          obtain ⟨W4, hW4⟩ : ∃ W4, W4 = W3.drew := ⟨_, rfl⟩
          have HZ0n : Aside0 (sha_rounds.Blk W4 w.heap.size (List.replicate 64 0)) := ⟨⟨by rw [hW4]; exact HZ0a.out.out⟩⟩
          have HZ1n : Aside0 (sha_rounds.Blk W4 (w.heap.size + 1) (d ++ List.replicate (q + 1) 0)) := ⟨⟨by rw [hW4]; exact HZ1a.out.out⟩⟩
          have HBn : Aside0 (Below w.heap.size w W4) := ⟨by rw [hW4]; exact below_drew HBa.out⟩
          have HW := Aside0.mk hW4
          clear hW4
          go_still_tail 29, (by kernel_rfl)
          still_call (sha_rot.still x15 7 _ _ HRA.out)
          repeat still_step
          still_call (sha_rot.still x15 18 _ _ HRB.out)
          repeat still_step
          still_call (sha_rot.still x2 17 _ _ HRC.out)
          repeat still_step
          still_call (sha_rot.still x2 19 _ _ HRD.out)
          repeat still_step
          refine wpStill_nil ?_
          change wpList _ _ _ _ _ W3.drew
          rw [← HW.out, HV.out]
          clear HW ha16 ha7
          have hcl : W4.cell? ⟨w.heap.size + 1, d.length, none⟩ = some (.int .u32 (d ++ List.replicate (q + 1) 0)[d.length]!) := by
            rw [blk_cell HZ1n.out.out, sha_rounds.arr_get _ _ _ (by simp)]; congr 2; rw [List.getElem!_eq_getElem?_getD, List.getElem?_eq_getElem]; rfl
          have hfz : W4.frozen? ⟨w.heap.size + 1, d.length, none⟩ = false := blk_frozen HZ1n.out.out _
          go_wp2
          go_roundg q
          case measure => omega
          case rel =>
            refine ⟨d ++ [v], by simp, by simp; omega, by simp; omega, HM2, ⟨⟨blk_far HZ0n.out.out (by simp) _⟩⟩, ⟨⟨?_⟩⟩, ⟨HBn.out.setCell (by simp) _⟩⟩
            have hs := blk_set HZ1n.out.out d.length (.int .u32 v)
            rw [sha_rounds.arr_set, sha_rounds.set_at d v q] at hs
            exact hs
    | succ q =>
      have hj : j < 16 := by omega
      have hb0 : decide ((j : Int) < 16) = true := decide_eq_true (by omega)
      have hb2 : decide (j < 64) = true := decide_eq_true (by omega)
      have hb3 : decide ((j : Int) < 64) = true := decide_eq_true (by omega)
      have hC := Kd.C_below HR0.out HB.out
      obtain ⟨ad, eA, hc0⟩ := Kd.at_int hC (4 * (j : Int)) (by omega) (by have := HLN.out; omega)
      obtain ⟨ad1, eA1, hc1⟩ := Kd.at_int hC (4 * (j : Int) + 1) (by omega) (by have := HLN.out; omega)
      obtain ⟨ad2, eA2, hc2⟩ := Kd.at_int hC (4 * (j : Int) + 2) (by omega) (by have := HLN.out; omega)
      obtain ⟨ad3, eA3, hc3⟩ := Kd.at_int hC (4 * (j : Int) + 3) (by omega) (by have := HLN.out; omega)
      subst eA
      obtain rfl : ad = ad1 := by injection eA1
      obtain rfl : ad = ad2 := by injection eA2
      obtain rfl : ad = ad3 := by injection eA3
      clear eA1 eA2 eA3
      have hw0 : IntKind.i64.wrap (4 * (j : Int)) = 4 * (j : Int) := IntWalk.i64_in _ (by omega)
      have hw1 : IntKind.i64.wrap (4 * (j : Int) + 1) = 4 * (j : Int) + 1 := IntWalk.i64_in _ (by omega)
      have hw2 : IntKind.i64.wrap (4 * (j : Int) + 2) = 4 * (j : Int) + 2 := IntWalk.i64_in _ (by omega)
      have hw3 : IntKind.i64.wrap (4 * (j : Int) + 3) = 4 * (j : Int) + 3 := IntWalk.i64_in _ (by omega)
      have HD2 : Aside0 (d ++ [sha_spread.word (rd l0 (4 * (j : Int))) (rd l0 (4 * (j : Int) + 1)) (rd l0 (4 * (j : Int) + 2)) (rd l0 (4 * (j : Int) + 3))] = sha_spread.begin l0 (j + 1)) := ⟨by rw [hdl.out]; rfl⟩
      clear hdl
      generalize rd l0 (4 * (j : Int)) = b0 at hc0 HD2
      generalize rd l0 (4 * (j : Int) + 1) = b1 at hc1 HD2
      generalize rd l0 (4 * (j : Int) + 2) = b2 at hc2 HD2
      generalize rd l0 (4 * (j : Int) + 3) = b3 at hc3 HD2
      have hq0 : 4 * (j : Int) < (l0.length : Int) := by have := HLN.out; omega
      have hq1 : 4 * (j : Int) + 1 < (l0.length : Int) := by have := HLN.out; omega
      have hq2 : 4 * (j : Int) + 2 < (l0.length : Int) := by have := HLN.out; omega
      have hq3 : 4 * (j : Int) + 3 < (l0.length : Int) := by have := HLN.out; omega
      have hj64 : (j : Int) < 64 := by omega
      have hj65 : j < 64 := by omega
      have hn0 : 0 ≤ 4 * (j : Int) := by omega
      have hn1 : 0 ≤ 4 * (j : Int) + 1 := by omega
      have hn2 : 0 ≤ 4 * (j : Int) + 2 := by omega
      have hn3 : 0 ≤ 4 * (j : Int) + 3 := by omega
      clear hC
      go_wp2
      obtain ⟨W2, hW2⟩ : ∃ W2, W2 = wr.drew := ⟨_, rfl⟩
      have HZ0n : Aside0 (sha_rounds.Blk W2 w.heap.size (List.replicate 64 0)) := ⟨⟨by rw [hW2]; exact HZ0.out.out⟩⟩
      have HZ1n : Aside0 (sha_rounds.Blk W2 (w.heap.size + 1) (d ++ List.replicate (48 + q + 1) 0)) := ⟨⟨by rw [hW2]; exact HZ1.out.out⟩⟩
      have HBn : Aside0 (Below w.heap.size w W2) := ⟨by rw [hW2]; exact below_drew HB.out⟩
      have HW := Aside0.mk hW2
      clear hW2
      go_still_tail 35, (by kernel_rfl)
      change wpList _ _ _ _ _ wr.drew
      rw [← HW.out]
      clear HW hc0 hc1 hc2 hc3
      have hcl : W2.cell? ⟨w.heap.size + 1, j, none⟩ = some (.int .u32 (d ++ List.replicate (48 + q + 1) 0)[j]!) := by
        rw [blk_cell HZ1n.out.out, sha_rounds.arr_get _ _ _ (by have := HDL.out; simp; omega)]; congr 2; rw [List.getElem!_eq_getElem?_getD, List.getElem?_eq_getElem]; rfl
      have hfz : W2.frozen? ⟨w.heap.size + 1, j, none⟩ = false := blk_frozen HZ1n.out.out _
      go_wp2
      go_roundg q
      case measure => omega
      case rel =>
        refine ⟨j + 1, d ++ [sha_spread.word b0 b1 b2 b3], by go_num, by omega, HD2, ⟨⟨blk_far HZ0n.out.out (by simp) _⟩⟩, ⟨⟨?_⟩⟩, ⟨HBn.out.setCell (by simp) _⟩⟩
        have hs := blk_set HZ1n.out.out j (.int .u32 (sha_spread.word b0 b1 b2 b3))
        rw [sha_rounds.arr_set] at hs
        have e := sha_rounds.set_at d (sha_spread.word b0 b1 b2 b3) (48 + q)
        rw [HDL.out] at e
        rw [e] at hs
        exact hs

/-! ### sha_state_behind: function 25 (given) -/
/-- eight numbers -/
structure sha_behind.St where
  a : Int
  b : Int
  c : Int
  d : Int
  e : Int
  f : Int
  g : Int
  h : Int
def sha_behind.St.list (s : sha_behind.St) : List Int := [s.a, s.b, s.c, s.d, s.e, s.f, s.g, s.h]
theorem sha_behind.ex {l : List Int} (h : l.length = 8) : ∃ s : sha_behind.St, l = s.list := by
  match l, h with
  | [a, b, c, d, e, f, g, h], _ => exact ⟨⟨a, b, c, d, e, f, g, h⟩, rfl⟩
def sha_behind.St.cells (s : sha_behind.St) : Array Value := #[.int .u32 s.a, .int .u32 s.b, .int .u32 s.c, .int .u32 s.d, .int .u32 s.e, .int .u32 s.f, .int .u32 s.g, .int .u32 s.h]
theorem sha_behind.St.cells_eq (s : sha_behind.St) : (nums .u32 s.list).toArray = s.cells := rfl
theorem sha_behind.size (s : sha_behind.St) : (Try.prog.info? 41).map (·.size) = some s.cells.size := by
  rw [show (Try.prog.info? 41).map (·.size) = some 8 from by kernel_rfl]; rfl
/-- block g holds a state -/
structure sha_behind.Blk (W : World) (g : Nat) (s : sha_behind.St) : Prop where
  mk ::
  out : W.heap[g]? = some (.cells s.cells 41 (0, 0))
/-- a whole array stored: the world behind it by what it is good for -/
theorem sha_behind.put_row {P : Program} {ops : Array Oper} {rest : List Oper} {o : Oper} {a : Act} {w0 W : World} {Q : Exit → Act → World → Prop} (hgd : o.guard = none) (ty : TypeId) (x y : Operand) (ho : o.op = .store ty x y)
    (g : Nat) (cells : Array Value) (hx : a.eval x = .pointer (some ⟨g, 0, none⟩)) (hy : a.eval y = .agg cells)
    (t : TypeId) (old : Array Value) (hg : W.heap[g]? = some (.cells old t (0, 0))) (hi : (P.info? ty).map (·.size) = some cells.size)
    (hold : old.size = cells.size) (h1 : cells.all (·.oneCell') = true) (HB : Below w0.heap.size w0 W) (hle : w0.heap.size ≤ g)
    (h : ∀ w2, w2.heap[g]? = some (.cells cells t (0, 0)) → (∀ k, k ≠ g → w2.heap[k]? = W.heap[k]?) → w2.heap.size = W.heap.size → Below w0.heap.size w0 w2 → wpList P ops Q rest (a.put o.dst undef) w2) : wpList P ops Q (o :: rest) a W :=
  wpList_store_row hgd ty x y ho g cells hx hy t old hg hi hold h1
    (h _ (setRow_heap _ _ _ _ _ _ hg) (fun k hk => setRow_other _ _ _ _ hk) (by simp) (sha_rounds.below_row HB hle _))
theorem sha_spread.more_length : ∀ (n : Nat) (l r : List Int), sha_spread.more n l = some r → r.length = l.length + n
  | 0, l, r, h => by simp only [sha_spread.more] at h; obtain rfl := Option.some.inj h; rfl
  | n + 1, l, r, h => by
    simp only [sha_spread.more] at h
    obtain ⟨v, _, h⟩ := Option.bind_eq_some_iff.mp h
    have := sha_spread.more_length n _ r h
    simp at this; omega
theorem sha_spread.length {b r : List Int} (h : sha_spread.f b = some r) : r.length = 64 := by
  have := sha_spread.more_length 48 _ r h
  rw [sha_spread.begin_length] at this; omega
def sha_behind.tt (x : sha_behind.St) (k w r6 r11 r25 : Int) : Int :=
  IntKind.u32.wrap (IntKind.u32.wrap (IntKind.u32.wrap (IntKind.u32.wrap (x.h + bits .xor .u32 (bits .xor .u32 r6 r11) r25) + bits .xor .u32 (bits .and .u32 x.e x.f) (bits .and .u32 (bits .xor .u32 (if IntKind.u32.signed = true then -1 else IntKind.u32.max) x.e) x.g)) + k) + w)
def sha_behind.uu (x : sha_behind.St) (r2 r13 r22 : Int) : Int :=
  IntKind.u32.wrap (bits .xor .u32 (bits .xor .u32 r2 r13) r22 + bits .xor .u32 (bits .xor .u32 (bits .and .u32 x.a x.b) (bits .and .u32 x.a x.c)) (bits .and .u32 x.b x.c))
def sha_behind.rnd (k w : Int) (x : sha_behind.St) : Option sha_behind.St :=
  (sha_rot.f x.e 6).bind fun r6 => (sha_rot.f x.e 11).bind fun r11 => (sha_rot.f x.e 25).bind fun r25 => (sha_rot.f x.a 2).bind fun r2 => (sha_rot.f x.a 13).bind fun r13 => (sha_rot.f x.a 22).bind fun r22 =>
    some ⟨(sha_behind.tt x k w r6 r11 r25 + sha_behind.uu x r2 r13 r22) % 4294967296, x.a, x.b, x.c, (x.d + sha_behind.tt x k w r6 r11 r25) % 4294967296, x.e, x.f, x.g⟩
def sha_behind.rnds : List Int → List Int → sha_behind.St → Option sha_behind.St
  | k :: ks, w :: ws, x => (sha_behind.rnd k w x).bind (sha_behind.rnds ks ws)
  | _, _, x => some x
/-- two states, number by number -/
def sha_behind.add (x s : sha_behind.St) : List Int := List.zipWith (fun a b => (a + b) % 4294967296) x.list s.list
theorem sha_behind.cell_list {W : World} {g : Nat} {t : TypeId} {l : List Int} (h : W.heap[g]? = some (.cells (nums .u32 l).toArray t (0, 0))) (j : Nat) (hj : j < l.length) :
    W.cell? ⟨g, j, none⟩ = some (.int .u32 (rd l (j : Int))) := by
  rw [blk_cell h, sha_rounds.arr_get _ _ _ hj, sha_spread.rd_get l j j (by omega) hj]
theorem sha_behind.add_step (x s : sha_behind.St) (j : Nat) (hj : j < 8) : (sha_behind.add x s).take (j + 1) ++ x.list.drop (j + 1) = ((sha_behind.add x s).take j ++ x.list.drop j).set j ((rd ((sha_behind.add x s).take j ++ x.list.drop j) (j : Int) + rd s.list (j : Int)) % 4294967296) := by
  match j, hj with
  | 0, _ => rfl
  | 1, _ => rfl
  | 2, _ => rfl
  | 3, _ => rfl
  | 4, _ => rfl
  | 5, _ => rfl
  | 6, _ => rfl
  | 7, _ => rfl
def sha_behind.f (kk b : List Int) (s : sha_behind.St) : Option (List Int) :=
  (sha_spread.f b).bind fun ws => (sha_behind.rnds kk ws s).bind fun x => some (sha_behind.add x s)
set_option maxHeartbeats 8000000 in
set_option maxRecDepth 100000 in
theorem sha_behind.calls (s : sha_behind.St) (A : Option Addr) (c : Nat) (b : List Int) (bk : Nat) (kk : List Int) (w : World) (hr : Kd.C (Kd.int .u8) w A b.length b) (hc : b.length ≤ c) (hb : b.length = 64) (hk : sha_rounds.Blk w bk kk) (hkl : kk.length = 64) (ws : List Int) (hws : sha_spread.f b = some ws) (xr : sha_behind.St) (hxr : sha_behind.rnds kk ws s = some xr) :
    Calls Try.prog 25 #[.agg s.cells, .slice A b.length c, .pointer (some ⟨bk, 0, none⟩)] w fun e w' => e = .returned (.agg (nums .u32 (sha_behind.add xr s)).toArray) ∧ Below w.heap.size w w' := by
  have HR := Aside0.mk hr
  have HBL := Aside0.mk hb
  have HK := Aside0.mk hk
  have HKL := Aside0.mk hkl
  have HWS := Aside0.mk hws
  have HWL := Aside0.mk (sha_spread.length hws)
  have HXR := Aside0.mk hxr
  clear hr hb hk hkl hws hxr
  go_enter Try.func25, Try.ntmps25
  go_wp2_with fail
  refine (sha_spread.calls A c b ws _ (Kd.C_below HR.out (below_alloc (below_alloc (Below.refl _ _) _) _)) hc HBL.out HWS.out).mono ?_
  rintro e w1 ⟨rfl, hb1⟩
  have HS1 : Aside0 (sha_behind.Blk w1 w.heap.size s) := ⟨⟨blk_below (blk_alloc (blk_new _ _) _) hb1⟩⟩
  have hq := blk_new (w.alloc (.cells s.cells 41)) (.cells (sha_behind.St.cells ⟨0, 0, 0, 0, 0, 0, 0, 0⟩) 41)
  rw [show (w.alloc (.cells s.cells 41)).heap.size = w.heap.size + 1 by simp] at hq
  have HRS1 : Aside0 (sha_behind.Blk w1 (w.heap.size + 1) ⟨0, 0, 0, 0, 0, 0, 0, 0⟩) := ⟨⟨blk_below hq hb1⟩⟩
  clear hq
  have HBW1 : Aside0 (Below w.heap.size w w1) := ⟨below_step (below_alloc (below_alloc (Below.refl _ _) _) _) hb1⟩
  have HZ1 : Aside0 (w.heap.size + 2 ≤ w1.heap.size) := ⟨by have := hb1.size; simpa using this⟩
  clear hb1
  go_wp2_with (first | (refine wpList_load_row rfl 41 (.tmp 3) rfl w.heap.size rfl 41 _ (0, 0) _ HS2.out.out Try.underlying41 rfl (sha_behind.size s) ?_) | ((refine sha_behind.put_row (w0 := w) rfl 38 (.tmp 7) (.tmp 16) rfl w1.heap.size _ rfl rfl 38 _ (blk_new _ _) (sha_rounds.size ws HWL.out) (by have := HWL.out; simp [nums, this]) (sha_rounds.ones _ _) (below_alloc HBW1.out _) (by have := HZ1.out; omega) ?_); intro w2 hg2 ho2 hz2 hb2; (have HW2 : Aside0 (sha_rounds.Blk w2 w1.heap.size ws) := ⟨⟨hg2⟩⟩); (have HS2 : Aside0 (sha_behind.Blk w2 w.heap.size s) := ⟨⟨(ho2 _ (by have := HZ1.out; omega)).trans (blk_alloc HS1.out.out _)⟩⟩); (have HRS2 : Aside0 (sha_behind.Blk w2 (w.heap.size + 1) ⟨0, 0, 0, 0, 0, 0, 0, 0⟩) := ⟨⟨(ho2 _ (by have := HZ1.out; omega)).trans (blk_alloc HRS1.out.out _)⟩⟩); (have HBW2 : Aside0 (Below w.heap.size w w2) := ⟨hb2⟩); (have HZ2 : Aside0 (w2.heap.size = w1.heap.size + 1) := ⟨by rw [hz2]; simp⟩); clear hg2 ho2 hz2 hb2 HS1 HRS1 HBW1) | ((refine sha_behind.put_row (w0 := w) rfl 41 (.tmp 8) (.tmp 17) rfl w2.heap.size _ rfl rfl 41 _ (blk_new _ _) (sha_behind.size s) rfl (sha_rounds.ones .u32 s.list) (below_alloc HBW2.out _) (below_size HBW2.out) ?_); intro w3 hg3 ho3 hz3 hb3; (have HX3 : Aside0 (sha_behind.Blk w3 w2.heap.size s) := ⟨⟨hg3⟩⟩); (have HW3 : Aside0 (sha_rounds.Blk w3 w1.heap.size ws) := ⟨⟨(ho3 _ (by have := HZ2.out; omega)).trans (blk_alloc HW2.out.out _)⟩⟩); (have HS3 : Aside0 (sha_behind.Blk w3 w.heap.size s) := ⟨⟨(ho3 _ (by have := HZ1.out; have := HZ2.out; omega)).trans (blk_alloc HS2.out.out _)⟩⟩); (have HRS3 : Aside0 (sha_behind.Blk w3 (w.heap.size + 1) ⟨0, 0, 0, 0, 0, 0, 0, 0⟩) := ⟨⟨(ho3 _ (by have := HZ1.out; have := HZ2.out; omega)).trans (blk_alloc HRS2.out.out _)⟩⟩); (have HBW3 : Aside0 (Below w.heap.size w w3) := ⟨hb3⟩); clear hg3 ho3 hz3 hb3 HS2 HRS2 HBW2 HW2))
  have HK3 : Aside0 (sha_rounds.Blk w3 bk kk) := ⟨⟨blk_below HK.out.out HBW3.out⟩⟩
  obtain ⟨gw, hgw⟩ : ∃ gw, gw = w1.heap.size := ⟨_, rfl⟩
  obtain ⟨gx, hgx⟩ : ∃ gx, gx = w2.heap.size := ⟨_, rfl⟩
  have HG : Aside0 (w.heap.size + 2 ≤ gw ∧ gx = gw + 1 ∧ bk < w.heap.size) := ⟨by have := HZ1.out; have := HZ2.out; have := blk_lt HK.out.out; omega⟩
  rw [← hgw, ← hgx]
  rw [← hgx] at HX3
  rw [← hgw] at HW3
  clear hgw hgx HZ1 HZ2 HK
  go_loopg [18] 64 (fun q v18 w' => ∃ (j : Nat) (x : sha_behind.St), v18 = .int .i64 (j : Int) ∧ j + q = 64 ∧ Aside0 (sha_behind.rnds (kk.drop j) (ws.drop j) x = some xr) ∧ Aside0 (sha_behind.Blk w' gx x) ∧ Aside0 (sha_rounds.Blk w' gw ws) ∧ Aside0 (sha_behind.Blk w' w.heap.size s) ∧ Aside0 (sha_behind.Blk w' (w.heap.size + 1) ⟨0, 0, 0, 0, 0, 0, 0, 0⟩) ∧ Aside0 (sha_rounds.Blk w' bk kk) ∧ Aside0 (Below w.heap.size w w'))
  case atStart => exact ⟨0, s, by go_num, rfl, HXR, HX3, HW3, HS3, HRS3, HK3, HBW3⟩
  case round =>
    clear HX3 HW3 HS3 HRS3 HK3 HBW3 HXR
    obtain ⟨j, x, rfl, hjq, HM, HX, HW, HS, HRS, HK, HB⟩ := hrel
    cases gk with
    | zero =>
      obtain rfl : j = 64 := by omega
      have hjb : decide (((64 : Nat) : Int) < 64) = false := by decide
      have hm := HM.out
      rw [List.drop_eq_nil_of_le (by have := HKL.out; omega)] at hm
      simp only [sha_behind.rnds] at hm
      obtain rfl := Option.some.inj hm
      clear hm HM HW HK hjq
      go_wp2
      obtain ⟨wo, rfl⟩ : ∃ wo : World, wo = wr := ⟨_, rfl⟩
      go_loopg [100] 8 (fun q v100 w' => ∃ (j : Nat), v100 = .int .i64 (j : Int) ∧ j + q = 8 ∧ Aside0 (w'.heap[gx]? = some (.cells (nums .u32 ((sha_behind.add x s).take j ++ x.list.drop j)).toArray 41 (0, 0))) ∧ Aside0 (sha_behind.Blk w' w.heap.size s) ∧ Aside0 (sha_behind.Blk w' (w.heap.size + 1) ⟨0, 0, 0, 0, 0, 0, 0, 0⟩) ∧ Aside0 (Below w.heap.size w w'))
      case atStart => exact ⟨0, by go_num, rfl, ⟨HX.out.out⟩, HS, HRS, HB⟩
      case round =>
        clear HX HS HRS HB
        obtain ⟨j, rfl, hjq, HX, HS, HRS, HB⟩ := hrel
        cases gk with
        | zero =>
          obtain rfl : j = 8 := by omega
          have hjb2 : decide (((8 : Nat) : Int) < 8) = false := by decide
          have hx := HX.out
          rw [List.take_of_length_le (by simp [sha_behind.add, sha_behind.St.list]), List.drop_eq_nil_of_le (by simp [sha_behind.St.list]), List.append_nil] at hx
          have HX2 := Aside0.mk hx
          clear hx HX
          have HL : Aside0 ((Try.prog.info? 41).map (·.size) = some (nums .u32 (sha_behind.add x s)).toArray.size) := ⟨by
            rw [show (Try.prog.info? 41).map (·.size) = some 8 from by kernel_rfl]; simp [nums, sha_behind.add, sha_behind.St.list]⟩
          go_wp2_with (first | (refine wpList_load_row rfl 41 (.tmp 8) rfl gx rfl 41 _ (0, 0) _ HX2.out Try.underlying41 rfl HL.out ?_) | (refine wpList_store_row rfl 41 (.tmp 6) (.tmp 112) rfl (w.heap.size + 1) _ rfl rfl 41 _ HRS.out.out HL.out (by simp [nums, sha_behind.add, sha_behind.St.list, sha_behind.St.cells]) (sha_rounds.ones _ _) ?_))
          refine bodyPost_ret (v := .agg (nums .u32 (sha_behind.add x s)).toArray) (results_cell_row rfl _ _ (w.heap.size + 1) 41 _ (0, 0) _ rfl (setRow_heap _ _ _ _ _ _ HRS.out.out) Try.underlying41 rfl HL.out) rfl ⟨rfl, sha_rounds.below_row HB.out (by omega) _⟩
        | succ q =>
          have hj : (j : Int) < 8 := by omega
          have hjb : decide ((j : Int) < 8) = true := decide_eq_true hj
          have hx := sha_behind.cell_list HX.out j (by simp [sha_behind.add, sha_behind.St.list]; omega)
          have hs := sha_behind.cell_list (l := s.list) HS.out.out j (by simp [sha_behind.St.list]; omega)
          generalize hxv : rd ((sha_behind.add x s).take j ++ x.list.drop j) (j : Int) = xv at hx
          generalize hsv : rd s.list (j : Int) = sv at hs
          have HV : Aside0 ((sha_behind.add x s).take (j + 1) ++ x.list.drop (j + 1) = ((sha_behind.add x s).take j ++ x.list.drop j).set j ((xv + sv) % 4294967296)) := ⟨by
            rw [← hxv, ← hsv]; exact sha_behind.add_step x s j (by omega)⟩
          have HNL : Aside0 (((sha_behind.add x s).take j ++ x.list.drop j).length = 8) := ⟨by simp [sha_behind.add, sha_behind.St.list]; omega⟩
          clear hxv hsv
          have hjb3 : decide (j < 8) = true := decide_eq_true (by omega)
          have hj8 : j < 8 := by omega
          have HHG : Aside0 (w.heap.size < gx ∧ w.heap.size + 1 < gx) := ⟨by have := HG.out; omega⟩
          go_wp2
          obtain ⟨W4, hW4⟩ : ∃ W4, W4 = wr.drew := ⟨_, rfl⟩
          have HX4 : Aside0 (W4.heap[gx]? = some (.cells (nums .u32 ((sha_behind.add x s).take j ++ x.list.drop j)).toArray 41 (0, 0))) := ⟨by rw [hW4]; exact HX.out⟩
          have HS4 : Aside0 (sha_behind.Blk W4 w.heap.size s) := ⟨⟨by rw [hW4]; exact HS.out.out⟩⟩
          have HRS4 : Aside0 (sha_behind.Blk W4 (w.heap.size + 1) ⟨0, 0, 0, 0, 0, 0, 0, 0⟩) := ⟨⟨by rw [hW4]; exact HRS.out.out⟩⟩
          have HB4 : Aside0 (Below w.heap.size w W4) := ⟨by rw [hW4]; exact below_drew HB.out⟩
          have HW4 := Aside0.mk hW4
          clear hW4
          go_still_tail 8, (by kernel_rfl)
          change wpList _ _ _ _ _ wr.drew
          rw [← HW4.out]
          clear HW4 HX HS HRS HB hx hs
          generalize hL : (sha_behind.add x s).take j ++ x.list.drop j = L at *
          have hcl : W4.cell? ⟨gx, j, none⟩ = some (.int .u32 L[j]!) := by
            rw [blk_cell HX4.out, sha_rounds.arr_get _ _ _ (by rw [HNL.out]; exact hj8)]; congr 2; rw [List.getElem!_eq_getElem?_getD, List.getElem?_eq_getElem]; rfl
          have hfz : W4.frozen? ⟨gx, j, none⟩ = false := blk_frozen HX4.out _
          go_wp2
          go_roundg q
          case measure => omega
          case rel =>
            refine ⟨j + 1, by go_num, by omega, ⟨?_⟩, ⟨⟨blk_far HS4.out.out (by have := HHG.out; simp; omega) _⟩⟩, ⟨⟨blk_far HRS4.out.out (by have := HHG.out; simp; omega) _⟩⟩, ⟨HB4.out.setCell (by have := HHG.out; simp; omega) _⟩⟩
            have hs := blk_set HX4.out j (.int .u32 ((xv + sv) % 4294967296))
            rw [sha_rounds.arr_set, ← HV.out] at hs
            exact hs
    | succ q =>
      have hj : (j : Int) < 64 := by omega
      have hjb : decide ((j : Int) < 64) = true := decide_eq_true hj
      have hkd : kk.drop j = rd kk (j : Int) :: kk.drop (j + 1) := sha_rounds.drop_at kk j (by have := HKL.out; omega)
      have hwd : ws.drop j = rd ws (j : Int) :: ws.drop (j + 1) := sha_rounds.drop_at ws j (by have := HWL.out; omega)
      have hm := HM.out
      rw [hkd, hwd] at hm
      clear hkd hwd
      simp only [sha_behind.rnds] at hm
      have hck := sha_spread.cell (m := 0) (l := kk) ⟨by simpa using HK.out.out⟩ (j : Int) (by omega) (by have := HKL.out; omega)
      have hcw := sha_spread.cell (m := 0) (l := ws) ⟨by simpa using HW.out.out⟩ (j : Int) (by omega) (by have := HWL.out; omega)
      generalize rd kk (j : Int) = kj at *
      generalize rd ws (j : Int) = wj at *
      rw [Int.toNat_natCast] at hck hcw
      obtain ⟨y, hy, hm2⟩ := Option.bind_eq_some_iff.mp hm
      have HM2 := Aside0.mk hm2
      clear hm hm2 HM
      unfold sha_behind.rnd at hy
      obtain ⟨r6, h6, hy1⟩ := Option.bind_eq_some_iff.mp hy
      obtain ⟨r11, h11, hy2⟩ := Option.bind_eq_some_iff.mp hy1
      obtain ⟨r25, h25, hy3⟩ := Option.bind_eq_some_iff.mp hy2
      obtain ⟨r2, h2, hy4⟩ := Option.bind_eq_some_iff.mp hy3
      obtain ⟨r13, h13, hy5⟩ := Option.bind_eq_some_iff.mp hy4
      obtain ⟨r22, h22, hy6⟩ := Option.bind_eq_some_iff.mp hy5
      have HY := Aside0.mk (Option.some.inj hy6)
      have H6 := Aside0.mk h6
      have H11 := Aside0.mk h11
      have H25 := Aside0.mk h25
      have H2 := Aside0.mk h2
      have H13 := Aside0.mk h13
      have H22 := Aside0.mk h22
      clear hy hy1 hy2 hy3 hy4 hy5 hy6 h6 h11 h25 h2 h13 h22
      obtain ⟨xa, xb, xc, xd, xe, xf, xg, xh⟩ := x
      have hx0 : wr.cell? ⟨gx, 0, none⟩ = some (.int .u32 xa) := blk_cell HX.out.out 0
      have hx1 : wr.cell? ⟨gx, 1, none⟩ = some (.int .u32 xb) := blk_cell HX.out.out 1
      have hx2 : wr.cell? ⟨gx, 2, none⟩ = some (.int .u32 xc) := blk_cell HX.out.out 2
      have hx3 : wr.cell? ⟨gx, 3, none⟩ = some (.int .u32 xd) := blk_cell HX.out.out 3
      have hx4 : wr.cell? ⟨gx, 4, none⟩ = some (.int .u32 xe) := blk_cell HX.out.out 4
      have hx5 : wr.cell? ⟨gx, 5, none⟩ = some (.int .u32 xf) := blk_cell HX.out.out 5
      have hx6 : wr.cell? ⟨gx, 6, none⟩ = some (.int .u32 xg) := blk_cell HX.out.out 6
      have hx7 : wr.cell? ⟨gx, 7, none⟩ = some (.int .u32 xh) := blk_cell HX.out.out 7
      go_wp2
      refine wp_region_still_lit (by kernel_rfl) (by kernel_rfl) ?_
      repeat still_step
      still_call (sha_rot.still xe 6 r6 _ H6.out)
      repeat still_step
      still_call (sha_rot.still xe 11 r11 _ H11.out)
      repeat still_step
      still_call (sha_rot.still xe 25 r25 _ H25.out)
      repeat still_step
      refine wpStill_nil ?_
      change Exit.then _ _ _ _ wr.drew
      generalize hT : IntKind.u32.wrap (IntKind.u32.wrap (IntKind.u32.wrap (IntKind.u32.wrap (xh + bits .xor .u32 (bits .xor .u32 r6 r11) r25) + bits .xor .u32 (bits .and .u32 xe xf) (bits .and .u32 (bits .xor .u32 (if IntKind.u32.signed = true then -1 else IntKind.u32.max) xe) xg)) + kj) + wj) = T
      have HT := Aside0.mk hT
      clear hT
      obtain ⟨W4, hW4⟩ : ∃ W4, W4 = wr.drew := ⟨_, rfl⟩
      rw [← hW4]
      have HX4 : Aside0 (sha_behind.Blk W4 gx ⟨xa, xb, xc, xd, xe, xf, xg, xh⟩) := ⟨⟨by rw [hW4]; exact HX.out.out⟩⟩
      have HW4 : Aside0 (sha_rounds.Blk W4 gw ws) := ⟨⟨by rw [hW4]; exact HW.out.out⟩⟩
      have HS4 : Aside0 (sha_behind.Blk W4 w.heap.size s) := ⟨⟨by rw [hW4]; exact HS.out.out⟩⟩
      have HRS4 : Aside0 (sha_behind.Blk W4 (w.heap.size + 1) ⟨0, 0, 0, 0, 0, 0, 0, 0⟩) := ⟨⟨by rw [hW4]; exact HRS.out.out⟩⟩
      have HK4 : Aside0 (sha_rounds.Blk W4 bk kk) := ⟨⟨by rw [hW4]; exact HK.out.out⟩⟩
      have HB4 : Aside0 (Below w.heap.size w W4) := ⟨by rw [hW4]; exact below_drew HB.out⟩
      clear hW4 HX HW HS HRS HK HB hx0 hx1 hx2 hx3 hx4 hx5 hx6 hx7 hck hcw
      have hx0 : W4.cell? ⟨gx, 0, none⟩ = some (.int .u32 xa) := blk_cell HX4.out.out 0
      have hx1 : W4.cell? ⟨gx, 1, none⟩ = some (.int .u32 xb) := blk_cell HX4.out.out 1
      have hx2 : W4.cell? ⟨gx, 2, none⟩ = some (.int .u32 xc) := blk_cell HX4.out.out 2
      go_wp2
      refine wp_region_still_lit (by kernel_rfl) (by kernel_rfl) ?_
      repeat still_step
      still_call (sha_rot.still xa 2 r2 _ H2.out)
      repeat still_step
      still_call (sha_rot.still xa 13 r13 _ H13.out)
      repeat still_step
      still_call (sha_rot.still xa 22 r22 _ H22.out)
      repeat still_step
      refine wpStill_nil ?_
      change Exit.then _ _ _ _ W4.drew
      generalize hU : IntKind.u32.wrap (bits .xor .u32 (bits .xor .u32 r2 r13) r22 + bits .xor .u32 (bits .xor .u32 (bits .and .u32 xa xb) (bits .and .u32 xa xc)) (bits .and .u32 xb xc)) = U
      have HY2 : Aside0 (y = ⟨(T + U) % 4294967296, xa, xb, xc, (xd + T) % 4294967296, xe, xf, xg⟩) := ⟨by rw [← HY.out, ← hU, ← HT.out]; rfl⟩
      clear hU HT HY
      obtain ⟨W5, hW5⟩ : ∃ W5, W5 = W4.drew := ⟨_, rfl⟩
      rw [← hW5]
      have HX5 : Aside0 (sha_behind.Blk W5 gx ⟨xa, xb, xc, xd, xe, xf, xg, xh⟩) := ⟨⟨by rw [hW5]; exact HX4.out.out⟩⟩
      have HW5 : Aside0 (sha_rounds.Blk W5 gw ws) := ⟨⟨by rw [hW5]; exact HW4.out.out⟩⟩
      have HS5 : Aside0 (sha_behind.Blk W5 w.heap.size s) := ⟨⟨by rw [hW5]; exact HS4.out.out⟩⟩
      have HRS5 : Aside0 (sha_behind.Blk W5 (w.heap.size + 1) ⟨0, 0, 0, 0, 0, 0, 0, 0⟩) := ⟨⟨by rw [hW5]; exact HRS4.out.out⟩⟩
      have HK5 : Aside0 (sha_rounds.Blk W5 bk kk) := ⟨⟨by rw [hW5]; exact HK4.out.out⟩⟩
      have HB5 : Aside0 (Below w.heap.size w W5) := ⟨by rw [hW5]; exact below_drew HB4.out⟩
      clear hW5 HX4 HW4 HS4 HRS4 HK4 HB4 hx0 hx1 hx2
      have hx1 : W5.cell? ⟨gx, 1, none⟩ = some (.int .u32 xb) := blk_cell HX5.out.out 1
      have hx2 : W5.cell? ⟨gx, 2, none⟩ = some (.int .u32 xc) := blk_cell HX5.out.out 2
      have hx3 : W5.cell? ⟨gx, 3, none⟩ = some (.int .u32 xd) := blk_cell HX5.out.out 3
      have hx5 : W5.cell? ⟨gx, 5, none⟩ = some (.int .u32 xf) := blk_cell HX5.out.out 5
      have hx6 : W5.cell? ⟨gx, 6, none⟩ = some (.int .u32 xg) := blk_cell HX5.out.out 6
      go_wp2_with ((refine sha_behind.put_row (w0 := w) rfl 41 (.tmp 8) (.tmp 98) rfl gx y.cells rfl (by rw [HY2.out]; rfl) 41 _ HX5.out.out (sha_behind.size y) rfl (sha_rounds.ones .u32 y.list) HB5.out (by have := HG.out; omega) ?_); intro w6 hg6 ho6 hz6 hb6; clear hx1 hx2 hx3 hx5 hx6; (have HX6 : Aside0 (sha_behind.Blk w6 gx y) := ⟨⟨hg6⟩⟩); (have HW6 : Aside0 (sha_rounds.Blk w6 gw ws) := ⟨⟨(ho6 _ (by have := HG.out; omega)).trans HW5.out.out⟩⟩); (have HS6 : Aside0 (sha_behind.Blk w6 w.heap.size s) := ⟨⟨(ho6 _ (by have := HG.out; omega)).trans HS5.out.out⟩⟩); (have HRS6 : Aside0 (sha_behind.Blk w6 (w.heap.size + 1) ⟨0, 0, 0, 0, 0, 0, 0, 0⟩) := ⟨⟨(ho6 _ (by have := HG.out; omega)).trans HRS5.out.out⟩⟩); (have HK6 : Aside0 (sha_rounds.Blk w6 bk kk) := ⟨⟨(ho6 _ (by have := HG.out; omega)).trans HK5.out.out⟩⟩); (have HB6 : Aside0 (Below w.heap.size w w6) := ⟨hb6⟩); clear hg6 ho6 hz6 hb6 HX5 HW5 HS5 HRS5 HK5 HB5)
      go_roundg q
      case measure => omega
      case rel => exact ⟨j + 1, y, by go_num, by omega, HM2, HX6, HW6, HS6, HRS6, HK6, HB6⟩

/-! ### sha_Block: function 13 (given) -/
theorem sha_rounds.len : ∀ (ps l : List Int), sha_rounds.go ps = some l → l.length = ps.length
  | [], l, h => by simp only [sha_rounds.go] at h; obtain rfl := Option.some.inj h; rfl
  | p :: r, l, h => by
    simp only [sha_rounds.go] at h
    obtain ⟨t, _, h⟩ := Option.bind_eq_some_iff.mp h
    obtain ⟨m, hm, h⟩ := Option.bind_eq_some_iff.mp h
    obtain rfl := Option.some.inj h
    simp [sha_rounds.len r m hm]
theorem sha_rounds.len64 {l : List Int} (h : sha_rounds.f = some l) : l.length = 64 := by
  obtain ⟨ps, _, hgo⟩ := Option.bind_eq_some_iff.mp h
  by_cases hl : ps.length = 64
  · rw [if_pos hl] at hgo; rw [sha_rounds.len ps l hgo, hl]
  · rw [if_neg hl] at hgo; exact absurd hgo (by simp)
def sha_Block.st : List Int → sha_behind.St
  | [a, b, c, d, e, f, g, h] => ⟨a, b, c, d, e, f, g, h⟩
  | _ => ⟨0, 0, 0, 0, 0, 0, 0, 0⟩
theorem sha_Block.st_list {l : List Int} (h : l.length = 8) : (sha_Block.st l).list = l := by
  match l, h with
  | [a, b, c, d, e, f, g, h], _ => rfl
def sha_Block.f (st b : List Int) : Option (List Int) :=
  if st.length = 8 ∧ b.length = 64 then sha_rounds.f.bind fun kk => sha_behind.f kk b (sha_Block.st st) else some []
/-- a whole array read at any place -/
theorem sha_Block.load_any {P : Program} {ops : Array Oper} {rest : List Oper} {op : Oper} {a : Act} {w : World} {Q : Exit → Act → World → Prop} (hgd : op.guard = none) (ty : TypeId) (x : Operand) (ho : op.op = .load ty x)
    (p : Addr) (hx : a.eval x = .pointer (some p)) (cs : List Value) (n : Nat) (el : TypeId) (hc : ∀ j v, cs[j]? = some v → w.cell? (p.add j) = some v)
    (hu : P.underlying ty = some (.array n el)) (hi : (P.info? ty).map (·.size) = some cs.length)
    (h : wpList P ops Q rest (a.put op.dst (.agg cs.toArray)) w) : wpList P ops Q (op :: rest) a w :=
  wpList_plain hgd fun _ hK => by
    have hl : (loadCells p cs.length).run P w = .ok cs.toArray w := run_loadCells_list (P := P) w p cs hc
    have hv : (loadVar ty p).run P w = .ok (.agg cs.toArray) w := by
      cases hq : P.info? ty with
      | none => simp [hq] at hi
      | some i =>
        have hs : i.size = cs.length := by simpa [hq] using hi
        have hagg : (isAgg ty).run P w = .ok true w := by
          unfold isAgg
          rw [Sem.run_bind, run_underlying hu w]
          simp
        simp [loadVar, Sem.run_bind, hagg, sizeOf, typeInfo, hq, hs, hl]
    unfold Oper.wp execOp
    simp only [ho, hx, Instr.loadAt, Instr.sureAddr, Sem.run_bind, Sem.run_pure, Result.andThen_ok, hv]
    exact hK _ _ h
set_option maxHeartbeats 8000000 in
set_option maxRecDepth 100000 in
theorem sha_Block.calls (A0 : Option Addr) (c0 : Nat) (l0 : List Int) (A1 : Option Addr) (c1 : Nat) (l1 : List Int) (r : List Int) (w : World) (hr0 : Kd.C (Kd.int .u32) w A0 l0.length l0) (hc0 : l0.length ≤ c0) (hr1 : Kd.C (Kd.int .u8) w A1 l1.length l1) (hc1 : l1.length ≤ c1) (h : sha_Block.f l0 l1 = some r) :
    Calls Try.prog 13 #[.slice A0 l0.length c0, .slice A1 l1.length c1] w fun e w' => ∃ v0_ : Value, e = .returned (v0_) ∧ Kd.V (Kd.int .u32) 34 w' w.heap.size (fun k_ => (w.heap.size ≤ k_)) v0_ r ∧ Below w.heap.size w w' := by
  have HR0 := Aside0.mk hr0
  have HR1 := Aside0.mk hr1
  have HF := Aside0.mk h
  clear hr0 hr1 h
  go_enter Try.func13, Try.ntmps13
  by_cases h8 : l0.length = 8
  · by_cases h64 : l1.length = 64
    · have hf := HF.out
      unfold sha_Block.f at hf
      rw [if_pos ⟨h8, h64⟩] at hf
      obtain ⟨kk, hkk, hf⟩ := Option.bind_eq_some_iff.mp hf
      obtain ⟨ws, hws, hf⟩ := Option.bind_eq_some_iff.mp hf
      obtain ⟨xr, hxr, hf⟩ := Option.bind_eq_some_iff.mp hf
      obtain rfl := Option.some.inj hf
      clear hf
      have HKK := Aside0.mk hkk
      have HWS := Aside0.mk hws
      have HXR := Aside0.mk hxr
      have HKL := Aside0.mk (sha_rounds.len64 hkk)
      have HSL := Aside0.mk (sha_Block.st_list h8)
      clear hkk hws hxr HF
      generalize sha_Block.st l0 = s at *
      have H8 := Aside0.mk h8
      have H64 := Aside0.mk h64
      have hi8 : ((l0.length : Int) != 8) = false := by simp; omega
      have hi64 : ((l1.length : Int) != 64) = false := by simp; omega
      have hlc : (8 : Nat) ≤ l0.length := by omega
      clear h8 h64
      have HAL : Aside0 ((sha_behind.add xr s).length = 8) := ⟨by simp [sha_behind.add, sha_behind.St.list]⟩
      have HSZ : Aside0 ((Try.prog.info? 41).map (·.size) = some (nums .u32 (sha_behind.add xr s)).toArray.size) := ⟨by
        rw [show (Try.prog.info? 41).map (·.size) = some 8 from by kernel_rfl]; simp [nums, HAL.out]⟩
      obtain ⟨p, rfl, _⟩ := Kd.at_int HR0.out 0 (by omega) (by omega)
      have HCELLS : Aside0 (∀ W : World, Below w.heap.size w W → ∀ (j : Nat) (v : Value), s.cells.toList[j]? = some v → W.cell? (p.add j) = some v) := ⟨by
        intro W hb
        have hC := Kd.C_below HR0.out hb
        intro j v hv
        have hj : j < 8 := by
          have := (List.getElem?_eq_some_iff.mp hv).1
          simpa [sha_behind.St.cells] using this
        obtain ⟨p', he, hc⟩ := Kd.at_int hC (j : Int) (by omega) (by have := H8.out; omega)
        obtain rfl := Option.some.inj he
        rw [Int.toNat_natCast] at hc
        rw [hc, ← hv, ← sha_behind.St.cells_eq, HSL.out]
        rw [sha_spread.rd_get l0 j j (by omega) (by have := H8.out; omega)]
        simp [nums, List.getElem?_eq_getElem (show j < l0.length by have := H8.out; omega)]⟩
      have harr : ∀ W : World, (Instr.arrayAt 41 (.slice (some p) l0.length c0)).run Try.prog W = .ok (.pointer (some p)) W := fun W => run_arrayAt _ 41 34 8 _ _ _ Try.underlying41 hlc
      go_wp2_with (first | (go_at_call 24; (with_reducible refine (sha_rounds.calls kk _ HKK.out).mono ?_); rintro e w1 ⟨rfl, hb⟩; have HB := Aside0.mk hb; clear hb) | ((refine sha_behind.put_row (w0 := w) rfl 38 (.tmp 5) (.tmp 15) rfl w1.heap.size _ rfl rfl 38 _ (blk_new _ _) (sha_rounds.size kk HKL.out) (by have := HKL.out; simp [nums, this]) (sha_rounds.ones _ _) (below_alloc HB.out _) (below_size HB.out) ?_); intro w2 hg2 ho2 hz2 hb2; (have HK2 : Aside0 (sha_rounds.Blk w2 w1.heap.size kk) := ⟨⟨hg2⟩⟩); (have HB2 : Aside0 (Below w.heap.size w w2) := ⟨hb2⟩); clear hg2 ho2 hz2 hb2) | (refine sha_Block.load_any rfl 41 (.tmp 17) rfl p rfl s.cells.toList 8 34 (HCELLS.out _ HB2.out) Try.underlying41 (sha_behind.size s) ?_) | (go_at_call 25; (with_reducible refine (sha_behind.calls s A1 c1 l1 _ kk _ (Kd.C_below HR1.out HB2.out) hc1 H64.out HK2.out HKL.out ws HWS.out xr HXR.out).mono ?_); rintro e w3 ⟨rfl, hb3⟩; (have HB3 : Aside0 (Below w.heap.size w w3) := ⟨below_step HB2.out hb3⟩); clear hb3) | (refine sha_behind.put_row (w0 := w) rfl 41 (.tmp 6) (.tmp 20) rfl w3.heap.size _ rfl rfl 41 _ (blk_new _ _) HSZ.out (by simp [nums, HAL.out]) (sha_rounds.ones _ _) (below_alloc HB3.out _) (below_size HB3.out) ?_; intro w4 hg4 ho4 hz4 hb4))
      go_ret
      refine ⟨_, rfl, ?_, hb4⟩
      have hv := sha_Start.V_block (e := 34) (base := w.heap.size) hg4 (below_size HB3.out) (by rw [HAL.out]; omega)
      rw [HAL.out] at hv
      exact hv
    · have hf := HF.out
      unfold sha_Block.f at hf
      rw [if_neg (fun hh => h64 hh.2)] at hf
      obtain rfl := Option.some.inj hf
      have hi8 : ((l0.length : Int) != 8) = false := by simp; omega
      have hi64 : ((l1.length : Int) != 64) = true := by simp; omega
      clear hf HF h8 h64
      go_wp2
      go_ret
      exact ⟨_, rfl, Kd.V_nil _ _ _ _ _, Below.refl _ _⟩
  · have hf := HF.out
    unfold sha_Block.f at hf
    rw [if_neg (fun hh => h8 hh.1)] at hf
    obtain rfl := Option.some.inj hf
    have hi8 : ((l0.length : Int) != 8) = true := by simp; omega
    clear hf HF h8
    go_wp2
    go_ret
    exact ⟨_, rfl, Kd.V_nil _ _ _ _ _, Below.refl _ _⟩

end Go.Proofs.Ytpebbjhllfcnbaa.PAll
