-- PRINTED by print.py (a twelfth state) out of the translation. Not trusted: Lean checks it.
import Derived.Test.YtpebbjhllfcnbaaPAllx0
import Derived.Test.YtpebbjhllfcnbaaPAllx1
namespace Go.Proofs.Ytpebbjhllfcnbaa.PAll
open Go.RowKit Go.Proofs.YtpebbjhllfcnbaaW.PrintWords Go.Proofs.YtpebbjhllfcnbaaW.PrintLast Go.Proofs.YtpebbjhllfcnbaaW.PrintMore
attribute [local go_sem] max2_int min2_int max_two min_two max_three min_three max_four min_four   -- for this text's walks alone
set_option linter.unusedVariables false
set_option linter.unusedSimpArgs false

/-! ### notaryref03_Alike: function 14 -/
def notaryref03_Alike.l0 : Nat → List Int → List Int → Int → Option (Bool)
  | 0, _, _, _ => none
  | k + 1, x0, x1, x5 => if x5 < (x0.length : Int) then (if 0 ≤ x5 then (if x5 < (x1.length : Int) then (if (rd x0 x5) = (rd x1 x5) then (notaryref03_Alike.l0 k x0 x1 (wrap64 (x5 + 1))) else (some false)) else (none)) else (none)) else (some true)
def notaryref03_Alike.f (k : Nat) (l0 : List Int) (l1 : List Int) : Option (Bool) := if (l0.length : Int) = (l1.length : Int) then (notaryref03_Alike.l0 k l0 l1 0) else (some false)
theorem notaryref03_Alike.mono_l : ∀ k, (∀ y0 y1 y2, LeO (notaryref03_Alike.l0 k y0 y1 y2) (notaryref03_Alike.l0 (k + 1) y0 y1 y2))
  | 0 => fun _ _ _ r h => by simp [notaryref03_Alike.l0] at h
  | k + 1 => by
    have ih0 := notaryref03_Alike.mono_l k
    · intro y0 y1 y2
      unfold notaryref03_Alike.l0
      repeat' first
      | (with_reducible exact ih0 _ _ _)
      | (with_reducible exact LeO.refl _)
      | (with_reducible exact LeO.none _)
      | (with_reducible refine LeO.ite ?_ ?_)
      | (with_reducible refine LeO.bind ?_ (fun _ => ?_))
      | exact ih0 _ _ _
      | exact LeO.none _
      | refine LeO.ite ?_ ?_
      | refine LeO.bind ?_ (fun _ => ?_)
theorem notaryref03_Alike.mono : ∀ a0 a1 k, LeO (notaryref03_Alike.f k a0 a1) (notaryref03_Alike.f (k + 1) a0 a1) := by
  intro a0 a1 k
  have ih0 := notaryref03_Alike.mono_l k
  unfold notaryref03_Alike.f
  repeat' first
      | (with_reducible exact ih0 _ _ _)
      | (with_reducible exact LeO.refl _)
      | (with_reducible exact LeO.none _)
      | (with_reducible refine LeO.ite ?_ ?_)
      | (with_reducible refine LeO.bind ?_ (fun _ => ?_))
      | exact ih0 _ _ _
      | exact LeO.none _
      | refine LeO.ite ?_ ?_
      | refine LeO.bind ?_ (fun _ => ?_)
set_option maxHeartbeats 8000000 in
set_option maxRecDepth 100000 in
theorem notaryref03_Alike.calls (k : Nat) (A0 : Option Addr) (c0 : Nat) (l0 : List Int) (A1 : Option Addr) (c1 : Nat) (l1 : List Int) (r : Bool) (w : World) (hr0 : Kd.C (Kd.int .u32) w A0 l0.length l0) (hc0 : l0.length ≤ c0) (hr1 : Kd.C (Kd.int .u32) w A1 l1.length l1) (hc1 : l1.length ≤ c1) (h : notaryref03_Alike.f k l0 l1 = some r) :
    Calls Try.prog 14 #[.slice A0 l0.length c0, .slice A1 l1.length c1] w fun e w' => e = .returned (.bool r) ∧ Drawn0 w w' := by
  have HR0 := Aside0.mk hr0
  have HC0 := Aside0.mk hc0
  clear hr0 hc0
  have HR1 := Aside0.mk hr1
  have HC1 := Aside0.mk hc1
  clear hr1 hc1
  have H : (if (l0.length : Int) = (l1.length : Int) then (notaryref03_Alike.l0 k l0 l1 0) else (some false)) = some r := h
  clear h
  by_cases c3 : (l0.length : Int) = (l1.length : Int)
  · rw [if_pos c3] at H
    have c3b0 : ((l0.length : Int) == (l1.length : Int)) = true := beq_iff_eq.mpr c3
    have c3b1 : ((l0.length : Int) != (l1.length : Int)) = false := bne_eq_false_iff_eq.mpr c3
    have c3b2 : (l0.length == l1.length) = true := by first | simpa using c3 | (simp at c3 ⊢; omega)
    clear c3
    have H' := Aside0.mk H
    clear H
    go_enter Try.func14, Try.ntmps14
    go_wp2
    repeat (go_quiet (fail); try go_wp2)
    go_loopg [5] k (fun kq v5 w' => ∃ (x5_1 : Int), v5 = .int .i64 x5_1 ∧ Aside0 (notaryref03_Alike.l0 kq l0 l1 x5_1 = some r) ∧ Aside0 (kq ≤ k) ∧ Drawn0 w w')
    case atStart => exact ⟨(0), (by first | rfl | (simp; done) | (simp [*]; done)), H', ⟨Nat.le_refl _⟩, by repeat (first | exact Drawn0.refl _ | apply Drawn0.step)⟩
    case round =>
      clear H'
      try clear c1
      try clear p2
      try clear c3
      try clear c3b0
      try clear c3b1
      try clear c3b2
      obtain ⟨x5_1, rfl, HA, HK1, ⟨m1, rfl⟩⟩ := hrel
      cases gk with
      | zero => exact absurd HA.out (by simp [notaryref03_Alike.l0])
      | succ k1 =>
        have H := HA.out
        clear HA
        simp only [notaryref03_Alike.l0] at H
        by_cases c4 : x5_1 < (l0.length : Int)
        · rw [if_pos c4] at H
          have c4b0 : decide (x5_1 < (l0.length : Int)) = true := decide_eq_true c4
          clear c4
          by_cases c5 : 0 ≤ x5_1
          · rw [if_pos c5] at H
            have c5b0 : decide (0 ≤ x5_1) = true := decide_eq_true c5
            clear c5
            by_cases c6 : x5_1 < (l1.length : Int)
            · rw [if_pos c6] at H
              have c6b0 : decide (x5_1 < (l1.length : Int)) = true := decide_eq_true c6
              clear c6
              by_cases c7 : (rd l0 x5_1) = (rd l1 x5_1)
              · rw [if_pos c7] at H
                have c7b0 : ((rd l0 x5_1) == (rd l1 x5_1)) = true := beq_iff_eq.mpr c7
                have c7b1 : ((rd l0 x5_1) != (rd l1 x5_1)) = false := bne_eq_false_iff_eq.mpr c7
                clear c7
                have H' := Aside0.mk H
                clear H
                have p134 : 0 ≤ (x5_1 : Int) := of_decide_eq_true (by first | (with_reducible assumption) | assumption)
                have q134 : x5_1 < (l0.length : Int) := of_decide_eq_true (by first | (with_reducible assumption) | assumption)
                obtain ⟨ad134, e134, hx134_0⟩ := Kd.at_int HR0.out x5_1 p134 q134
                cases e134
                replace p134 := eq_true p134
                replace q134 := eq_true q134
                have p135 : 0 ≤ (x5_1 : Int) := of_decide_eq_true (by first | (with_reducible assumption) | assumption)
                have q135 : x5_1 < (l1.length : Int) := of_decide_eq_true (by first | (with_reducible assumption) | assumption)
                obtain ⟨ad135, e135, hx135_0⟩ := Kd.at_int HR1.out x5_1 p135 q135
                cases e135
                replace p135 := eq_true p135
                replace q135 := eq_true q135
                go_wp2
                repeat (go_quiet (fail); try go_wp2)
                go_roundg k1
                case measure => have := HK1.out; omega
                case rel => exact ⟨(wrap64 (x5_1 + 1)), (by first | rfl | (simp; done) | (simp [*]; done)), H', ⟨by have := HK1.out; omega⟩, by repeat (first | exact Drawn0.refl _ | apply Drawn0.step)⟩
              · rw [if_neg c7] at H
                have c7b0 : ((rd l0 x5_1) == (rd l1 x5_1)) = false := beq_eq_false_iff_ne.mpr c7
                have c7b1 : ((rd l0 x5_1) != (rd l1 x5_1)) = true := bne_iff_ne.mpr c7
                obtain rfl := Option.some.inj H
                have p134 : 0 ≤ (x5_1 : Int) := of_decide_eq_true (by first | (with_reducible assumption) | assumption)
                have q134 : x5_1 < (l0.length : Int) := of_decide_eq_true (by first | (with_reducible assumption) | assumption)
                obtain ⟨ad134, e134, hx134_0⟩ := Kd.at_int HR0.out x5_1 p134 q134
                cases e134
                replace p134 := eq_true p134
                replace q134 := eq_true q134
                have p135 : 0 ≤ (x5_1 : Int) := of_decide_eq_true (by first | (with_reducible assumption) | assumption)
                have q135 : x5_1 < (l1.length : Int) := of_decide_eq_true (by first | (with_reducible assumption) | assumption)
                obtain ⟨ad135, e135, hx135_0⟩ := Kd.at_int HR1.out x5_1 p135 q135
                cases e135
                replace p135 := eq_true p135
                replace q135 := eq_true q135
                go_wp2
                repeat (go_quiet (fail); try go_wp2)
                go_ret
                exact ⟨by first | rfl | (simp; done) | (simp [*]; done), by repeat (first | exact Drawn0.refl _ | apply Drawn0.step)⟩
            · rw [if_neg c6] at H
              exact absurd H (by simp)
          · rw [if_neg c5] at H
            exact absurd H (by simp)
        · rw [if_neg c4] at H
          have c4b0 : decide (x5_1 < (l0.length : Int)) = false := decide_eq_false c4
          clear c4
          obtain rfl := Option.some.inj H
          go_wp2
          repeat (go_quiet (fail); try go_wp2)
          go_ret
          exact ⟨by first | rfl | (simp; done) | (simp [*]; done), by repeat (first | exact Drawn0.refl _ | apply Drawn0.step)⟩
  · rw [if_neg c3] at H
    have c3b0 : ((l0.length : Int) == (l1.length : Int)) = false := beq_eq_false_iff_ne.mpr c3
    have c3b1 : ((l0.length : Int) != (l1.length : Int)) = true := bne_iff_ne.mpr c3
    have c3b2 : (l0.length == l1.length) = false := by first | simpa using c3 | (simp at c3 ⊢; omega)
    obtain rfl := Option.some.inj H
    go_enter Try.func14, Try.ntmps14
    go_wp2
    repeat (go_quiet (fail); try go_wp2)
    go_ret
    exact ⟨by first | rfl | (simp; done) | (simp [*]; done), by repeat (first | exact Drawn0.refl _ | apply Drawn0.step)⟩

/-! ### root_Square: function 39 (given) -/
/-- what is kept below: the closure of Square -/
def root_Square1.f (n x : Int) : Option Bool := (bits_Mul64.f x x).bind fun t => root_below.f t.1 t.2 n 0
theorem root_Square1.calls (n x : Int) (r : Bool) (a : Addr) (w : World) (hc : w.cell? a = some (.int .u64 n)) (h : root_Square1.f n x = some r) :
    Calls Try.prog 51 #[.int .u64 x, .pointer (some a)] w fun e w' => e = .returned (.bool r) ∧ Drawn0 w w' := by
  obtain ⟨t, ht0, hb0⟩ := Option.bind_eq_some_iff.mp h
  have ht := Aside0.mk ht0
  have hb := Aside0.mk hb0
  clear h ht0 hb0
  go_enter Try.func51, Try.ntmps51
  go_wp2_with (first | (go_at_call 48; (with_reducible refine (bits_Mul64.calls _ _ t.1 t.2 _ ht.out).mono ?_); rintro e w' ⟨rfl, ⟨nd, rfl⟩⟩) | (go_at_call 49; (with_reducible refine (root_below.calls _ _ _ _ _ _ hb.out).mono ?_); rintro e w' ⟨rfl, ⟨nd, rfl⟩⟩))
  go_ret
  exact ⟨by first | rfl | (simp; done) | (simp [*]; done), by repeat (first | exact Drawn0.refl _ | apply Drawn0.step)⟩
/-- one bit behind the other, from the bit n - 1 down -/
def root_Square.l0 (g : Int → Bool) : Nat → Int → Int
  | 0, x => x
  | n + 1, x => root_Square.l0 g n (if g (Go.bits .or .u64 x (IntKind.u64.wrap (2 ^ n))) = true then Go.bits .or .u64 x (IntKind.u64.wrap (2 ^ n)) else x)
set_option maxHeartbeats 1000000 in
theorem root_Square.search (g : Int → Bool) (n : Int) (hg : ∀ x, root_Square1.f n x = some (g x)) (p : Nat) (hp : p ≤ 60) (a : Addr) (w : World) (hc : w.cell? a = some (.int .u64 n)) :
    Calls Try.prog 46 #[.int .i64 p, .func (.func 51) #[] #[.pointer (some a)]] w fun e w' => e = .returned (.int .u64 (root_Square.l0 g p 0)) ∧ Drawn0 w w' := by
  have HG := Aside0.mk hg
  clear hg
  go_enter Try.func46, Try.ntmps46
  go_wp2
  go_loopg [5, 6] p (fun q v5 v6 w' => ∃ (x : Int), v5 = .int .u64 x ∧ v6 = .int .i64 ((q : Int) - 1) ∧ q ≤ p ∧ Aside0 (root_Square.l0 g p 0 = root_Square.l0 g q x) ∧ Drawn0 w w')
  case atStart => exact ⟨0, rfl, rfl, Nat.le_refl _, ⟨rfl⟩, by repeat (first | exact Drawn0.refl _ | apply Drawn0.step)⟩
  case round =>
    obtain ⟨x, rfl, rfl, hq, HA, ⟨m1, rfl⟩⟩ := hrel
    have hcell : (w.drewN m1).cell? a = some (.int .u64 n) := hc
    cases gk with
    | zero =>
      have hd : decide (0 ≤ ((0 : Nat) : Int) - 1) = false := by decide
      have hd2 : decide (1 ≤ ((0 : Nat) : Int)) = false := by decide
      go_wp2
      go_ret
      exact ⟨by rw [HA.out]; rfl, by repeat (first | exact Drawn0.refl _ | apply Drawn0.step)⟩
    | succ q =>
      have e1 : (((q + 1 : Nat) : Int) - 1) = (q : Int) := by omega
      rw [e1]
      clear e1
      have h0 : 0 ≤ (q : Int) := by omega
      have hd : decide (0 ≤ (q : Int)) = true := by simp
      obtain ⟨b, hb⟩ : ∃ b, g (Go.bits .or .u64 x (IntKind.u64.wrap (2 ^ q))) = b := ⟨_, rfl⟩
      have HB := Aside0.mk hb
      have HC : Aside0 (root_Square1.f n (Go.bits .or .u64 x (IntKind.u64.wrap (2 ^ q))) = some b) := ⟨by rw [HG.out, hb]⟩
      clear hb
      cases b with
      | true =>
        have HS : Aside0 (root_Square.l0 g p 0 = root_Square.l0 g q (Go.bits .or .u64 x (IntKind.u64.wrap (2 ^ q)))) := ⟨by rw [HA.out, root_Square.l0, if_pos HB.out]⟩
        go_wp2_with (go_at_call 51; (with_reducible refine (root_Square1.calls n _ true a _ hcell HC.out).mono ?_); rintro e w' ⟨rfl, ⟨nd, rfl⟩⟩)
        go_roundg q
        case rel => exact ⟨_, rfl, by go_num, by omega, HS, by repeat (first | exact Drawn0.refl _ | apply Drawn0.step)⟩
        case measure => omega
      | false =>
        have HS : Aside0 (root_Square.l0 g p 0 = root_Square.l0 g q x) := ⟨by rw [HA.out, root_Square.l0, HB.out]; rfl⟩
        go_wp2_with (go_at_call 51; (with_reducible refine (root_Square1.calls n _ false a _ hcell HC.out).mono ?_); rintro e w' ⟨rfl, ⟨nd, rfl⟩⟩)
        go_roundg q
        case rel => exact ⟨_, rfl, by go_num, by omega, HS, by repeat (first | exact Drawn0.refl _ | apply Drawn0.step)⟩
        case measure => omega
/-- the clipped number, as it is kept -/
def root_Square.n (a0 : Int) : Int := mn (mx a0 0) 65536
def root_Square.f (a0 : Int) : Option Int := some (root_Square.l0 (fun x => (root_Square1.f (root_Square.n a0) x).getD false) 42 0)
theorem root_Square1.some (n x : Int) : root_Square1.f n x = some ((root_Square1.f n x).getD false) := by
  simp only [root_Square1.f, bits_Mul64.f, Option.bind_some, root_below.f]
  split <;> rfl
set_option maxHeartbeats 1000000 in
theorem root_Square.calls (a0 : Int) (r : Int) (w : World) (h : root_Square.f a0 = some r) :
    Calls Try.prog 39 #[.int .i64 a0] w fun e w' => e = .returned (.int .u64 r) ∧ Below w.heap.size w w' := by
  have hs : ∀ (W : World) (a : Addr), W.cell? a = some (.int .u64 (root_Square.n a0)) → Calls Try.prog 46 #[.int .i64 42, .func (.func 51) #[] #[.pointer (some a)]] W fun e w' => e = .returned (.int .u64 r) ∧ Drawn0 W w' := by
    intro W a hc
    obtain rfl := Option.some.inj h
    exact root_Square.search _ (root_Square.n a0) (root_Square1.some _) 42 (by decide) a W hc
  have HS := Aside0.mk hs
  clear hs h
  have hn : root_clip.f a0 = some (mn (mx a0 0) 65536) := rfl
  have HN := Aside0.mk hn
  clear hn
  have hmf : ∀ (fn : Fn) (first cap : Array Value) (w : World), (Instr.makeFunc fn first cap).run Try.prog w = .ok (.func fn first cap) w := fun _ _ _ _ => rfl
  go_enter Try.func39, Try.ntmps39
  go_wp2_with (first | (go_at_call 45; (with_reducible refine (root_clip.calls a0 _ _ HN.out).mono ?_); rintro e w1 ⟨rfl, hb1⟩; have HB1 := Aside0.mk hb1; clear hb1) | (go_at_call 46; (with_reducible refine (HS.out _ _ (by first | rfl | (simp; done) | (simp [root_Square.n]; done))).mono ?_); rintro e w' ⟨rfl, ⟨nd, rfl⟩⟩))
  go_ret
  exact ⟨rfl, by repeat (first | exact HB1.out | apply pw_below_drewN | apply below_alloc)⟩

/-! ### sha_first: function 26 (given) -/
/-- the numbers of primes' roots, 32 bits of each -/
def sha_first.go : List Int → Option (List Int)
  | [] => some []
  | p :: r => (root_Square.f p).bind fun t => (sha_first.go r).bind fun l => some (t % 4294967296 :: l)
def sha_first.f : Option (List Int) := (root_Primes.f 8).bind fun ps => if ps.length = 8 then sha_first.go ps else none
theorem sha_first.drop_at (l : List Int) (j : Nat) (h : j < l.length) : l.drop j = rd l j :: l.drop (j + 1) := by
  rw [List.drop_eq_getElem_cons h]
  unfold rd
  rw [Int.toNat_natCast, List.getD_eq_getElem?_getD, List.getElem?_eq_getElem h]; rfl
theorem sha_first.set_at (d : List Int) (x : Int) (n : Nat) : (d ++ List.replicate (n + 1) 0).set d.length x = (d ++ [x]) ++ List.replicate n 0 := by
  rw [List.set_append_right _ _ (Nat.le_refl _), Nat.sub_self, List.replicate_succ, List.set_cons_zero]; simp
theorem sha_first.arr_set (k : IntKind) (l : List Int) (j : Nat) (x : Int) : (nums k l).toArray.setIfInBounds j (.int k x) = (nums k (l.set j x)).toArray := by
  apply Array.toList_inj.1
  simp [nums, List.map_set]
theorem sha_first.arr_get (k : IntKind) (l : List Int) (j : Nat) (h : j < l.length) : (nums k l).toArray[j]? = some (.int k l[j]) := by
  simp [nums, List.getElem?_eq_getElem h]
/-- block g holds these numbers of 32 bits -/
structure sha_first.Blk (W : World) (g : Nat) (l : List Int) : Prop where
  mk ::
  out : W.heap[g]? = some (.cells (nums .u32 l).toArray 41 (0, 0))
theorem sha_first.size (l : List Int) (h : l.length = 8) : (Try.prog.info? 41).map (·.size) = some (nums .u32 l).toArray.size := by
  rw [show (Try.prog.info? 41).map (·.size) = some 8 from by kernel_rfl]
  simp [nums, h]
theorem sha_first.ones (k : IntKind) (l : List Int) : (nums k l).toArray.all (·.oneCell') = true := by
  rw [Array.all_eq_true_iff_forall_mem]
  intro v hv
  simp [nums] at hv
  obtain ⟨a, _, rfl⟩ := hv
  rfl
theorem sha_first.below_row {w W : World} {g : Nat} (h : Below w.heap.size w W) (hg : w.heap.size ≤ g) (cs : Array Value) : Below w.heap.size w (W.setRow g cs) :=
  h.trans ⟨rfl, rfl, rfl, by simp, fun k hk => setRow_other _ _ _ _ (by omega)⟩
set_option maxHeartbeats 4000000 in
set_option maxRecDepth 100000 in
theorem sha_first.calls (r : List Int) (w : World) (h : sha_first.f = some r) :
    Calls Try.prog 26 #[] w fun e w' => e = .returned (.agg (nums .u32 r).toArray) ∧ Below w.heap.size w w' := by
  obtain ⟨ps, hps0, hgo0⟩ := Option.bind_eq_some_iff.mp h
  have hln : ps.length = 8 := by
    by_cases hl : ps.length = 8
    · exact hl
    · rw [if_neg hl] at hgo0; exact absurd hgo0 (by simp)
  rw [if_pos hln] at hgo0
  have HPS := Aside0.mk hps0
  have HGO := Aside0.mk hgo0
  have HLN := Aside0.mk hln
  clear h hps0 hgo0 hln
  have hnew : ∀ W : World, W.heap.size = w.heap.size → sha_first.Blk ((W.alloc (.cells (nums .u32 (List.replicate 8 0)).toArray 41)).alloc (.cells (nums .u32 (List.replicate 8 0)).toArray 41)) w.heap.size (List.replicate 8 0) ∧ sha_first.Blk ((W.alloc (.cells (nums .u32 (List.replicate 8 0)).toArray 41)).alloc (.cells (nums .u32 (List.replicate 8 0)).toArray 41)) (w.heap.size + 1) (List.replicate 8 0) := by
    intro W hW
    rw [← hW]
    exact ⟨⟨blk_alloc (blk_new _ _) _⟩, ⟨by have := blk_new (W.alloc (.cells (nums .u32 (List.replicate 8 0)).toArray 41)) (.cells (nums .u32 (List.replicate 8 0)).toArray 41); simpa using this⟩⟩
  have HNEW := Aside0.mk hnew
  clear hnew
  go_enter Try.func26, Try.ntmps26
  go_wp2_with (go_at_call 35; (with_reducible refine (root_Primes.calls _ ps _ HPS.out).mono ?_); rintro e w1 ⟨v4, rfl, ho, hb⟩; (obtain ⟨A4, c4, rfl, hle, hC⟩ := Kd.R_reads ho); have HO0 := Aside0.mk ho; have HB1 := Aside0.mk hb; clear ho hb hle hC)
  have HZ0 : Aside0 (sha_first.Blk w1 w.heap.size (List.replicate 8 0)) := ⟨⟨blk_below (HNEW.out w rfl).1.out HB1.out⟩⟩
  have HZ1 : Aside0 (sha_first.Blk w1 (w.heap.size + 1) (List.replicate 8 0)) := ⟨⟨blk_below (HNEW.out w rfl).2.out HB1.out⟩⟩
  have HB : Aside0 (Below w.heap.size w w1) := ⟨below_step (below_alloc (below_alloc (Below.refl _ _) _) _) HB1.out⟩
  have HO : Aside0 (Kd.R (Kd.int .i64) 3 w1 w.heap.size (fun _ => True) (Value.slice A4 ps.length c4) ps) := ⟨Kd.R_lower HO0.out (by simp; omega)⟩
  clear HB1 HO0 HNEW
  go_loopg [6] 8 (fun q v6 w' => ∃ (j : Nat) (d : List Int), v6 = .int .i64 (j : Int) ∧ j + q = 8 ∧ d.length = j ∧ Aside0 (∃ l, sha_first.go (ps.drop j) = some l ∧ d ++ l = r) ∧ Aside0 (sha_first.Blk w' w.heap.size (List.replicate 8 0)) ∧ Aside0 (sha_first.Blk w' (w.heap.size + 1) (d ++ List.replicate q 0)) ∧ Aside0 (Below w.heap.size w w') ∧ Aside0 (Kd.R (Kd.int .i64) 3 w' w.heap.size (fun _ => True) (Value.slice A4 ps.length c4) ps))
  case atStart => exact ⟨0, [], by go_num, rfl, rfl, ⟨⟨r, HGO.out, rfl⟩⟩, HZ0, HZ1, HB, HO⟩
  case round =>
    clear HZ0 HZ1 HB HO
    obtain ⟨j, d, rfl, hjq, hdl, HL, HZ0, HZ1, HB, HO⟩ := hrel
    have HDL := Aside0.mk hdl
    clear hdl
    cases gk with
    | zero =>
      obtain rfl : j = 8 := by omega
      have hb0 : decide (((8 : Nat) : Int) < (ps.length : Int)) = false := decide_eq_false (by have := HLN.out; omega)
      have hb1 : decide (8 < ps.length) = false := decide_eq_false (by have := HLN.out; omega)
      have hb2 : decide ((8 : Int) < (ps.length : Int)) = false := decide_eq_false (by have := HLN.out; omega)
      have hr : d = r := by
        obtain ⟨l, hl, hr⟩ := HL.out
        rw [List.drop_eq_nil_of_le (by have := HLN.out; omega)] at hl
        simp only [sha_first.go] at hl
        obtain rfl := Option.some.inj hl
        simpa using hr
      have HD : Aside0 (d.length = 8) := HDL
      subst hr
      have HZ2 : Aside0 (sha_first.Blk wr (w.heap.size + 1) d) := ⟨by simpa using HZ1.out⟩
      clear HZ1 HL
      go_wp2_with (first | (refine wpList_load_row rfl 41 (.tmp 1) rfl (w.heap.size + 1) rfl 41 _ (0, 0) _ HZ2.out.out Try.underlying41 rfl (sha_first.size d HD.out) ?_) | (refine wpList_store_row rfl 41 (.tmp 0) (.tmp 17) rfl w.heap.size _ rfl rfl 41 _ HZ0.out.out (sha_first.size d HD.out) (by have := HD.out; simp [nums, this]) (sha_first.ones _ _) ?_))
      refine bodyPost_ret (v := .agg (nums .u32 d).toArray) (results_cell_row rfl _ _ w.heap.size 41 _ (0, 0) _ rfl (setRow_heap _ _ _ _ _ _ HZ0.out.out) Try.underlying41 rfl (sha_first.size d HD.out)) rfl ⟨rfl, sha_first.below_row HB.out (Nat.le_refl _) _⟩
    | succ q =>
      have hj : j < ps.length := by have := HLN.out; omega
      have hjn : j < 8 := by omega
      have hb0 : decide ((j : Int) < (ps.length : Int)) = true := decide_eq_true (by omega)
      have hb1 : decide (j < ps.length) = true := decide_eq_true hj
      have hb2 : decide (j < 8) = true := decide_eq_true hjn
      have hb3 : decide ((j : Int) < 8) = true := decide_eq_true (by omega)
      obtain ⟨l, hl, hr⟩ := HL.out
      rw [sha_first.drop_at ps j hj] at hl
      obtain ⟨t, ht, hl⟩ := Option.bind_eq_some_iff.mp hl
      obtain ⟨l', hl', hl⟩ := Option.bind_eq_some_iff.mp hl
      obtain rfl := Option.some.inj hl
      have HT := Aside0.mk ht
      have HL' := Aside0.mk hl'
      have HR := Aside0.mk hr
      clear HL ht hl' hr hl
      obtain ⟨A4_, c4_, e4, hle, hC⟩ := Kd.R_reads HO.out
      obtain ⟨rfl, rfl⟩ : A4 = A4_ ∧ c4 = c4_ := by injection e4 with e1 e2 e3; exact ⟨e1, e3⟩
      clear e4
      obtain ⟨ad, eA, hcell⟩ := Kd.at_int hC (j : Int) (by omega) (by omega)
      subst eA
      rw [Int.toNat_natCast] at hcell
      clear hC hle
      go_wp2_with (go_at_call 39; (with_reducible refine (root_Square.calls _ t _ HT.out).mono ?_); rintro e w2 ⟨rfl, hb2⟩; (have HZ0n : Aside0 (sha_first.Blk w2 w.heap.size (List.replicate 8 0)) := ⟨⟨blk_below HZ0.out.out hb2⟩⟩); (have HZ1n : Aside0 (sha_first.Blk w2 (w.heap.size + 1) (d ++ List.replicate (q + 1) 0)) := ⟨⟨blk_below HZ1.out.out hb2⟩⟩); (have HBn : Aside0 (Below w.heap.size w w2) := ⟨below_step HB.out hb2⟩); (have HOn : Aside0 (Kd.R (Kd.int .i64) 3 w2 w.heap.size (fun _ => True) (Value.slice (some ad) ps.length c4) ps) := ⟨Kd.R_below HO.out hb2⟩); (have hcl : w2.cell? ⟨w.heap.size + 1, j, none⟩ = some (.int .u32 (d ++ List.replicate (q + 1) 0)[j]!) := by rw [blk_cell HZ1n.out.out, sha_first.arr_get _ _ _ (by have := HDL.out; simp; omega)]; congr 2; rw [List.getElem!_eq_getElem?_getD, List.getElem?_eq_getElem]; rfl); (have hfz : w2.frozen? ⟨w.heap.size + 1, j, none⟩ = false := blk_frozen HZ1n.out.out _); clear hb2)
      go_roundg q
      case measure => omega
      case rel =>
        refine ⟨j + 1, d ++ [t % 4294967296], by go_num, by omega, by have := HDL.out; simp [this], ⟨⟨l', HL'.out, by rw [← HR.out]; simp⟩⟩, ⟨⟨blk_far HZ0n.out.out (by simp) _⟩⟩, ⟨⟨?_⟩⟩, ⟨HBn.out.setCell (by simp) _⟩, ⟨Kd.R_set HOn.out HZ1n.out.out (by decide) _ _⟩⟩
        have hs := blk_set HZ1n.out.out j (.int .u32 (t % 4294967296))
        rw [sha_first.arr_set] at hs
        have e := sha_first.set_at d (t % 4294967296) q
        rw [HDL.out] at e
        rw [e] at hs
        exact hs

/-! ### sha_Start: function 15 (given) -/
def sha_Start.f : Option (List Int) := sha_first.f
theorem sha_first.len : ∀ (ps l : List Int), sha_first.go ps = some l → l.length = ps.length
  | [], l, h => by simp only [sha_first.go] at h; obtain rfl := Option.some.inj h; rfl
  | p :: r, l, h => by
    simp only [sha_first.go] at h
    obtain ⟨t, _, h⟩ := Option.bind_eq_some_iff.mp h
    obtain ⟨m, hm, h⟩ := Option.bind_eq_some_iff.mp h
    obtain rfl := Option.some.inj h
    simp [sha_first.len r m hm]
theorem sha_first.len8 {l : List Int} (h : sha_first.f = some l) : l.length = 8 := by
  obtain ⟨ps, _, hgo⟩ := Option.bind_eq_some_iff.mp h
  by_cases hl : ps.length = 8
  · rw [if_pos hl] at hgo; rw [sha_first.len ps l hgo, hl]
  · rw [if_neg hl] at hgo; exact absurd hgo (by simp)
theorem sha_Start.V_block {W : World} {k : IntKind} {g e base B : Nat} {T : TypeId} {l : List Int} (h : W.heap[g]? = some (.cells (nums k l).toArray T (0, 0))) (hB : B ≤ g) (hl : l.length ≤ 1000) : Kd.V (Kd.int k) e W base (fun k_ => (B ≤ k_)) (.slice (some ⟨g, 0, none⟩) l.length l.length) l := by
  refine ⟨_, _, rfl, Nat.le_refl _, fun W' hW => ?_⟩
  have h' : W'.heap[g]? = some (.cells (nums k l).toArray T (0, 0)) := (hW g hB (blk_lt h)).trans h
  refine Kd.C_of_reads (d := (0 : Int)) (h1 := fun _ => rfl) ⟨rfl, by omega, fun _ => ⟨_, rfl, fun j hj => ?_⟩⟩
  rw [add_plain, blk_cell h', sha_first.arr_get k l j hj, List.getD_eq_getElem?_getD, List.getElem?_eq_getElem hj]; rfl
set_option maxHeartbeats 4000000 in
set_option maxRecDepth 100000 in
theorem sha_Start.calls (r : List Int) (w : World) (h : sha_Start.f = some r) :
    Calls Try.prog 15 #[] w fun e w' => ∃ v0_ : Value, e = .returned (v0_) ∧ Kd.V (Kd.int .u32) 34 w' w.heap.size (fun k_ => (w.heap.size ≤ k_)) v0_ r ∧ Below w.heap.size w w' := by
  have HF : Aside0 (sha_first.f = some r) := ⟨h⟩
  have HL : Aside0 (r.length = 8) := ⟨sha_first.len8 h⟩
  clear h
  go_enter Try.func15, Try.ntmps15
  go_wp2_with (first | (go_at_call 26; (with_reducible refine (sha_first.calls r _ HF.out).mono ?_); rintro e w1 ⟨rfl, hb⟩; have HB := Aside0.mk hb; clear hb) | (refine wpList_store_row rfl 41 (.tmp 1) (.tmp 2) rfl w1.heap.size _ rfl rfl 41 _ (blk_new _ _) (sha_first.size r HL.out) (by have := HL.out; simp [nums, this]) (sha_first.ones _ _) ?_))
  go_ret
  refine ⟨_, rfl, ?_, sha_first.below_row (below_alloc HB.out _) (below_size HB.out) _⟩
  have hv := sha_Start.V_block (e := 34) (base := w.heap.size) (setRow_heap (w1.alloc (.cells #[Value.int IntKind.u32 0, Value.int IntKind.u32 0, Value.int IntKind.u32 0, Value.int IntKind.u32 0, Value.int IntKind.u32 0, Value.int IntKind.u32 0, Value.int IntKind.u32 0, Value.int IntKind.u32 0] 41)) w1.heap.size _ (nums IntKind.u32 r).toArray _ _ (blk_new _ _)) (below_size HB.out) (by have := HL.out; omega)
  rw [HL.out] at hv
  exact hv

/-! ### notaryref02_Prime: function 40 -/
def notaryref02_Prime.l0 : Nat → Int → Int → Option (Bool)
  | 0, _, _ => none
  | k + 1, x0, x3 => if (wrap64 (x3 * x3)) ≤ x0 then (if x3 = 0 then (none) else (if (Int.tmod x0 x3) = 0 then (some false) else (notaryref02_Prime.l0 k x0 (wrap64 (x3 + 1))))) else (some (decide (x0 > 1)))
def notaryref02_Prime.f (k : Nat) (a0 : Int) : Option (Bool) := notaryref02_Prime.l0 k a0 2
theorem notaryref02_Prime.mono_l : ∀ k, (∀ y0 y1, LeO (notaryref02_Prime.l0 k y0 y1) (notaryref02_Prime.l0 (k + 1) y0 y1))
  | 0 => fun _ _ r h => by simp [notaryref02_Prime.l0] at h
  | k + 1 => by
    have ih0 := notaryref02_Prime.mono_l k
    · intro y0 y1
      unfold notaryref02_Prime.l0
      repeat' first
      | (with_reducible exact ih0 _ _)
      | (with_reducible exact LeO.refl _)
      | (with_reducible exact LeO.none _)
      | (with_reducible refine LeO.ite ?_ ?_)
      | (with_reducible refine LeO.bind ?_ (fun _ => ?_))
      | exact ih0 _ _
      | exact LeO.none _
      | refine LeO.ite ?_ ?_
      | refine LeO.bind ?_ (fun _ => ?_)
theorem notaryref02_Prime.mono : ∀ a0 k, LeO (notaryref02_Prime.f k a0) (notaryref02_Prime.f (k + 1) a0) := by
  intro a0 k
  have ih0 := notaryref02_Prime.mono_l k
  unfold notaryref02_Prime.f
  repeat' first
      | (with_reducible exact ih0 _ _)
      | (with_reducible exact LeO.refl _)
      | (with_reducible exact LeO.none _)
      | (with_reducible refine LeO.ite ?_ ?_)
      | (with_reducible refine LeO.bind ?_ (fun _ => ?_))
      | exact ih0 _ _
      | exact LeO.none _
      | refine LeO.ite ?_ ?_
      | refine LeO.bind ?_ (fun _ => ?_)
set_option maxHeartbeats 8000000 in
set_option maxRecDepth 100000 in
theorem notaryref02_Prime.calls (k : Nat) (a0 : Int) (r : Bool) (w : World) (h : notaryref02_Prime.f k a0 = some r) :
    Calls Try.prog 40 #[.int .i64 a0] w fun e w' => e = .returned (.bool r) ∧ Drawn0 w w' := by
  have H : (notaryref02_Prime.l0 k a0 2) = some r := h
  clear h
  have H' := Aside0.mk H
  clear H
  go_enter Try.func40, Try.ntmps40
  go_wp2
  go_loopg [3] k (fun kq v3 w' => ∃ (x3_1 : Int), v3 = .int .i64 x3_1 ∧ Aside0 (notaryref02_Prime.l0 kq a0 x3_1 = some r) ∧ Aside0 (kq ≤ k) ∧ Drawn0 w w')
  case atStart => exact ⟨(2), (by first | rfl | (simp; done) | (simp [*]; done)), H', ⟨Nat.le_refl _⟩, by repeat (first | exact Drawn0.refl _ | apply Drawn0.step)⟩
  case round =>
    clear H'
    obtain ⟨x3_1, rfl, HA, HK1, ⟨m1, rfl⟩⟩ := hrel
    cases gk with
    | zero => exact absurd HA.out (by simp [notaryref02_Prime.l0])
    | succ k1 =>
      have H := HA.out
      clear HA
      simp only [notaryref02_Prime.l0] at H
      by_cases c2 : (wrap64 (x3_1 * x3_1)) ≤ a0
      · rw [if_pos c2] at H
        have c2b0 : decide ((wrap64 (x3_1 * x3_1)) ≤ a0) = true := decide_eq_true c2
        clear c2
        by_cases c3 : x3_1 = 0
        · rw [if_pos c3] at H
          exact absurd H (by simp)
        · rw [if_neg c3] at H
          have c3b0 : (x3_1 == 0) = false := beq_eq_false_iff_ne.mpr c3
          have c3b1 : (x3_1 != 0) = true := bne_iff_ne.mpr c3
          by_cases c4 : (Int.tmod a0 x3_1) = 0
          · rw [if_pos c4] at H
            have c4b0 : ((Int.tmod a0 x3_1) == 0) = true := beq_iff_eq.mpr c4
            have c4b1 : ((Int.tmod a0 x3_1) != 0) = false := bne_eq_false_iff_eq.mpr c4
            clear c4
            obtain rfl := Option.some.inj H
            go_wp2
            go_ret
            exact ⟨by first | rfl | (simp; done) | (simp [*]; done), by repeat (first | exact Drawn0.refl _ | apply Drawn0.step)⟩
          · rw [if_neg c4] at H
            have c4b0 : ((Int.tmod a0 x3_1) == 0) = false := beq_eq_false_iff_ne.mpr c4
            have c4b1 : ((Int.tmod a0 x3_1) != 0) = true := bne_iff_ne.mpr c4
            have H' := Aside0.mk H
            clear H
            go_wp2
            go_roundg k1
            case measure => have := HK1.out; omega
            case rel => exact ⟨(wrap64 (x3_1 + 1)), (by first | rfl | (simp; done) | (simp [*]; done)), H', ⟨by have := HK1.out; omega⟩, by repeat (first | exact Drawn0.refl _ | apply Drawn0.step)⟩
      · rw [if_neg c2] at H
        have c2b0 : decide ((wrap64 (x3_1 * x3_1)) ≤ a0) = false := decide_eq_false c2
        clear c2
        obtain rfl := Option.some.inj H
        go_wp2
        go_ret
        exact ⟨by first | rfl | (simp; done) | (simp [*]; done), by repeat (first | exact Drawn0.refl _ | apply Drawn0.step)⟩

/-! ### notaryref02_Primes: function 27 -/
mutual
def notaryref02_Primes.l0 : Nat → Int → List Int → Int → Option (List Int)
  | 0, _, _, _ => none
  | k + 1, x0, x3, x4 => if x4 < 600 then (if (x3.length : Int) < x0 then (notaryref02_Primes.j1 k x0 x3 x4 (decide ((x3.length : Int) < 100))) else (notaryref02_Primes.j1 k x0 x3 x4 false)) else (notaryref02_Primes.j1 k x0 x3 x4 false)
def notaryref02_Primes.j1 : Nat → Int → List Int → Int → Bool → Option (List Int)
  | 0, _, _, _, _ => none
  | k + 1, x0, x3, x4, x18 => if x18 = true then ((notaryref02_Prime.f k x4).bind fun t139 => (if t139 = true then (if x3.length < 17592186044416 then (notaryref02_Primes.l0 k x0 (x3 ++ [x4]) (wrap64 (x4 + 1))) else (none)) else (notaryref02_Primes.l0 k x0 x3 (wrap64 (x4 + 1))))) else (some x3)
end
def notaryref02_Primes.f (k : Nat) (a0 : Int) : Option (List Int) := notaryref02_Primes.l0 k a0 (([] : List Int)) 2
theorem notaryref02_Primes.mono_l : ∀ k, (∀ y0 y1 y2, LeO (notaryref02_Primes.l0 k y0 y1 y2) (notaryref02_Primes.l0 (k + 1) y0 y1 y2)) ∧ (∀ y0 y1 y2 y3, LeO (notaryref02_Primes.j1 k y0 y1 y2 y3) (notaryref02_Primes.j1 (k + 1) y0 y1 y2 y3))
  | 0 => ⟨fun _ _ _ r h => by simp [notaryref02_Primes.l0] at h, fun _ _ _ _ r h => by simp [notaryref02_Primes.j1] at h⟩
  | k + 1 => by
    obtain ⟨ih0, ih1⟩ := notaryref02_Primes.mono_l k
    refine ⟨?_, ?_⟩
    · intro y0 y1 y2
      unfold notaryref02_Primes.l0
      repeat' first
      | (with_reducible exact ih0 _ _ _)
      | (with_reducible exact ih1 _ _ _ _)
      | (with_reducible exact notaryref02_Prime.mono _ _)
      | (with_reducible exact LeO.refl _)
      | (with_reducible exact LeO.none _)
      | (with_reducible refine LeO.ite ?_ ?_)
      | (with_reducible refine LeO.bind ?_ (fun _ => ?_))
      | exact ih0 _ _ _
      | exact ih1 _ _ _ _
      | exact notaryref02_Prime.mono _ _
      | exact LeO.none _
      | refine LeO.ite ?_ ?_
      | refine LeO.bind ?_ (fun _ => ?_)
    · intro y0 y1 y2 y3
      unfold notaryref02_Primes.j1
      repeat' first
      | (with_reducible exact ih0 _ _ _)
      | (with_reducible exact ih1 _ _ _ _)
      | (with_reducible exact notaryref02_Prime.mono _ _)
      | (with_reducible exact LeO.refl _)
      | (with_reducible exact LeO.none _)
      | (with_reducible refine LeO.ite ?_ ?_)
      | (with_reducible refine LeO.bind ?_ (fun _ => ?_))
      | exact ih0 _ _ _
      | exact ih1 _ _ _ _
      | exact notaryref02_Prime.mono _ _
      | exact LeO.none _
      | refine LeO.ite ?_ ?_
      | refine LeO.bind ?_ (fun _ => ?_)
theorem notaryref02_Primes.mono : ∀ a0 k, LeO (notaryref02_Primes.f k a0) (notaryref02_Primes.f (k + 1) a0) := by
  intro a0 k
  obtain ⟨ih0, ih1⟩ := notaryref02_Primes.mono_l k
  unfold notaryref02_Primes.f
  repeat' first
      | (with_reducible exact ih0 _ _ _)
      | (with_reducible exact ih1 _ _ _ _)
      | (with_reducible exact notaryref02_Prime.mono _ _)
      | (with_reducible exact LeO.refl _)
      | (with_reducible exact LeO.none _)
      | (with_reducible refine LeO.ite ?_ ?_)
      | (with_reducible refine LeO.bind ?_ (fun _ => ?_))
      | exact ih0 _ _ _
      | exact ih1 _ _ _ _
      | exact notaryref02_Prime.mono _ _
      | exact LeO.none _
      | refine LeO.ite ?_ ?_
      | refine LeO.bind ?_ (fun _ => ?_)
set_option maxHeartbeats 8000000 in
set_option maxRecDepth 100000 in
theorem notaryref02_Primes.calls (k : Nat) (a0 : Int) (r : List Int) (w : World) (h : notaryref02_Primes.f k a0 = some r) :
    Calls Try.prog 27 #[.int .i64 a0] w fun e w' => ∃ v0_ : Value, e = .returned (v0_) ∧ Kd.R (Kd.int .i64) 3 w' w.heap.size (fun _ => True) v0_ r ∧ Below w.heap.size w w' := by
  have HB := Aside0.mk (Below.refl w.heap.size w)
  have H : (notaryref02_Primes.l0 k a0 (([] : List Int)) 2) = some r := h
  clear h
  obtain ⟨y136, hy136⟩ : ∃ y_ : List Int, y_ = (([] : List Int)) := ⟨_, rfl⟩
  replace H : (notaryref02_Primes.l0 k a0 y136 2) = some r := by first | (rw [hy136]; with_reducible exact H) | (have H2_ := (Option.bind_some _ _).symm.trans H; rw [hy136]; with_reducible exact H2_) | (have H2_ := (Option.bind_some _ _).symm.trans H; with_reducible exact H2_) | with_reducible exact H | (rw [hy136]; exact H) | exact H
  have Ny136 := Aside0.mk hy136
  clear hy136
  have H' := Aside0.mk H
  clear H
  go_enter Try.func27, Try.ntmps27
  go_wp2_with (first | ((with_reducible refine gate_dst (N := 5) rfl ?_); (try (refine gate_guard (by rfl) ?_; dsimp only)); refine Kd.R_lit (Kd.int .i64) _ 3 ?hg (N := 5) ?hd (xs := ([] : List Int)) (inner := []) (ok := fun _ => True) (okp := fun _ => True) ?hr ?hp (fun _ hk => hk) trivial (Below.refl _ _) (Nat.le_refl _) (by simp) ?_; (case hd => rfl); (case hg => rfl); (case hr => first | (go_simp; done) | (go_simp; rfl) | (go_simp; simp only [IntKind.wrap_u8, IntKind.wrap_u32, (fun x => Int.tmod_eq_emod_of_nonneg (Int.emod_nonneg x (by decide)) : ∀ x : Int, (x % 4294967296).tmod 256 = x % 4294967296 % 256), Int.emod_emod_of_dvd _ (show (256 : Int) ∣ 4294967296 by decide), Int.emod_emod]; done) | (go_simp; simp only [IntKind.wrap_u8, IntKind.wrap_u32, (fun x => Int.tmod_eq_emod_of_nonneg (Int.emod_nonneg x (by decide)) : ∀ x : Int, (x % 4294967296).tmod 256 = x % 4294967296 % 256), Int.emod_emod_of_dvd _ (show (256 : Int) ∣ 4294967296 by decide), Int.emod_emod]; rfl)); (case hp => exact (Reps.none _ _)); intro v137 w2 ho3 hb hg_ hnew_; clear hg_ hnew_; (first | rw [← Ny136.out] at ho3 | (simp only [Int.reduceToNat] at ho3; rw [← Ny136.out] at ho3)); have n0_ := Aside0.mk (Kd.R_lower ho3 (below_size (by repeat (first | (with_reducible first | exact HB.out | apply below_alloc | apply pw_below_drewN | apply below_drew1) | exact HB.out)))); have n1_ := Aside0.mk (below_step (by repeat (first | (with_reducible first | exact HB.out | apply below_alloc | apply pw_below_drewN | apply below_drew1) | exact HB.out)) hb); clear HB; have HO138 := n0_; have HB := n1_; clear n0_ n1_; clear hb ho3))
  go_loopg [3, 4] k (fun kq v3 v4 w' => ∃ (x3_1 : List Int) (x4_1 : Int), v4 = .int .i64 x4_1 ∧ Aside0 (notaryref02_Primes.l0 kq a0 x3_1 x4_1 = some r) ∧ Aside0 (kq ≤ k) ∧ Aside0 (Kd.R (Kd.int .i64) 3 w' w.heap.size (fun _ => True) v3 x3_1) ∧ Aside0 (Below w.heap.size w w'))
  case atStart => exact ⟨(y136), (2), (by first | rfl | (simp; done) | (simp [*]; done)), H', ⟨Nat.le_refl _⟩, ⟨by (with_reducible repeat (first | apply Kd.R_alloc | apply Kd.R_drewN | apply Kd.R_drew)); exact HO138.out⟩, ⟨by repeat (first | (with_reducible first | exact HB.out | apply below_alloc | apply pw_below_drewN | apply below_drew1) | exact HB.out)⟩⟩
  case round =>
    clear H'
    try clear c2
    try clear p2
    obtain ⟨x3_1, x4_1, rfl, HA, HK1, HO_3, HB⟩ := hrel
    cases gk with
    | zero => exact absurd HA.out (by simp [notaryref02_Primes.l0])
    | succ k1 =>
      have H := HA.out
      clear HA
      simp only [notaryref02_Primes.l0] at H
      have HC4 := Aside0.mk H
      clear H
      go_upto_region 3 with (fail)
      go_cut [18] (fun v18 wc => ∃ (kq : Nat) (x18_3 : Bool), v18 = .bool x18_3 ∧ Aside0 (notaryref02_Primes.j1 kq a0 x3_1 x4_1 x18_3 = some r) ∧ Aside0 (kq ≤ k1) ∧ Aside0 (Kd.R (Kd.int .i64) 3 wc w.heap.size (fun _ => True) u3 x3_1) ∧ Aside0 (Below w.heap.size w wc))
      case first =>
        have H := HC4.out
        clear HC4
        by_cases c5 : x4_1 < 600
        · rw [if_pos c5] at H
          have c5b0 : decide (x4_1 < 600) = true := decide_eq_true c5
          clear c5
          (first | rw [c5b0] | (simp only [i64_w, i32_w]; rw [c5b0]) | skip)
          by_cases c6 : (x3_1.length : Int) < a0
          · rw [if_pos c6] at H
            have c6b0 : decide ((x3_1.length : Int) < a0) = true := decide_eq_true c6
            clear c6
            have H' := Aside0.mk H
            clear H
            obtain ⟨Ao7, co7, eo7⟩ := Kd.R_slice HO_3.out
            subst eo7
            go_wp2
            go_meet
            case rel => exact ⟨_, (decide ((x3_1.length : Int) < 100)), (by first | rfl | (simp; done) | (simp [*]; done)), H', ⟨by have := HK1.out; first | omega | exact Nat.le_refl _⟩, ⟨by (with_reducible repeat (first | apply Kd.R_alloc | apply Kd.R_drewN | apply Kd.R_drew)); exact HO_3.out⟩, ⟨by repeat (first | (with_reducible first | exact HB.out | apply below_alloc | apply pw_below_drewN | apply below_drew1) | exact HB.out)⟩⟩
          · rw [if_neg c6] at H
            have c6b0 : decide ((x3_1.length : Int) < a0) = false := decide_eq_false c6
            clear c6
            have H' := Aside0.mk H
            clear H
            obtain ⟨Ao8, co8, eo8⟩ := Kd.R_slice HO_3.out
            subst eo8
            go_wp2
            go_meet
            case rel => exact ⟨_, (false), (by first | rfl | (simp; done) | (simp [*]; done)), H', ⟨by have := HK1.out; first | omega | exact Nat.le_refl _⟩, ⟨by (with_reducible repeat (first | apply Kd.R_alloc | apply Kd.R_drewN | apply Kd.R_drew)); exact HO_3.out⟩, ⟨by repeat (first | (with_reducible first | exact HB.out | apply below_alloc | apply pw_below_drewN | apply below_drew1) | exact HB.out)⟩⟩
        · rw [if_neg c5] at H
          have c5b0 : decide (x4_1 < 600) = false := decide_eq_false c5
          clear c5
          (first | rw [c5b0] | (simp only [i64_w, i32_w]; rw [c5b0]) | skip)
          have H' := Aside0.mk H
          clear H
          go_wp2
          go_meet
          case rel => exact ⟨_, (false), (by first | rfl | (simp; done) | (simp [*]; done)), H', ⟨by have := HK1.out; first | omega | exact Nat.le_refl _⟩, ⟨by (with_reducible repeat (first | apply Kd.R_alloc | apply Kd.R_drewN | apply Kd.R_drew)); exact HO_3.out⟩, ⟨by repeat (first | (with_reducible first | exact HB.out | apply below_alloc | apply pw_below_drewN | apply below_drew1) | exact HB.out)⟩⟩
      case rest =>
        clear HC4
        try clear c2
        try clear p2
        try clear c5
        try clear c5b0
        try clear c6
        try clear c6b0
        try clear p2
        obtain ⟨kq, x18_3, rfl, HA, HJ3, HO_3, HB⟩ := hcut
        cases kq with
        | zero => exact absurd HA.out (by simp [notaryref02_Primes.j1])
        | succ kj3 =>
          have H := HA.out
          clear HA
          simp only [notaryref02_Primes.j1] at H
          by_cases c9 : x18_3 = true
          · subst c9
            have H1 : ((notaryref02_Prime.f kj3 x4_1).bind fun t139 => (if t139 = true then (if x3_1.length < 17592186044416 then (notaryref02_Primes.l0 kj3 a0 (x3_1 ++ [x4_1]) (wrap64 (x4_1 + 1))) else (none)) else (notaryref02_Primes.l0 kj3 a0 x3_1 (wrap64 (x4_1 + 1))))) = some r := by rw [if_pos rfl] at H; exact H
            clear H
            have H := H1
            clear H1
            replace H := Option.bind_eq_some_iff.mp H
            obtain ⟨t139, A100, H⟩ := H
            replace H : (if t139 = true then (if x3_1.length < 17592186044416 then (notaryref02_Primes.l0 kj3 a0 (x3_1 ++ [x4_1]) (wrap64 (x4_1 + 1))) else (none)) else (notaryref02_Primes.l0 kj3 a0 x3_1 (wrap64 (x4_1 + 1)))) = some r := H
            have A10 := Aside0.mk A100
            clear A100
            by_cases c11 : t139 = true
            · subst c11
              have H1 : (if x3_1.length < 17592186044416 then (notaryref02_Primes.l0 kj3 a0 (x3_1 ++ [x4_1]) (wrap64 (x4_1 + 1))) else (none)) = some r := by rw [if_pos rfl] at H; exact H
              clear H
              have H := H1
              clear H1
              by_cases c12 : x3_1.length < 17592186044416
              · rw [if_pos c12] at H
                have LMc12 := Aside0.mk c12
                clear c12
                obtain ⟨y140, hy140⟩ : ∃ y_ : List Int, y_ = (x3_1 ++ [x4_1]) := ⟨_, rfl⟩
                replace H : (notaryref02_Primes.l0 kj3 a0 y140 (wrap64 (x4_1 + 1))) = some r := by first | (rw [hy140]; with_reducible exact H) | (have H2_ := (Option.bind_some _ _).symm.trans H; rw [hy140]; with_reducible exact H2_) | (have H2_ := (Option.bind_some _ _).symm.trans H; with_reducible exact H2_) | with_reducible exact H | (rw [hy140]; exact H) | exact H
                have Ny140 := Aside0.mk hy140
                clear hy140
                have H' := Aside0.mk H
                clear H
                go_wp2_with (first | ((with_reducible refine gate_callee (f := 40) rfl ?_); refine goesL_ (some 22) rfl rfl Try.func40 (by kernel_rfl) rfl #[.int .i64 x4_1] rfl (by (try simp only [List.map_toArray, List.map_cons, List.map_nil]); first | done | rfl | (simp only [List.length_drop, List.length_take]; rfl)) ?_; (with_reducible refine (notaryref02_Prime.calls kj3 x4_1 true _ A10.out).mono ?_); rintro e w' ⟨rfl, ⟨nd, rfl⟩⟩; refine ⟨_, rfl, ?_⟩) | ((with_reducible refine gate_builtin (b := .append) (xs := #[.tmp 23, .tmp 25]) rfl ?_); (try (refine gate_guard (by rfl) ?_; dsimp only)); at_builtin; refine Kd.R_append (Kd.int .i64) (w0 := w) w.heap.size rfl (.tmp 23) (.tmp 25) 45 3 (.int .i64 0) 8 rfl Try.underlying45 info3 rfl (by decide) (by omega) u3 x3_1 x4_1 [.int .i64 x4_1] (fun _ => True) (fun _ => False) rfl rfl ?aP (fun _ hk => hk.elim) ?aF ?aO ?aB ?aS ?aL ?_; (case aP => exact rfl); (case aB => exact (by repeat (first | (with_reducible first | exact HB.out | apply below_alloc | apply pw_below_drewN | apply below_drew1) | exact HB.out))); (case aF => exact (fun _ _ => trivial)); (case aO => exact (by (with_reducible repeat (first | apply Kd.R_alloc | apply Kd.R_drewN | apply Kd.R_drew)); exact HO_3.out)); (case aS => exact (below_size (by repeat (first | (with_reducible first | exact HB.out | apply below_alloc | apply pw_below_drewN | apply below_drew1) | exact HB.out)))); (case aL => have := LMc12.out; omega); intro v141 w13 ho hb hg hat; rw [← Ny140.out] at ho; have n0_ := Aside0.mk (hb); have n1_ := Aside0.mk (ho); clear HB; clear HO_3; have HB := n0_; have HO142 := n1_; clear n0_ n1_; clear ho hb hg hat))
                go_roundg kj3
                case measure => have := HK1.out; have := HJ3.out; omega
                case rel => exact ⟨(y140), (wrap64 (x4_1 + 1)), (by first | rfl | (simp; done) | (simp [*]; done)), H', ⟨by have := HK1.out; have := HJ3.out; omega⟩, ⟨by (with_reducible repeat (first | apply Kd.R_alloc | apply Kd.R_drewN | apply Kd.R_drew)); exact HO142.out⟩, ⟨by repeat (first | (with_reducible first | exact HB.out | apply below_alloc | apply pw_below_drewN | apply below_drew1) | exact HB.out)⟩⟩
              · rw [if_neg c12] at H
                exact absurd H (by simp)
            · replace c11 := Bool.eq_false_iff.mpr c11
              subst c11
              have H1 : (notaryref02_Primes.l0 kj3 a0 x3_1 (wrap64 (x4_1 + 1))) = some r := by rw [if_neg (show ¬ (false = true) by decide)] at H; exact H
              clear H
              have H := H1
              clear H1
              have H' := Aside0.mk H
              clear H
              go_wp2_with (first | ((with_reducible refine gate_callee (f := 40) rfl ?_); refine goesL_ (some 22) rfl rfl Try.func40 (by kernel_rfl) rfl #[.int .i64 x4_1] rfl (by (try simp only [List.map_toArray, List.map_cons, List.map_nil]); first | done | rfl | (simp only [List.length_drop, List.length_take]; rfl)) ?_; (with_reducible refine (notaryref02_Prime.calls kj3 x4_1 false _ A10.out).mono ?_); rintro e w' ⟨rfl, ⟨nd, rfl⟩⟩; refine ⟨_, rfl, ?_⟩))
              go_roundg kj3
              case measure => have := HK1.out; have := HJ3.out; omega
              case rel => exact ⟨(x3_1), (wrap64 (x4_1 + 1)), (by first | rfl | (simp; done) | (simp [*]; done)), H', ⟨by have := HK1.out; have := HJ3.out; omega⟩, ⟨by (with_reducible repeat (first | apply Kd.R_alloc | apply Kd.R_drewN | apply Kd.R_drew)); exact HO_3.out⟩, ⟨by repeat (first | (with_reducible first | exact HB.out | apply below_alloc | apply pw_below_drewN | apply below_drew1) | exact HB.out)⟩⟩
          · replace c9 := Bool.eq_false_iff.mpr c9
            subst c9
            have H1 : (some x3_1) = some r := by rw [if_neg (show ¬ (false = true) by decide)] at H; exact H
            clear H
            have H := H1
            clear H1
            obtain rfl := Option.some.inj H
            go_wp2
            go_ret
            exact ⟨_, by first | rfl | (simp [errW_none, errW_some] <;> rfl) | (simp [*, errW_none, errW_some] <;> rfl), by (with_reducible repeat (first | apply Kd.R_alloc | apply Kd.R_drewN | apply Kd.R_drew)); exact HO_3.out, by repeat (first | (with_reducible first | exact HB.out | apply below_alloc | apply pw_below_drewN | apply below_drew1) | exact HB.out)⟩

/-! ### notaryref02_Shifted: function 41 -/
def notaryref02_Shifted.f (a0 : Int) (a1 : Int) : Option (List Int) := if 20 ≤ 35184372088832 then ((some (List.replicate 20 0 : List Int)).bind fun y143 => (if 0 ≤ a1 then (if a1 < (y143.length : Int) then (if 0 ≤ (wrap64 (a1 + 1)) then (if (wrap64 (a1 + 1)) < (y143.length : Int) then (some ((y143.set (a1 : Int).toNat (Int.tmod a0 65536)).set ((wrap64 (a1 + 1)) : Int).toNat (IntKind.u64.wrap (Int.tdiv a0 65536)))) else (none)) else (none)) else (none)) else (none))) else (none)
set_option maxHeartbeats 8000000 in
set_option maxRecDepth 100000 in
theorem notaryref02_Shifted.calls (a0 : Int) (a1 : Int) (r : List Int) (w : World) (h : notaryref02_Shifted.f a0 a1 = some r) :
    Calls Try.prog 41 #[.int .u64 a0, .int .i64 a1] w fun e w' => ∃ v0_ : Value, e = .returned (v0_) ∧ Kd.R (Kd.int .u64) 37 w' w.heap.size (fun _ => True) v0_ r ∧ Below w.heap.size w w' := by
  have HB := Aside0.mk (Below.refl w.heap.size w)
  have H : (if 20 ≤ 35184372088832 then ((some (List.replicate 20 0 : List Int)).bind fun y143 => (if 0 ≤ a1 then (if a1 < (y143.length : Int) then (if 0 ≤ (wrap64 (a1 + 1)) then (if (wrap64 (a1 + 1)) < (y143.length : Int) then (some ((y143.set (a1 : Int).toNat (Int.tmod a0 65536)).set ((wrap64 (a1 + 1)) : Int).toNat (IntKind.u64.wrap (Int.tdiv a0 65536)))) else (none)) else (none)) else (none)) else (none))) else (none)) = some r := h
  clear h
  by_cases c3 : 20 ≤ 35184372088832
  · rw [if_pos c3] at H
    have c3b0 := eq_true c3
    have c3b1 : decide (20 ≤ 35184372088832) = true := decide_eq_true c3
    clear c3
    obtain ⟨y143, hy143⟩ : ∃ y_ : List Int, y_ = (List.replicate 20 0) := ⟨_, rfl⟩
    replace H : (if 0 ≤ a1 then (if a1 < (y143.length : Int) then (if 0 ≤ (wrap64 (a1 + 1)) then (if (wrap64 (a1 + 1)) < (y143.length : Int) then (some ((y143.set (a1 : Int).toNat (Int.tmod a0 65536)).set ((wrap64 (a1 + 1)) : Int).toNat (IntKind.u64.wrap (Int.tdiv a0 65536)))) else (none)) else (none)) else (none)) else (none)) = some r := by first | (rw [hy143]; with_reducible exact H) | (have H2_ := (Option.bind_some _ _).symm.trans H; rw [hy143]; with_reducible exact H2_) | (have H2_ := (Option.bind_some _ _).symm.trans H; with_reducible exact H2_) | with_reducible exact H | (rw [hy143]; exact H) | exact H
    have Ny143 := Aside0.mk hy143
    clear hy143
    by_cases c4 : 0 ≤ a1
    · rw [if_pos c4] at H
      have c4b0 : decide (0 ≤ a1) = true := decide_eq_true c4
      clear c4
      by_cases c5 : a1 < (y143.length : Int)
      · rw [if_pos c5] at H
        have c5b0 : decide (a1 < (y143.length : Int)) = true := decide_eq_true c5
        clear c5
        obtain ⟨y146, hy146⟩ : ∃ y_ : List Int, y_ = (y143.set (a1 : Int).toNat (Int.tmod a0 65536)) := ⟨_, rfl⟩
        replace H : (if 0 ≤ (wrap64 (a1 + 1)) then (if (wrap64 (a1 + 1)) < (y143.length : Int) then (some (y146.set ((wrap64 (a1 + 1)) : Int).toNat (IntKind.u64.wrap (Int.tdiv a0 65536)))) else (none)) else (none)) = some r := by first | (rw [hy146]; with_reducible exact H) | (have H2_ := (Option.bind_some _ _).symm.trans H; rw [hy146]; with_reducible exact H2_) | (have H2_ := (Option.bind_some _ _).symm.trans H; with_reducible exact H2_) | with_reducible exact H | (rw [hy146]; exact H) | exact H
        have Ny146 := Aside0.mk hy146
        clear hy146
        obtain ⟨ji7, hji7⟩ : ∃ j_ : Int, (wrap64 (a1 + 1)) = j_ := ⟨_, rfl⟩
        replace H : (if 0 ≤ (ji7) then (if (ji7) < (y143.length : Int) then (some (y146.set ((ji7) : Int).toNat (IntKind.u64.wrap (Int.tdiv a0 65536)))) else (none)) else (none)) = some r := by first | (rw [hji7] at H; exact H) | (simp only [hji7] at H ⊢; exact H)
        have hji7w : (IntKind.i64.wrap (a1 + 1)) = ji7 := (i64_w _).trans hji7
        by_cases c8 : 0 ≤ (ji7)
        · rw [if_pos c8] at H
          have c8b0 : decide (0 ≤ (ji7)) = true := decide_eq_true c8
          clear c8
          by_cases c9 : (ji7) < (y143.length : Int)
          · rw [if_pos c9] at H
            have c9b0 : decide ((ji7) < (y143.length : Int)) = true := decide_eq_true c9
            clear c9
            obtain ⟨y147, hy147⟩ : ∃ y_ : List Int, y_ = (y146.set ((ji7) : Int).toNat (IntKind.u64.wrap (Int.tdiv a0 65536))) := ⟨_, rfl⟩
            replace H : (some y147) = some r := by first | (rw [hy147]; with_reducible exact H) | (have H2_ := (Option.bind_some _ _).symm.trans H; rw [hy147]; with_reducible exact H2_) | (have H2_ := (Option.bind_some _ _).symm.trans H; with_reducible exact H2_) | with_reducible exact H | (rw [hy147]; exact H) | exact H
            have Ny147 := Aside0.mk hy147
            clear hy147
            obtain rfl := Option.some.inj H
            go_enter Try.func41, Try.ntmps41
            go_wp2_with (first | ((with_reducible refine gate_dst (N := 6) rfl ?_); refine Kd.R_make (Kd.int .u64) _ 37 rfl (N := 6) rfl 56 _ _ rfl 20 rfl rfl Try.underlying56 (.int .u64 0) 8 info37 rfl (by decide) (by omega) 0 (ok := fun _ => True) (okp := fun _ => True) rfl (fun _ hk => hk) trivial (by omega) (by omega) (Below.refl _ _) (Nat.le_refl _) ?_; intro v144 w11 ho12 hb hg_ hnew_; clear hg_ hnew_; (first | rw [← Ny143.out] at ho12 | (simp only [Int.reduceToNat] at ho12; rw [← Ny143.out] at ho12)); have n0_ := Aside0.mk (Kd.R_lower ho12 (below_size (by repeat (first | (with_reducible first | exact HB.out | apply below_alloc | apply pw_below_drewN | apply below_drew1) | exact HB.out)))); have n1_ := Aside0.mk (below_step (by repeat (first | (with_reducible first | exact HB.out | apply below_alloc | apply pw_below_drewN | apply below_drew1) | exact HB.out)) hb); clear HB; have HO145 := n0_; have HB := n1_; clear n0_ n1_; clear hb ho12; have p6 : 0 ≤ (a1 : Int) := of_decide_eq_true (by first | (with_reducible assumption) | assumption); have q6 : (a1 : Int) < ((y143.length : Int) : Int) := of_decide_eq_true (by first | (with_reducible assumption) | assumption); obtain ⟨go6, co6, eo6, gb6, gl6, cl6, HG6⟩ := Kd.R_form HO145.out (by omega); (first | cases eo6 | (injection eo6 with ea_ en_ ec_; (first | subst ea_ | (injection ea_ with ea_; subst ea_)); subst ec_; clear en_)); have GB6 := Aside0.mk gb6; have GG6 := Aside0.mk HG6; clear gb6 gl6 HG6; obtain ⟨hx6_0, hf6_0⟩ := Kd.R_celln 0 HO145.out (a1 : Int) p6 q6; replace p6 := eq_true p6; replace q6 := eq_true q6; obtain ⟨hy13_, hz13_⟩ := Kd.R_celln 0 HO145.out (a1 : Int) (of_decide_eq_true (by first | (with_reducible assumption) | assumption)) (of_decide_eq_true (by first | (with_reducible assumption) | assumption)); have HP13 := Kd.R_putg HO145.out (a1 : Int) (Int.tmod a0 65536)) | ((with_reducible refine gate_store (t := 37) (p := 11) rfl ?_); refine store_event (t := 37) (p := 11) (v := ?vo_w14) (w1 := (w11.setCell ⟨go6, (a1 : Int).toNat, none⟩ (.int .u64 (Int.tmod a0 65536)))) ?hg ?ho ?hn ?hr ?_; (case ho => rfl); (case hg => rfl); (case hn => rfl); (case hr => first | (go_simp; done) | (go_simp; rfl) | (go_simp; simp only [IntKind.wrap_u8, IntKind.wrap_u32, (fun x => Int.tmod_eq_emod_of_nonneg (Int.emod_nonneg x (by decide)) : ∀ x : Int, (x % 4294967296).tmod 256 = x % 4294967296 % 256), Int.emod_emod_of_dvd _ (show (256 : Int) ∣ 4294967296 by decide), Int.emod_emod]; done) | (go_simp; simp only [IntKind.wrap_u8, IntKind.wrap_u32, (fun x => Int.tmod_eq_emod_of_nonneg (Int.emod_nonneg x (by decide)) : ∀ x : Int, (x % 4294967296).tmod 256 = x % 4294967296 % 256), Int.emod_emod_of_dvd _ (show (256 : Int) ∣ 4294967296 by decide), Int.emod_emod]; rfl)); intro w14 hw; have hg : w11.grownBy w14 (some go6) := (by rw [hw]; exact HP13.2); have hp_ : Kd.R (Kd.int .u64) 37 w14 w.heap.size (fun _ => True) (.slice (some ⟨go6, 0, none⟩) y143.length co6) y146 := (by rw [hw, Ny146.out]; exact HP13.1); clear HP13; have n0_ := Aside0.mk (hp_); have n1_ := Aside0.mk ((by rw [hw]; exact below_set (HB.out) GB6.out : Below w.heap.size w w14)); clear HO145; clear HB; have HO145 := n0_; have HB := n1_; clear n0_ n1_; clear hg hw hp_; have p10 : 0 ≤ ((ji7) : Int) := of_decide_eq_true (by first | (with_reducible assumption) | assumption); have q10 : ((ji7) : Int) < ((y143.length : Int) : Int) := of_decide_eq_true (by first | (with_reducible assumption) | assumption); obtain ⟨hx10_0, hf10_0⟩ := Kd.R_celln 0 HO145.out ((ji7) : Int) p10 q10; replace p10 := eq_true p10; replace q10 := eq_true q10; obtain ⟨hy15_, hz15_⟩ := Kd.R_celln 0 HO145.out ((ji7) : Int) (of_decide_eq_true (by first | (with_reducible assumption) | assumption)) (of_decide_eq_true (by first | (with_reducible assumption) | assumption)); have HP15 := Kd.R_putg HO145.out ((ji7) : Int) (IntKind.u64.wrap (Int.tdiv a0 65536))) | ((with_reducible refine gate_store (t := 37) (p := 17) rfl ?_); refine store_event (t := 37) (p := 17) (v := ?vo_w16) (w1 := (w14.setCell ⟨go6, ((ji7) : Int).toNat, none⟩ (.int .u64 (IntKind.u64.wrap (Int.tdiv a0 65536))))) ?hg ?ho ?hn ?hr ?_; (case ho => rfl); (case hg => rfl); (case hn => rfl); (case hr => first | (go_simp; done) | (go_simp; rfl) | (go_simp; simp only [IntKind.wrap_u8, IntKind.wrap_u32, (fun x => Int.tmod_eq_emod_of_nonneg (Int.emod_nonneg x (by decide)) : ∀ x : Int, (x % 4294967296).tmod 256 = x % 4294967296 % 256), Int.emod_emod_of_dvd _ (show (256 : Int) ∣ 4294967296 by decide), Int.emod_emod]; done) | (go_simp; simp only [IntKind.wrap_u8, IntKind.wrap_u32, (fun x => Int.tmod_eq_emod_of_nonneg (Int.emod_nonneg x (by decide)) : ∀ x : Int, (x % 4294967296).tmod 256 = x % 4294967296 % 256), Int.emod_emod_of_dvd _ (show (256 : Int) ∣ 4294967296 by decide), Int.emod_emod]; rfl)); intro w16 hw; have hg : w14.grownBy w16 (some go6) := (by rw [hw]; exact HP15.2); have hp_ : Kd.R (Kd.int .u64) 37 w16 w.heap.size (fun _ => True) (.slice (some ⟨go6, 0, none⟩) y143.length co6) y147 := (by rw [hw, Ny147.out]; exact HP15.1); clear HP15; have n0_ := Aside0.mk (hp_); have n1_ := Aside0.mk ((by rw [hw]; exact below_set (HB.out) GB6.out : Below w.heap.size w w16)); clear HO145; clear HB; have HO145 := n0_; have HB := n1_; clear n0_ n1_; clear hg hw hp_))
            go_ret
            exact ⟨_, by first | rfl | (simp [errW_none, errW_some] <;> rfl) | (simp only [← hji7]; first | rfl | (simp [errW_none, errW_some] <;> rfl)) | (simp [*, errW_none, errW_some] <;> rfl), by (with_reducible repeat (first | apply Kd.R_alloc | apply Kd.R_drewN | apply Kd.R_drew)); exact HO145.out, by repeat (first | (with_reducible first | exact HB.out | apply below_alloc | apply pw_below_drewN | apply below_drew1) | exact HB.out)⟩
          · rw [if_neg c9] at H
            exact absurd H (by simp)
        · rw [if_neg c8] at H
          exact absurd H (by simp)
      · rw [if_neg c5] at H
        exact absurd H (by simp)
    · rw [if_neg c4] at H
      exact absurd H (by simp)
  · rw [if_neg c3] at H
    exact absurd H (by simp)

/-! ### notaryref02_Clip: function 42 -/
def notaryref02_Clip.f (a0 : Int) : Option (Int) := if a0 < 0 then (some 0) else (if a0 > 65536 then (some 65536) else (some (IntKind.u64.wrap (a0))))
set_option maxHeartbeats 8000000 in
set_option maxRecDepth 100000 in
theorem notaryref02_Clip.calls (a0 : Int) (r : Int) (w : World) (h : notaryref02_Clip.f a0 = some r) :
    Calls Try.prog 42 #[.int .i64 a0] w fun e w' => e = .returned (.int .u64 r) ∧ Drawn0 w w' := by
  have H : (if a0 < 0 then (some 0) else (if a0 > 65536 then (some 65536) else (some (IntKind.u64.wrap (a0))))) = some r := h
  clear h
  by_cases c2 : a0 < 0
  · rw [if_pos c2] at H
    have c2b0 : decide (a0 < 0) = true := decide_eq_true c2
    clear c2
    obtain rfl := Option.some.inj H
    go_enter Try.func42, Try.ntmps42
    go_wp2
    go_ret
    exact ⟨by first | rfl | (simp; done) | (simp [*]; done), by repeat (first | exact Drawn0.refl _ | apply Drawn0.step)⟩
  · rw [if_neg c2] at H
    have c2b0 : decide (a0 < 0) = false := decide_eq_false c2
    clear c2
    by_cases c3 : a0 > 65536
    · rw [if_pos c3] at H
      have c3b0 : decide (65536 < a0) = true := decide_eq_true c3
      clear c3
      obtain rfl := Option.some.inj H
      go_enter Try.func42, Try.ntmps42
      go_wp2
      go_ret
      exact ⟨by first | rfl | (simp; done) | (simp [*]; done), by repeat (first | exact Drawn0.refl _ | apply Drawn0.step)⟩
    · rw [if_neg c3] at H
      have c3b0 : decide (65536 < a0) = false := decide_eq_false c3
      clear c3
      obtain rfl := Option.some.inj H
      go_enter Try.func42, Try.ntmps42
      go_wp2
      go_ret
      exact ⟨by first | rfl | (simp; done) | (simp [*]; done), by repeat (first | exact Drawn0.refl _ | apply Drawn0.step)⟩

end Go.Proofs.Ytpebbjhllfcnbaa.PAll
