-- SLIM: a printed text of which the unused ways are cut off
-- PRINTED by print.py (a twelfth state) out of the translation. Not trusted: Lean checks it.
import Derived.Test.YtogjnipojakfjaaPJdx0
namespace Go.Proofs.Ytogjnipojakfjaa.PJd
open Go.RowKit Go.Proofs.YtogjnipojakfjaaW.PrintWords Go.Proofs.YtogjnipojakfjaaW.PrintLast Go.Proofs.YtogjnipojakfjaaW.PrintMore
attribute [local go_sem] max2_int min2_int max_two min_two max_three min_three max_four min_four   -- for this text's walks alone
set_option linter.unusedVariables false
set_option linter.unusedSimpArgs false

/-! ### bits_Mul64: function 92 -/
def bits_Mul64.f (a0 : Int) (a1 : Int) : Option (Int × Int) := some (IntKind.u64.wrap ((IntKind.u64.wrap ((IntKind.u64.wrap ((a0 / 4294967296) * (a1 / 4294967296))) + ((IntKind.u64.wrap ((IntKind.u64.wrap ((a0 / 4294967296) * (Go.bits .and .u64 a1 4294967295))) + ((IntKind.u64.wrap ((Go.bits .and .u64 a0 4294967295) * (Go.bits .and .u64 a1 4294967295))) / 4294967296))) / 4294967296))) + ((IntKind.u64.wrap ((Go.bits .and .u64 (IntKind.u64.wrap ((IntKind.u64.wrap ((a0 / 4294967296) * (Go.bits .and .u64 a1 4294967295))) + ((IntKind.u64.wrap ((Go.bits .and .u64 a0 4294967295) * (Go.bits .and .u64 a1 4294967295))) / 4294967296))) 4294967295) + (IntKind.u64.wrap ((Go.bits .and .u64 a0 4294967295) * (a1 / 4294967296))))) / 4294967296)), IntKind.u64.wrap (a0 * a1))
set_option maxHeartbeats 8000000 in
set_option maxRecDepth 100000 in
theorem bits_Mul64.calls (a0 : Int) (a1 : Int) (r1 : Int) (r2 : Int) (w : World) (h : bits_Mul64.f a0 a1 = some (r1, r2)) :
    Calls Try.prog 92 #[.int .u64 a0, .int .u64 a1] w fun e w' => e = .returned (.tuple #[.int .u64 r1, .int .u64 r2]) ∧ Drawn0 w w' := by
  have H : (some (IntKind.u64.wrap ((IntKind.u64.wrap ((IntKind.u64.wrap ((a0 / 4294967296) * (a1 / 4294967296))) + ((IntKind.u64.wrap ((IntKind.u64.wrap ((a0 / 4294967296) * (Go.bits .and .u64 a1 4294967295))) + ((IntKind.u64.wrap ((Go.bits .and .u64 a0 4294967295) * (Go.bits .and .u64 a1 4294967295))) / 4294967296))) / 4294967296))) + ((IntKind.u64.wrap ((Go.bits .and .u64 (IntKind.u64.wrap ((IntKind.u64.wrap ((a0 / 4294967296) * (Go.bits .and .u64 a1 4294967295))) + ((IntKind.u64.wrap ((Go.bits .and .u64 a0 4294967295) * (Go.bits .and .u64 a1 4294967295))) / 4294967296))) 4294967295) + (IntKind.u64.wrap ((Go.bits .and .u64 a0 4294967295) * (a1 / 4294967296))))) / 4294967296)), IntKind.u64.wrap (a0 * a1))) = some (r1, r2) := h
  clear h
  simp only [Option.some.injEq, Prod.mk.injEq] at H
  obtain ⟨rfl, rfl⟩ := H
  go_enter Try.func92, Try.ntmps92
  go_wp2
  go_ret2
  exact ⟨by (rfl), by repeat (exact Drawn0.refl _)⟩

/-! ### root_below: function 93 -/
def root_below.f (a0 : Int) (a1 : Int) (a2 : Int) (a3 : Int) : Option (Bool) := if a0 = a2 then (some (decide (a1 ≤ a3))) else (some (decide (a0 < a2)))
set_option maxHeartbeats 8000000 in
set_option maxRecDepth 100000 in
theorem root_below.calls (a0 : Int) (a1 : Int) (a2 : Int) (a3 : Int) (r : Bool) (w : World) (h : root_below.f a0 a1 a2 a3 = some r) :
    Calls Try.prog 93 #[.int .u64 a0, .int .u64 a1, .int .u64 a2, .int .u64 a3] w fun e w' => e = .returned (.bool r) ∧ Drawn0 w w' := by
  have H : (if a0 = a2 then (some (decide (a1 ≤ a3))) else (some (decide (a0 < a2)))) = some r := h
  clear h
  by_cases c5 : a0 = a2
  rotate_left
  · rw [if_neg c5] at H
    have c5b0 : (a0 == a2) = false := beq_eq_false_iff_ne.mpr c5
    have c5b1 : (a0 != a2) = true := bne_iff_ne.mpr c5
    obtain rfl := Option.some.inj H
    go_enter Try.func93, Try.ntmps93
    go_wp2
    go_ret
    exact ⟨by (rfl), by repeat (exact Drawn0.refl _)⟩


  rw [if_pos c5] at H
  have c5b0 : (a0 == a2) = true := beq_iff_eq.mpr c5
  have c5b1 : (a0 != a2) = false := bne_eq_false_iff_eq.mpr c5
  clear c5
  obtain rfl := Option.some.inj H
  go_enter Try.func93, Try.ntmps93
  go_wp2
  go_ret
  exact ⟨by (rfl), by repeat (exact Drawn0.refl _)⟩/-! ### entry_length: function 57 (given) -/
/-- a number's four bytes -/
def entry_length.bytes (n : Int) : List Int := [n / 16777216, n / 65536, n / 256 % 256, n % 256]
set_option maxHeartbeats 4000000 in
theorem entry_length.calls (n : Nat) (hn : n < 100000) (w : World) :
    Calls Try.prog 57 #[.int .i64 (n : Int)] w fun e w' => e = .returned (.agg (nums .u8 (entry_length.bytes n)).toArray) ∧ Below w.heap.size w w' := by
  go_enter Try.func57, Try.ntmps57
  go_wp2
  refine bodyPost_ret (v := .agg (nums .u8 (entry_length.bytes n)).toArray) (results_cell_row rfl _ _ w.heap.size 89 _ (0, 0) _ rfl (blk_new _ _) Try.underlying89 rfl (by kernel_rfl)) rfl ⟨rfl, below_alloc (Below.refl _ _) _⟩

/-! ### root_Primes: function 80 (given) -/
/-- is k a prime, by the primes below it -/
def root_Primes.tst (k : Int) : List Int → Option Bool
  | [] => some true
  | q :: r => if wrap64 (q * q) > k then some true else if q = 0 then none else if Int.tmod k q = 0 then some false else root_Primes.tst k r
def root_Primes.l0 : Nat → Int → List Int → Int → Option (List Int)
  | 0, _, _, _ => none
  | f + 1, n, out, k => if (out.length : Int) < n then (root_Primes.tst k out).bind fun b => (if b = true then (if out.length < 1000 then root_Primes.l0 f n (out ++ [k]) (wrap64 (k + 1)) else none) else root_Primes.l0 f n out (wrap64 (k + 1))) else some out
def root_Primes.f (a0 : Int) : Option (List Int) := root_Primes.l0 1000 (mn (mx a0 0) 100) [] 2
theorem root_Primes.drop_at (l : List Int) (j : Nat) (h : j < l.length) : l.drop j = rd l j :: l.drop (j + 1) := by
  rw [List.drop_eq_getElem_cons h]
  unfold rd
  rw [Int.toNat_natCast, List.getD_eq_getElem?_getD, List.getElem?_eq_getElem h]; rfl
set_option maxHeartbeats 4000000 in
set_option maxRecDepth 100000 in
theorem root_Primes.calls (a0 : Int) (r : List Int) (w : World) (h : root_Primes.f a0 = some r) :
    Calls Try.prog 80 #[.int .i64 a0] w fun e w' => ∃ v0_ : Value, e = .returned (v0_) ∧ Kd.R (Kd.int .i64) 3 w' w.heap.size (fun _ => True) v0_ r ∧ Below w.heap.size w w' := by
  obtain ⟨m, hm⟩ : ∃ m, mx a0 0 = m := ⟨_, rfl⟩
  obtain ⟨n, hn⟩ : ∃ n, mn m 100 = n := ⟨_, rfl⟩
  have H' : Aside0 (root_Primes.l0 1000 n [] 2 = some r) := ⟨by rw [← hn, ← hm]; exact h⟩
  clear h
  have hm_ : (if a0 < 0 then 0 else a0) = m := hm
  have hn_ : (if 100 < m then 100 else m) = n := hn
  clear hm hn
  go_enter Try.func80, Try.ntmps80
  go_wp2
  clear hm_ hn_
  go_loopg [3, 4] 1000 (fun kq v3 v4 w' => ∃ (x3 : List Int) (x4 : Int), v4 = .int .i64 x4 ∧ x3.length ≤ 1000 ∧ Aside0 (root_Primes.l0 kq n x3 x4 = some r) ∧ Aside0 (Kd.R (Kd.int .i64) 3 w' w.heap.size (fun _ => True) v3 x3) ∧ Aside0 (Below w.heap.size w w'))
  case atStart => exact ⟨[], 2, rfl, by simp, H', ⟨by (exact Kd.R_nil _ _ _ _ _)⟩, ⟨Below.refl _ _⟩⟩
  case round =>
    clear H'
    obtain ⟨x3, x4, rfl, hlen, HA, HO, HB⟩ := hrel
    cases gk with
    | zero => exact absurd HA.out (by simp [root_Primes.l0])
    | succ kq =>
      have H := HA.out
      clear HA
      simp only [root_Primes.l0] at H
      obtain ⟨A3, c3, rfl, hle, hC⟩ := Kd.R_reads HO.out
      have HC := Aside0.mk hC
      have HL := Aside0.mk hle
      clear hC hle
      by_cases c1 : (x3.length : Int) < n
      · rw [if_pos c1] at H
        have c1b : decide ((x3.length : Int) < n) = true := decide_eq_true c1
        clear c1
        obtain ⟨b, hb, H⟩ := Option.bind_eq_some_iff.mp H
        have HT := Aside0.mk hb
        have HN := Aside0.mk H
        clear hb H
        go_wp2
        obtain ⟨wo, rfl⟩ : ∃ wo : World, wo = wr := ⟨_, rfl⟩
        go_loopg [5, 19] (x3.length + 1) (fun jq v5 v19 w' => ∃ (j : Nat), v5 = .bool true ∧ v19 = .int .i64 (j : Int) ∧ j + jq = x3.length + 1 ∧ j ≤ x3.length ∧ Aside0 (root_Primes.tst x4 (x3.drop j) = some b) ∧ Drawn0 wo w')
        case atStart => exact ⟨0, rfl, by go_num, by omega, by omega, ⟨by simpa using HT.out⟩, by repeat (exact Drawn0.refl _)⟩
        case round =>
          obtain ⟨j, rfl, rfl, hj, hjl, HJ, ⟨m1, rfl⟩⟩ := hrel
          have HB1 : Aside0 (Below w.heap.size w (wo.drewN m1)) := ⟨pw_below_drewN HB.out _⟩
          have HO1 : Aside0 (Kd.R (Kd.int .i64) 3 (wo.drewN m1) w.heap.size (fun _ => True) (Value.slice A3 x3.length c3) x3) := ⟨by (with_reducible repeat (apply Kd.R_drewN)); exact HO.out⟩
          by_cases hjn : j < x3.length
          · have hjb : decide (j < x3.length) = true := decide_eq_true hjn
            have hji : decide ((j : Int) < (x3.length : Int)) = true := decide_eq_true (by omega)
            obtain ⟨ad, eA, hcell⟩ := Kd.at_int HC.out (j : Int) (by omega) (by omega)
            subst eA
            rw [Int.toNat_natCast] at hcell
            have HT1 := HJ.out
            rw [root_Primes.drop_at x3 j hjn] at HT1
            generalize hq : rd x3 (j : Int) = q at hcell HT1
            simp only [root_Primes.tst] at HT1
            clear hq
            by_cases d1 : wrap64 (q * q) > x4
            · rw [if_pos d1] at HT1
              have d1b : decide (x4 < wrap64 (q * q)) = true := decide_eq_true d1
              clear d1
              obtain rfl := Option.some.inj HT1
              have H := HN.out
              rw [if_pos rfl] at H
              by_cases e1 : x3.length < 1000
              · rw [if_pos e1] at H
                have HE := Aside0.mk e1
                have H2 := Aside0.mk H
                clear H e1
                go_wp2_with ((with_reducible refine gate_builtin (b := .append) (xs := #[.tmp 34, .tmp 36]) rfl ?_); at_builtin; refine Kd.R_append (Kd.int .i64) (w0 := w) w.heap.size rfl (.tmp 34) (.tmp 36) 116 3 (.int .i64 0) 8 rfl Try.underlying116 info3 rfl (by decide) (by omega) _ x3 x4 [.int .i64 x4] (fun _ => True) (fun _ => False) rfl rfl ?aP (fun _ hk => hk.elim) ?aF ?aO ?aB ?aS ?aL ?_; (case aP => exact rfl); (case aB => exact (by repeat (exact HB1.out))); (case aF => exact (fun _ _ => trivial)); (case aO => exact (by (with_reducible repeat (apply Kd.R_drewN)); exact HO1.out)); (case aS => exact (below_size (by repeat (exact HB1.out)))); (case aL => have := HE.out; omega); intro vn wn ho hb hg hat; have HOn := Aside0.mk ho; have HBn := Aside0.mk hb; clear ho hb hg hat)
                go_roundg kq
                case measure => omega
                case rel => exact ⟨_, _, rfl, by have := HE.out; simp; omega, H2, ⟨HOn.out⟩, ⟨HBn.out⟩⟩
              · rw [if_neg e1] at H; exact absurd H (by simp)
            · rw [if_neg d1] at HT1
              have d1b : decide (x4 < wrap64 (q * q)) = false := decide_eq_false d1
              clear d1
              by_cases d2 : q = 0
              · rw [if_pos d2] at HT1; exact absurd HT1 (by simp)
              · rw [if_neg d2] at HT1
                have d2b : (q == 0) = false := beq_eq_false_iff_ne.mpr d2
                have d2c : (q != 0) = true := bne_iff_ne.mpr d2
                by_cases d3 : Int.tmod x4 q = 0
                · rw [if_pos d3] at HT1
                  have d3b : (Int.tmod x4 q == 0) = true := beq_iff_eq.mpr d3
                  clear d3
                  obtain rfl := Option.some.inj HT1
                  have H := HN.out
                  rw [if_neg (by decide)] at H
                  have H2 := Aside0.mk H
                  clear H
                  go_wp2
                  go_roundg kq
                  case measure => omega
                  case rel => exact ⟨_, _, rfl, hlen, H2, ⟨HO1.out⟩, ⟨HB1.out⟩⟩
                · rw [if_neg d3] at HT1
                  have d3b : (Int.tmod x4 q == 0) = false := beq_eq_false_iff_ne.mpr d3
                  clear d3
                  have HJ2 := Aside0.mk HT1
                  clear HT1
                  obtain ⟨jq, rfl⟩ : ∃ jq, gk = jq + 1 := ⟨gk - 1, by omega⟩
                  have hw1 : wrap64 ((j : Int) + 1) = ((j + 1 : Nat) : Int) := by unfold wrap64; omega
                  go_wp2
                  go_roundg jq
                  case measure => omega
                  case rel => exact ⟨j + 1, rfl, by go_num, by omega, by omega, HJ2, by repeat (first | exact Drawn0.refl _ | apply Drawn0.step)⟩
          · obtain rfl : j = x3.length := by omega
            have hjb : decide (x3.length < x3.length) = false := by simp
            have hji : decide ((x3.length : Int) < (x3.length : Int)) = false := by simp
            have HT1 := HJ.out
            rw [List.drop_eq_nil_of_le (Nat.le_refl _)] at HT1
            simp only [root_Primes.tst] at HT1
            obtain rfl := Option.some.inj HT1
            have H := HN.out
            rw [if_pos rfl] at H
            by_cases e1 : x3.length < 1000
            · rw [if_pos e1] at H
              have HE := Aside0.mk e1
              have H2 := Aside0.mk H
              clear H e1
              go_wp2_with ((with_reducible refine gate_builtin (b := .append) (xs := #[.tmp 34, .tmp 36]) rfl ?_); at_builtin; refine Kd.R_append (Kd.int .i64) (w0 := w) w.heap.size rfl (.tmp 34) (.tmp 36) 116 3 (.int .i64 0) 8 rfl Try.underlying116 info3 rfl (by decide) (by omega) _ x3 x4 [.int .i64 x4] (fun _ => True) (fun _ => False) rfl rfl ?aP (fun _ hk => hk.elim) ?aF ?aO ?aB ?aS ?aL ?_; (case aP => exact rfl); (case aB => exact (by repeat (exact HB1.out))); (case aF => exact (fun _ _ => trivial)); (case aO => exact (by (with_reducible repeat (apply Kd.R_drewN)); exact HO1.out)); (case aS => exact (below_size (by repeat (exact HB1.out)))); (case aL => have := HE.out; omega); intro vn wn ho hb hg hat; have HOn := Aside0.mk ho; have HBn := Aside0.mk hb; clear ho hb hg hat)
              go_roundg kq
              case measure => omega
              case rel => exact ⟨_, _, rfl, by have := HE.out; simp; omega, H2, ⟨HOn.out⟩, ⟨HBn.out⟩⟩
            · rw [if_neg e1] at H; exact absurd H (by simp)
      · rw [if_neg c1] at H
        have c1b : decide ((x3.length : Int) < n) = false := decide_eq_false c1
        clear c1
        obtain rfl := Option.some.inj H
        go_wp2
        go_ret
        exact ⟨_, rfl, HO.out, HB.out⟩

/-! ### root_clip: function 89 -/
def root_clip.f (a0 : Int) : Option (Int) := some (mn (mx a0 0) 65536)
set_option maxHeartbeats 8000000 in
set_option maxRecDepth 100000 in
theorem root_clip.calls (a0 : Int) (r : Int) (w : World) (h : root_clip.f a0 = some r) :
    Calls Try.prog 89 #[.int .i64 a0] w fun e w' => e = .returned (.int .u64 r) ∧ Below w.heap.size w w' := by
  have HB := Aside0.mk (Below.refl w.heap.size w)
  have H : (some (mn (mx a0 0) 65536)) = some r := h
  clear h
  obtain ⟨ji2, hji2⟩ : ∃ j_ : Int, (mx a0 0) = j_ := ⟨_, rfl⟩
  replace H : (some (mn (ji2) 65536)) = some r := by (rw [hji2] at H; exact H)
  (try (have hji2l : 0 ≤ ji2 := by (rw [← hji2]; unfold mx; (repeat' split) <;> omega)))
  (try (have hji2m : 0 ≤ ji2 := by omega))
  have hji2_ : (if a0 < 0 then 0 else a0) = ji2 := hji2
  obtain ⟨ji3, hji3⟩ : ∃ j_ : Int, (mn (ji2) 65536) = j_ := ⟨_, rfl⟩
  replace H : (some ji3) = some r := by (rw [hji3] at H; exact H)
  have hji3_ : (if 65536 < (ji2) then 65536 else (ji2)) = ji3 := hji3
  obtain rfl := Option.some.inj H
  go_enter Try.func89, Try.ntmps89
  go_wp2
  go_ret
  exact ⟨by (rfl), HB.out⟩

-- NOT PRINTED: function 90 (root_search)

/-! ### root_Cube: function 81 (given) -/
/-- what is kept below: the closure of Cube -/
def root_Cube1.f (n x : Int) : Option Bool := (bits_Mul64.f x x).bind fun t => (bits_Mul64.f t.2 x).bind fun u => root_below.f (IntKind.u64.wrap (u.1 + IntKind.u64.wrap (t.1 * x))) u.2 n 0
theorem root_Cube1.calls (n x : Int) (r : Bool) (a : Addr) (w : World) (hc : w.cell? a = some (.int .u64 n)) (h : root_Cube1.f n x = some r) :
    Calls Try.prog 91 #[.int .u64 x, .pointer (some a)] w fun e w' => e = .returned (.bool r) ∧ Drawn0 w w' := by
  obtain ⟨t, ht0, h1⟩ := Option.bind_eq_some_iff.mp h
  obtain ⟨u, hu0, hb0⟩ := Option.bind_eq_some_iff.mp h1
  have ht := Aside0.mk ht0
  have hu := Aside0.mk hu0
  have hb := Aside0.mk hb0
  clear h ht0 hb0 h1 hu0
  go_enter Try.func91, Try.ntmps91
  go_wp2_with (first | (go_at_call 92; first | ((with_reducible refine (bits_Mul64.calls x x t.1 t.2 _ ht.out).mono ?_); rintro e w' ⟨rfl, ⟨nd, rfl⟩⟩) | ((with_reducible refine (bits_Mul64.calls t.2 x u.1 u.2 _ hu.out).mono ?_); rintro e w' ⟨rfl, ⟨nd, rfl⟩⟩)) | (go_at_call 93; (with_reducible refine (root_below.calls _ _ _ _ _ _ hb.out).mono ?_); rintro e w' ⟨rfl, ⟨nd, rfl⟩⟩))
  go_ret
  exact ⟨by (rfl), by repeat (first | exact Drawn0.refl _ | apply Drawn0.step)⟩
/-- one bit behind the other, from the bit n - 1 down -/
def root_Cube.l0 (g : Int → Bool) : Nat → Int → Int
  | 0, x => x
  | n + 1, x => root_Cube.l0 g n (if g (Go.bits .or .u64 x (IntKind.u64.wrap (2 ^ n))) = true then Go.bits .or .u64 x (IntKind.u64.wrap (2 ^ n)) else x)
set_option maxHeartbeats 1000000 in
theorem root_Cube.search (g : Int → Bool) (n : Int) (hg : ∀ x, root_Cube1.f n x = some (g x)) (p : Nat) (hp : p ≤ 60) (a : Addr) (w : World) (hc : w.cell? a = some (.int .u64 n)) :
    Calls Try.prog 90 #[.int .i64 p, .func (.func 91) #[] #[.pointer (some a)]] w fun e w' => e = .returned (.int .u64 (root_Cube.l0 g p 0)) ∧ Drawn0 w w' := by
  have HG := Aside0.mk hg
  clear hg
  go_enter Try.func90, Try.ntmps90
  go_wp2
  go_loopg [5, 6] p (fun q v5 v6 w' => ∃ (x : Int), v5 = .int .u64 x ∧ v6 = .int .i64 ((q : Int) - 1) ∧ q ≤ p ∧ Aside0 (root_Cube.l0 g p 0 = root_Cube.l0 g q x) ∧ Drawn0 w w')
  case atStart => exact ⟨0, rfl, rfl, Nat.le_refl _, ⟨rfl⟩, by repeat (exact Drawn0.refl _)⟩
  case round =>
    obtain ⟨x, rfl, rfl, hq, HA, ⟨m1, rfl⟩⟩ := hrel
    have hcell : (w.drewN m1).cell? a = some (.int .u64 n) := hc
    cases gk with
    | zero =>
      have hd : decide (0 ≤ ((0 : Nat) : Int) - 1) = false := by decide
      have hd2 : decide (1 ≤ ((0 : Nat) : Int)) = false := by decide
      go_wp2
      go_ret
      exact ⟨by rw [HA.out]; rfl, by repeat (first | exact Drawn0.refl _ | apply Drawn0.step)⟩
    | succ q =>
      have e1 : (((q + 1 : Nat) : Int) - 1) = (q : Int) := by omega
      rw [e1]
      clear e1
      have h0 : 0 ≤ (q : Int) := by omega
      have hd : decide (0 ≤ (q : Int)) = true := by simp
      obtain ⟨b, hb⟩ : ∃ b, g (Go.bits .or .u64 x (IntKind.u64.wrap (2 ^ q))) = b := ⟨_, rfl⟩
      have HB := Aside0.mk hb
      have HC : Aside0 (root_Cube1.f n (Go.bits .or .u64 x (IntKind.u64.wrap (2 ^ q))) = some b) := ⟨by rw [HG.out, hb]⟩
      clear hb
      cases b with
      | true =>
        have HS : Aside0 (root_Cube.l0 g p 0 = root_Cube.l0 g q (Go.bits .or .u64 x (IntKind.u64.wrap (2 ^ q)))) := ⟨by rw [HA.out, root_Cube.l0, if_pos HB.out]⟩
        go_wp2_with (go_at_call 91; (with_reducible refine (root_Cube1.calls n _ true a _ hcell HC.out).mono ?_); rintro e w' ⟨rfl, ⟨nd, rfl⟩⟩)
        go_roundg q
        case rel => exact ⟨_, rfl, by go_num, by omega, HS, by repeat (first | exact Drawn0.refl _ | apply Drawn0.step)⟩
        case measure => omega
      | false =>
        have HS : Aside0 (root_Cube.l0 g p 0 = root_Cube.l0 g q x) := ⟨by rw [HA.out, root_Cube.l0, HB.out]; rfl⟩
        go_wp2_with (go_at_call 91; (with_reducible refine (root_Cube1.calls n _ false a _ hcell HC.out).mono ?_); rintro e w' ⟨rfl, ⟨nd, rfl⟩⟩)
        go_roundg q
        case rel => exact ⟨_, rfl, by go_num, by omega, HS, by repeat (first | exact Drawn0.refl _ | apply Drawn0.step)⟩
        case measure => omega
/-- the clipped number, as it is kept -/
def root_Cube.n (a0 : Int) : Int := IntKind.u64.wrap (mn (mx a0 0) 65536 * 4294967296)
def root_Cube.f (a0 : Int) : Option Int := some (root_Cube.l0 (fun x => (root_Cube1.f (root_Cube.n a0) x).getD false) 38 0)
theorem root_Cube1.some (n x : Int) : root_Cube1.f n x = some ((root_Cube1.f n x).getD false) := by
  simp only [root_Cube1.f, bits_Mul64.f, Option.bind_some, root_below.f]
  split <;> rfl
set_option maxHeartbeats 1000000 in
theorem root_Cube.calls (a0 : Int) (r : Int) (w : World) (h : root_Cube.f a0 = some r) :
    Calls Try.prog 81 #[.int .i64 a0] w fun e w' => e = .returned (.int .u64 r) ∧ Below w.heap.size w w' := by
  have hs : ∀ (W : World) (a : Addr), W.cell? a = some (.int .u64 (root_Cube.n a0)) → Calls Try.prog 90 #[.int .i64 38, .func (.func 91) #[] #[.pointer (some a)]] W fun e w' => e = .returned (.int .u64 r) ∧ Drawn0 W w' := by
    intro W a hc
    obtain rfl := Option.some.inj h
    exact root_Cube.search _ (root_Cube.n a0) (root_Cube1.some _) 38 (by decide) a W hc
  have HS := Aside0.mk hs
  clear hs h
  have hn : root_clip.f a0 = some (mn (mx a0 0) 65536) := rfl
  have HN := Aside0.mk hn
  clear hn
  have hmf : ∀ (fn : Fn) (first cap : Array Value) (w : World), (Instr.makeFunc fn first cap).run Try.prog w = .ok (.func fn first cap) w := fun _ _ _ _ => rfl
  go_enter Try.func81, Try.ntmps81
  go_wp2_with (first | (go_at_call 89; (with_reducible refine (root_clip.calls a0 _ _ HN.out).mono ?_); rintro e w1 ⟨rfl, hb1⟩; have HB1 := Aside0.mk hb1; clear hb1) | (go_at_call 90; (with_reducible refine (HS.out _ _ (by (simp [root_Cube.n]; done))).mono ?_); rintro e w' ⟨rfl, ⟨nd, rfl⟩⟩))
  go_ret
  exact ⟨rfl, by repeat (first | exact HB1.out | apply pw_below_drewN | apply below_alloc)⟩

/-! ### sha_rounds: function 72 (given) -/
/-- the numbers of primes' roots, 32 bits of each -/
def sha_rounds.go : List Int → Option (List Int)
  | [] => some []
  | p :: r => (root_Cube.f p).bind fun t => (sha_rounds.go r).bind fun l => some (t % 4294967296 :: l)
def sha_rounds.f : Option (List Int) := (root_Primes.f 64).bind fun ps => if ps.length = 64 then sha_rounds.go ps else none
theorem sha_rounds.drop_at (l : List Int) (j : Nat) (h : j < l.length) : l.drop j = rd l j :: l.drop (j + 1) := by
  rw [List.drop_eq_getElem_cons h]
  unfold rd
  rw [Int.toNat_natCast, List.getD_eq_getElem?_getD, List.getElem?_eq_getElem h]; rfl
theorem sha_rounds.set_at (d : List Int) (x : Int) (n : Nat) : (d ++ List.replicate (n + 1) 0).set d.length x = (d ++ [x]) ++ List.replicate n 0 := by
  rw [List.set_append_right _ _ (Nat.le_refl _), Nat.sub_self, List.replicate_succ, List.set_cons_zero]; simp
theorem sha_rounds.arr_set (k : IntKind) (l : List Int) (j : Nat) (x : Int) : (nums k l).toArray.setIfInBounds j (.int k x) = (nums k (l.set j x)).toArray := by
  apply Array.toList_inj.1
  simp [nums, List.map_set]
theorem sha_rounds.arr_get (k : IntKind) (l : List Int) (j : Nat) (h : j < l.length) : (nums k l).toArray[j]? = some (.int k l[j]) := by
  simp [nums, List.getElem?_eq_getElem h]
/-- block g holds these numbers of 32 bits -/
structure sha_rounds.Blk (W : World) (g : Nat) (l : List Int) : Prop where
  mk ::
  out : W.heap[g]? = some (.cells (nums .u32 l).toArray 105 (0, 0))
theorem sha_rounds.size (l : List Int) (h : l.length = 64) : (Try.prog.info? 105).map (·.size) = some (nums .u32 l).toArray.size := by
  rw [show (Try.prog.info? 105).map (·.size) = some 64 from by kernel_rfl]
  simp [nums, h]
theorem sha_rounds.ones (k : IntKind) (l : List Int) : (nums k l).toArray.all (·.oneCell') = true := by
  rw [Array.all_eq_true_iff_forall_mem]
  intro v hv
  simp [nums] at hv
  obtain ⟨a, _, rfl⟩ := hv
  rfl
theorem sha_rounds.below_row {w W : World} {g : Nat} (h : Below w.heap.size w W) (hg : w.heap.size ≤ g) (cs : Array Value) : Below w.heap.size w (W.setRow g cs) :=
  h.trans ⟨rfl, rfl, rfl, by simp, fun k hk => setRow_other _ _ _ _ (by omega)⟩
set_option maxHeartbeats 4000000 in
set_option maxRecDepth 100000 in
theorem sha_rounds.calls (r : List Int) (w : World) (h : sha_rounds.f = some r) :
    Calls Try.prog 72 #[] w fun e w' => e = .returned (.agg (nums .u32 r).toArray) ∧ Below w.heap.size w w' := by
  obtain ⟨ps, hps0, hgo0⟩ := Option.bind_eq_some_iff.mp h
  have hln : ps.length = 64 := by
    by_cases hl : ps.length = 64
    · exact hl
    · rw [if_neg hl] at hgo0; exact absurd hgo0 (by simp)
  rw [if_pos hln] at hgo0
  have HPS := Aside0.mk hps0
  have HGO := Aside0.mk hgo0
  have HLN := Aside0.mk hln
  clear h hps0 hgo0 hln
  have hnew : ∀ W : World, W.heap.size = w.heap.size → sha_rounds.Blk ((W.alloc (.cells (nums .u32 (List.replicate 64 0)).toArray 105)).alloc (.cells (nums .u32 (List.replicate 64 0)).toArray 105)) w.heap.size (List.replicate 64 0) ∧ sha_rounds.Blk ((W.alloc (.cells (nums .u32 (List.replicate 64 0)).toArray 105)).alloc (.cells (nums .u32 (List.replicate 64 0)).toArray 105)) (w.heap.size + 1) (List.replicate 64 0) := by
    intro W hW
    rw [← hW]
    exact ⟨⟨blk_alloc (blk_new _ _) _⟩, ⟨by have := blk_new (W.alloc (.cells (nums .u32 (List.replicate 64 0)).toArray 105)) (.cells (nums .u32 (List.replicate 64 0)).toArray 105); simpa using this⟩⟩
  have HNEW := Aside0.mk hnew
  clear hnew
  go_enter Try.func72, Try.ntmps72
  go_wp2_with (go_at_call 80; (with_reducible refine (root_Primes.calls _ ps _ HPS.out).mono ?_); rintro e w1 ⟨v4, rfl, ho, hb⟩; (obtain ⟨A4, c4, rfl, hle, hC⟩ := Kd.R_reads ho); have HO0 := Aside0.mk ho; have HB1 := Aside0.mk hb; clear ho hb hle hC)
  have HZ0 : Aside0 (sha_rounds.Blk w1 w.heap.size (List.replicate 64 0)) := ⟨⟨blk_below (HNEW.out w rfl).1.out HB1.out⟩⟩
  have HZ1 : Aside0 (sha_rounds.Blk w1 (w.heap.size + 1) (List.replicate 64 0)) := ⟨⟨blk_below (HNEW.out w rfl).2.out HB1.out⟩⟩
  have HB : Aside0 (Below w.heap.size w w1) := ⟨below_step (below_alloc (below_alloc (Below.refl _ _) _) _) HB1.out⟩
  have HO : Aside0 (Kd.R (Kd.int .i64) 3 w1 w.heap.size (fun _ => True) (Value.slice A4 ps.length c4) ps) := ⟨Kd.R_lower HO0.out (by simp; omega)⟩
  clear HB1 HO0 HNEW
  go_loopg [6] 64 (fun q v6 w' => ∃ (j : Nat) (d : List Int), v6 = .int .i64 (j : Int) ∧ j + q = 64 ∧ d.length = j ∧ Aside0 (∃ l, sha_rounds.go (ps.drop j) = some l ∧ d ++ l = r) ∧ Aside0 (sha_rounds.Blk w' w.heap.size (List.replicate 64 0)) ∧ Aside0 (sha_rounds.Blk w' (w.heap.size + 1) (d ++ List.replicate q 0)) ∧ Aside0 (Below w.heap.size w w') ∧ Aside0 (Kd.R (Kd.int .i64) 3 w' w.heap.size (fun _ => True) (Value.slice A4 ps.length c4) ps))
  case atStart => exact ⟨0, [], by go_num, rfl, rfl, ⟨⟨r, HGO.out, rfl⟩⟩, HZ0, HZ1, HB, HO⟩
  case round =>
    clear HZ0 HZ1 HB HO
    obtain ⟨j, d, rfl, hjq, hdl, HL, HZ0, HZ1, HB, HO⟩ := hrel
    have HDL := Aside0.mk hdl
    clear hdl
    cases gk with
    | zero =>
      obtain rfl : j = 64 := by omega
      have hb0 : decide (((64 : Nat) : Int) < (ps.length : Int)) = false := decide_eq_false (by have := HLN.out; omega)
      have hb1 : decide (64 < ps.length) = false := decide_eq_false (by have := HLN.out; omega)
      have hb2 : decide ((64 : Int) < (ps.length : Int)) = false := decide_eq_false (by have := HLN.out; omega)
      have hr : d = r := by
        obtain ⟨l, hl, hr⟩ := HL.out
        rw [List.drop_eq_nil_of_le (by have := HLN.out; omega)] at hl
        simp only [sha_rounds.go] at hl
        obtain rfl := Option.some.inj hl
        simpa using hr
      have HD : Aside0 (d.length = 64) := HDL
      subst hr
      have HZ2 : Aside0 (sha_rounds.Blk wr (w.heap.size + 1) d) := ⟨by simpa using HZ1.out⟩
      clear HZ1 HL
      go_wp2_with (first | (refine wpList_load_row rfl 105 (.tmp 1) rfl (w.heap.size + 1) rfl 105 _ (0, 0) _ HZ2.out.out Try.underlying105 rfl (sha_rounds.size d HD.out) ?_) | (refine wpList_store_row rfl 105 (.tmp 0) (.tmp 17) rfl w.heap.size _ rfl rfl 105 _ HZ0.out.out (sha_rounds.size d HD.out) (by have := HD.out; simp [nums, this]) (sha_rounds.ones _ _) ?_))
      refine bodyPost_ret (v := .agg (nums .u32 d).toArray) (results_cell_row rfl _ _ w.heap.size 105 _ (0, 0) _ rfl (setRow_heap _ _ _ _ _ _ HZ0.out.out) Try.underlying105 rfl (sha_rounds.size d HD.out)) rfl ⟨rfl, sha_rounds.below_row HB.out (Nat.le_refl _) _⟩
    | succ q =>
      have hj : j < ps.length := by have := HLN.out; omega
      have hjn : j < 64 := by omega
      have hb0 : decide ((j : Int) < (ps.length : Int)) = true := decide_eq_true (by omega)
      have hb1 : decide (j < ps.length) = true := decide_eq_true hj
      have hb2 : decide (j < 64) = true := decide_eq_true hjn
      have hb3 : decide ((j : Int) < 64) = true := decide_eq_true (by omega)
      obtain ⟨l, hl, hr⟩ := HL.out
      rw [sha_rounds.drop_at ps j hj] at hl
      obtain ⟨t, ht, hl⟩ := Option.bind_eq_some_iff.mp hl
      obtain ⟨l', hl', hl⟩ := Option.bind_eq_some_iff.mp hl
      obtain rfl := Option.some.inj hl
      have HT := Aside0.mk ht
      have HL' := Aside0.mk hl'
      have HR := Aside0.mk hr
      clear HL ht hl' hr hl
      obtain ⟨A4_, c4_, e4, hle, hC⟩ := Kd.R_reads HO.out
      obtain ⟨rfl, rfl⟩ : A4 = A4_ ∧ c4 = c4_ := by injection e4 with e1 e2 e3; exact ⟨e1, e3⟩
      clear e4
      obtain ⟨ad, eA, hcell⟩ := Kd.at_int hC (j : Int) (by omega) (by omega)
      subst eA
      rw [Int.toNat_natCast] at hcell
      clear hC hle
      go_wp2_with (go_at_call 81; (with_reducible refine (root_Cube.calls _ t _ HT.out).mono ?_); rintro e w2 ⟨rfl, hb2⟩; (have HZ0n : Aside0 (sha_rounds.Blk w2 w.heap.size (List.replicate 64 0)) := ⟨⟨blk_below HZ0.out.out hb2⟩⟩); (have HZ1n : Aside0 (sha_rounds.Blk w2 (w.heap.size + 1) (d ++ List.replicate (q + 1) 0)) := ⟨⟨blk_below HZ1.out.out hb2⟩⟩); (have HBn : Aside0 (Below w.heap.size w w2) := ⟨below_step HB.out hb2⟩); (have HOn : Aside0 (Kd.R (Kd.int .i64) 3 w2 w.heap.size (fun _ => True) (Value.slice (some ad) ps.length c4) ps) := ⟨Kd.R_below HO.out hb2⟩); (have hcl : w2.cell? ⟨w.heap.size + 1, j, none⟩ = some (.int .u32 (d ++ List.replicate (q + 1) 0)[j]!) := by rw [blk_cell HZ1n.out.out, sha_rounds.arr_get _ _ _ (by have := HDL.out; simp; omega)]; congr 2; rw [List.getElem!_eq_getElem?_getD, List.getElem?_eq_getElem]; rfl); (have hfz : w2.frozen? ⟨w.heap.size + 1, j, none⟩ = false := blk_frozen HZ1n.out.out _); clear hb2)
      go_roundg q
      case measure => omega
      case rel =>
        refine ⟨j + 1, d ++ [t % 4294967296], by go_num, by omega, by have := HDL.out; simp [this], ⟨⟨l', HL'.out, by rw [← HR.out]; simp⟩⟩, ⟨⟨blk_far HZ0n.out.out (by simp) _⟩⟩, ⟨⟨?_⟩⟩, ⟨HBn.out.setCell (by simp) _⟩, ⟨Kd.R_set HOn.out HZ1n.out.out (by decide) _ _⟩⟩
        have hs := blk_set HZ1n.out.out j (.int .u32 (t % 4294967296))
        rw [sha_rounds.arr_set] at hs
        have e := sha_rounds.set_at d (t % 4294967296) q
        rw [HDL.out] at e
        rw [e] at hs
        exact hs

/-! ### root_Square: function 82 (given) -/
/-- what is kept below: the closure of Square -/
def root_Square1.f (n x : Int) : Option Bool := (bits_Mul64.f x x).bind fun t => root_below.f t.1 t.2 n 0
theorem root_Square1.calls (n x : Int) (r : Bool) (a : Addr) (w : World) (hc : w.cell? a = some (.int .u64 n)) (h : root_Square1.f n x = some r) :
    Calls Try.prog 94 #[.int .u64 x, .pointer (some a)] w fun e w' => e = .returned (.bool r) ∧ Drawn0 w w' := by
  obtain ⟨t, ht0, hb0⟩ := Option.bind_eq_some_iff.mp h
  have ht := Aside0.mk ht0
  have hb := Aside0.mk hb0
  clear h ht0 hb0
  go_enter Try.func94, Try.ntmps94
  go_wp2_with (first | (go_at_call 92; (with_reducible refine (bits_Mul64.calls _ _ t.1 t.2 _ ht.out).mono ?_); rintro e w' ⟨rfl, ⟨nd, rfl⟩⟩) | (go_at_call 93; (with_reducible refine (root_below.calls _ _ _ _ _ _ hb.out).mono ?_); rintro e w' ⟨rfl, ⟨nd, rfl⟩⟩))
  go_ret
  exact ⟨by (rfl), by repeat (first | exact Drawn0.refl _ | apply Drawn0.step)⟩
/-- one bit behind the other, from the bit n - 1 down -/
def root_Square.l0 (g : Int → Bool) : Nat → Int → Int
  | 0, x => x
  | n + 1, x => root_Square.l0 g n (if g (Go.bits .or .u64 x (IntKind.u64.wrap (2 ^ n))) = true then Go.bits .or .u64 x (IntKind.u64.wrap (2 ^ n)) else x)
set_option maxHeartbeats 1000000 in
theorem root_Square.search (g : Int → Bool) (n : Int) (hg : ∀ x, root_Square1.f n x = some (g x)) (p : Nat) (hp : p ≤ 60) (a : Addr) (w : World) (hc : w.cell? a = some (.int .u64 n)) :
    Calls Try.prog 90 #[.int .i64 p, .func (.func 94) #[] #[.pointer (some a)]] w fun e w' => e = .returned (.int .u64 (root_Square.l0 g p 0)) ∧ Drawn0 w w' := by
  have HG := Aside0.mk hg
  clear hg
  go_enter Try.func90, Try.ntmps90
  go_wp2
  go_loopg [5, 6] p (fun q v5 v6 w' => ∃ (x : Int), v5 = .int .u64 x ∧ v6 = .int .i64 ((q : Int) - 1) ∧ q ≤ p ∧ Aside0 (root_Square.l0 g p 0 = root_Square.l0 g q x) ∧ Drawn0 w w')
  case atStart => exact ⟨0, rfl, rfl, Nat.le_refl _, ⟨rfl⟩, by repeat (exact Drawn0.refl _)⟩
  case round =>
    obtain ⟨x, rfl, rfl, hq, HA, ⟨m1, rfl⟩⟩ := hrel
    have hcell : (w.drewN m1).cell? a = some (.int .u64 n) := hc
    cases gk with
    | zero =>
      have hd : decide (0 ≤ ((0 : Nat) : Int) - 1) = false := by decide
      have hd2 : decide (1 ≤ ((0 : Nat) : Int)) = false := by decide
      go_wp2
      go_ret
      exact ⟨by rw [HA.out]; rfl, by repeat (first | exact Drawn0.refl _ | apply Drawn0.step)⟩
    | succ q =>
      have e1 : (((q + 1 : Nat) : Int) - 1) = (q : Int) := by omega
      rw [e1]
      clear e1
      have h0 : 0 ≤ (q : Int) := by omega
      have hd : decide (0 ≤ (q : Int)) = true := by simp
      obtain ⟨b, hb⟩ : ∃ b, g (Go.bits .or .u64 x (IntKind.u64.wrap (2 ^ q))) = b := ⟨_, rfl⟩
      have HB := Aside0.mk hb
      have HC : Aside0 (root_Square1.f n (Go.bits .or .u64 x (IntKind.u64.wrap (2 ^ q))) = some b) := ⟨by rw [HG.out, hb]⟩
      clear hb
      cases b with
      | true =>
        have HS : Aside0 (root_Square.l0 g p 0 = root_Square.l0 g q (Go.bits .or .u64 x (IntKind.u64.wrap (2 ^ q)))) := ⟨by rw [HA.out, root_Square.l0, if_pos HB.out]⟩
        go_wp2_with (go_at_call 94; (with_reducible refine (root_Square1.calls n _ true a _ hcell HC.out).mono ?_); rintro e w' ⟨rfl, ⟨nd, rfl⟩⟩)
        go_roundg q
        case rel => exact ⟨_, rfl, by go_num, by omega, HS, by repeat (first | exact Drawn0.refl _ | apply Drawn0.step)⟩
        case measure => omega
      | false =>
        have HS : Aside0 (root_Square.l0 g p 0 = root_Square.l0 g q x) := ⟨by rw [HA.out, root_Square.l0, HB.out]; rfl⟩
        go_wp2_with (go_at_call 94; (with_reducible refine (root_Square1.calls n _ false a _ hcell HC.out).mono ?_); rintro e w' ⟨rfl, ⟨nd, rfl⟩⟩)
        go_roundg q
        case rel => exact ⟨_, rfl, by go_num, by omega, HS, by repeat (first | exact Drawn0.refl _ | apply Drawn0.step)⟩
        case measure => omega
/-- the clipped number, as it is kept -/
def root_Square.n (a0 : Int) : Int := mn (mx a0 0) 65536
def root_Square.f (a0 : Int) : Option Int := some (root_Square.l0 (fun x => (root_Square1.f (root_Square.n a0) x).getD false) 42 0)
theorem root_Square1.some (n x : Int) : root_Square1.f n x = some ((root_Square1.f n x).getD false) := by
  simp only [root_Square1.f, bits_Mul64.f, Option.bind_some, root_below.f]
  split <;> rfl
set_option maxHeartbeats 1000000 in
theorem root_Square.calls (a0 : Int) (r : Int) (w : World) (h : root_Square.f a0 = some r) :
    Calls Try.prog 82 #[.int .i64 a0] w fun e w' => e = .returned (.int .u64 r) ∧ Below w.heap.size w w' := by
  have hs : ∀ (W : World) (a : Addr), W.cell? a = some (.int .u64 (root_Square.n a0)) → Calls Try.prog 90 #[.int .i64 42, .func (.func 94) #[] #[.pointer (some a)]] W fun e w' => e = .returned (.int .u64 r) ∧ Drawn0 W w' := by
    intro W a hc
    obtain rfl := Option.some.inj h
    exact root_Square.search _ (root_Square.n a0) (root_Square1.some _) 42 (by decide) a W hc
  have HS := Aside0.mk hs
  clear hs h
  have hn : root_clip.f a0 = some (mn (mx a0 0) 65536) := rfl
  have HN := Aside0.mk hn
  clear hn
  have hmf : ∀ (fn : Fn) (first cap : Array Value) (w : World), (Instr.makeFunc fn first cap).run Try.prog w = .ok (.func fn first cap) w := fun _ _ _ _ => rfl
  go_enter Try.func82, Try.ntmps82
  go_wp2_with (first | (go_at_call 89; (with_reducible refine (root_clip.calls a0 _ _ HN.out).mono ?_); rintro e w1 ⟨rfl, hb1⟩; have HB1 := Aside0.mk hb1; clear hb1) | (go_at_call 90; (with_reducible refine (HS.out _ _ (by (simp [root_Square.n]; done))).mono ?_); rintro e w' ⟨rfl, ⟨nd, rfl⟩⟩))
  go_ret
  exact ⟨rfl, by repeat (first | exact HB1.out | apply pw_below_drewN | apply below_alloc)⟩

/-! ### sha_first: function 73 (given) -/
/-- the numbers of primes' roots, 32 bits of each -/
def sha_first.go : List Int → Option (List Int)
  | [] => some []
  | p :: r => (root_Square.f p).bind fun t => (sha_first.go r).bind fun l => some (t % 4294967296 :: l)
def sha_first.f : Option (List Int) := (root_Primes.f 8).bind fun ps => if ps.length = 8 then sha_first.go ps else none
theorem sha_first.drop_at (l : List Int) (j : Nat) (h : j < l.length) : l.drop j = rd l j :: l.drop (j + 1) := by
  rw [List.drop_eq_getElem_cons h]
  unfold rd
  rw [Int.toNat_natCast, List.getD_eq_getElem?_getD, List.getElem?_eq_getElem h]; rfl
theorem sha_first.set_at (d : List Int) (x : Int) (n : Nat) : (d ++ List.replicate (n + 1) 0).set d.length x = (d ++ [x]) ++ List.replicate n 0 := by
  rw [List.set_append_right _ _ (Nat.le_refl _), Nat.sub_self, List.replicate_succ, List.set_cons_zero]; simp
theorem sha_first.arr_set (k : IntKind) (l : List Int) (j : Nat) (x : Int) : (nums k l).toArray.setIfInBounds j (.int k x) = (nums k (l.set j x)).toArray := by
  apply Array.toList_inj.1
  simp [nums, List.map_set]
theorem sha_first.arr_get (k : IntKind) (l : List Int) (j : Nat) (h : j < l.length) : (nums k l).toArray[j]? = some (.int k l[j]) := by
  simp [nums, List.getElem?_eq_getElem h]
/-- block g holds these numbers of 32 bits -/
structure sha_first.Blk (W : World) (g : Nat) (l : List Int) : Prop where
  mk ::
  out : W.heap[g]? = some (.cells (nums .u32 l).toArray 108 (0, 0))
theorem sha_first.size (l : List Int) (h : l.length = 8) : (Try.prog.info? 108).map (·.size) = some (nums .u32 l).toArray.size := by
  rw [show (Try.prog.info? 108).map (·.size) = some 8 from by kernel_rfl]
  simp [nums, h]
theorem sha_first.ones (k : IntKind) (l : List Int) : (nums k l).toArray.all (·.oneCell') = true := by
  rw [Array.all_eq_true_iff_forall_mem]
  intro v hv
  simp [nums] at hv
  obtain ⟨a, _, rfl⟩ := hv
  rfl
theorem sha_first.below_row {w W : World} {g : Nat} (h : Below w.heap.size w W) (hg : w.heap.size ≤ g) (cs : Array Value) : Below w.heap.size w (W.setRow g cs) :=
  h.trans ⟨rfl, rfl, rfl, by simp, fun k hk => setRow_other _ _ _ _ (by omega)⟩
theorem sha_first.len : ∀ (ps l : List Int), sha_first.go ps = some l → l.length = ps.length
  | [], l, h => by simp only [sha_first.go] at h; obtain rfl := Option.some.inj h; rfl
  | p :: r, l, h => by
    simp only [sha_first.go] at h
    obtain ⟨t, _, h⟩ := Option.bind_eq_some_iff.mp h
    obtain ⟨m, hm, h⟩ := Option.bind_eq_some_iff.mp h
    obtain rfl := Option.some.inj h
    simp [sha_first.len r m hm]
theorem sha_first.len8 {l : List Int} (h : sha_first.f = some l) : l.length = 8 := by
  obtain ⟨ps, _, hgo⟩ := Option.bind_eq_some_iff.mp h
  by_cases hl : ps.length = 8
  · rw [if_pos hl] at hgo; rw [sha_first.len ps l hgo, hl]
  · rw [if_neg hl] at hgo; exact absurd hgo (by simp)
set_option maxHeartbeats 4000000 in
set_option maxRecDepth 100000 in
theorem sha_first.calls (r : List Int) (w : World) (h : sha_first.f = some r) :
    Calls Try.prog 73 #[] w fun e w' => e = .returned (.agg (nums .u32 r).toArray) ∧ Below w.heap.size w w' := by
  obtain ⟨ps, hps0, hgo0⟩ := Option.bind_eq_some_iff.mp h
  have hln : ps.length = 8 := by
    by_cases hl : ps.length = 8
    · exact hl
    · rw [if_neg hl] at hgo0; exact absurd hgo0 (by simp)
  rw [if_pos hln] at hgo0
  have HPS := Aside0.mk hps0
  have HGO := Aside0.mk hgo0
  have HLN := Aside0.mk hln
  clear h hps0 hgo0 hln
  have hnew : ∀ W : World, W.heap.size = w.heap.size → sha_first.Blk ((W.alloc (.cells (nums .u32 (List.replicate 8 0)).toArray 108)).alloc (.cells (nums .u32 (List.replicate 8 0)).toArray 108)) w.heap.size (List.replicate 8 0) ∧ sha_first.Blk ((W.alloc (.cells (nums .u32 (List.replicate 8 0)).toArray 108)).alloc (.cells (nums .u32 (List.replicate 8 0)).toArray 108)) (w.heap.size + 1) (List.replicate 8 0) := by
    intro W hW
    rw [← hW]
    exact ⟨⟨blk_alloc (blk_new _ _) _⟩, ⟨by have := blk_new (W.alloc (.cells (nums .u32 (List.replicate 8 0)).toArray 108)) (.cells (nums .u32 (List.replicate 8 0)).toArray 108); simpa using this⟩⟩
  have HNEW := Aside0.mk hnew
  clear hnew
  go_enter Try.func73, Try.ntmps73
  go_wp2_with (go_at_call 80; (with_reducible refine (root_Primes.calls _ ps _ HPS.out).mono ?_); rintro e w1 ⟨v4, rfl, ho, hb⟩; (obtain ⟨A4, c4, rfl, hle, hC⟩ := Kd.R_reads ho); have HO0 := Aside0.mk ho; have HB1 := Aside0.mk hb; clear ho hb hle hC)
  have HZ0 : Aside0 (sha_first.Blk w1 w.heap.size (List.replicate 8 0)) := ⟨⟨blk_below (HNEW.out w rfl).1.out HB1.out⟩⟩
  have HZ1 : Aside0 (sha_first.Blk w1 (w.heap.size + 1) (List.replicate 8 0)) := ⟨⟨blk_below (HNEW.out w rfl).2.out HB1.out⟩⟩
  have HB : Aside0 (Below w.heap.size w w1) := ⟨below_step (below_alloc (below_alloc (Below.refl _ _) _) _) HB1.out⟩
  have HO : Aside0 (Kd.R (Kd.int .i64) 3 w1 w.heap.size (fun _ => True) (Value.slice A4 ps.length c4) ps) := ⟨Kd.R_lower HO0.out (by simp; omega)⟩
  clear HB1 HO0 HNEW
  go_loopg [6] 8 (fun q v6 w' => ∃ (j : Nat) (d : List Int), v6 = .int .i64 (j : Int) ∧ j + q = 8 ∧ d.length = j ∧ Aside0 (∃ l, sha_first.go (ps.drop j) = some l ∧ d ++ l = r) ∧ Aside0 (sha_first.Blk w' w.heap.size (List.replicate 8 0)) ∧ Aside0 (sha_first.Blk w' (w.heap.size + 1) (d ++ List.replicate q 0)) ∧ Aside0 (Below w.heap.size w w') ∧ Aside0 (Kd.R (Kd.int .i64) 3 w' w.heap.size (fun _ => True) (Value.slice A4 ps.length c4) ps))
  case atStart => exact ⟨0, [], by go_num, rfl, rfl, ⟨⟨r, HGO.out, rfl⟩⟩, HZ0, HZ1, HB, HO⟩
  case round =>
    clear HZ0 HZ1 HB HO
    obtain ⟨j, d, rfl, hjq, hdl, HL, HZ0, HZ1, HB, HO⟩ := hrel
    have HDL := Aside0.mk hdl
    clear hdl
    cases gk with
    | zero =>
      obtain rfl : j = 8 := by omega
      have hb0 : decide (((8 : Nat) : Int) < (ps.length : Int)) = false := decide_eq_false (by have := HLN.out; omega)
      have hb1 : decide (8 < ps.length) = false := decide_eq_false (by have := HLN.out; omega)
      have hb2 : decide ((8 : Int) < (ps.length : Int)) = false := decide_eq_false (by have := HLN.out; omega)
      have hr : d = r := by
        obtain ⟨l, hl, hr⟩ := HL.out
        rw [List.drop_eq_nil_of_le (by have := HLN.out; omega)] at hl
        simp only [sha_first.go] at hl
        obtain rfl := Option.some.inj hl
        simpa using hr
      have HD : Aside0 (d.length = 8) := HDL
      subst hr
      have HZ2 : Aside0 (sha_first.Blk wr (w.heap.size + 1) d) := ⟨by simpa using HZ1.out⟩
      clear HZ1 HL
      go_wp2_with (first | (refine wpList_load_row rfl 108 (.tmp 1) rfl (w.heap.size + 1) rfl 108 _ (0, 0) _ HZ2.out.out Try.underlying108 rfl (sha_first.size d HD.out) ?_) | (refine wpList_store_row rfl 108 (.tmp 0) (.tmp 17) rfl w.heap.size _ rfl rfl 108 _ HZ0.out.out (sha_first.size d HD.out) (by have := HD.out; simp [nums, this]) (sha_first.ones _ _) ?_))
      refine bodyPost_ret (v := .agg (nums .u32 d).toArray) (results_cell_row rfl _ _ w.heap.size 108 _ (0, 0) _ rfl (setRow_heap _ _ _ _ _ _ HZ0.out.out) Try.underlying108 rfl (sha_first.size d HD.out)) rfl ⟨rfl, sha_first.below_row HB.out (Nat.le_refl _) _⟩
    | succ q =>
      have hj : j < ps.length := by have := HLN.out; omega
      have hjn : j < 8 := by omega
      have hb0 : decide ((j : Int) < (ps.length : Int)) = true := decide_eq_true (by omega)
      have hb1 : decide (j < ps.length) = true := decide_eq_true hj
      have hb2 : decide (j < 8) = true := decide_eq_true hjn
      have hb3 : decide ((j : Int) < 8) = true := decide_eq_true (by omega)
      obtain ⟨l, hl, hr⟩ := HL.out
      rw [sha_first.drop_at ps j hj] at hl
      obtain ⟨t, ht, hl⟩ := Option.bind_eq_some_iff.mp hl
      obtain ⟨l', hl', hl⟩ := Option.bind_eq_some_iff.mp hl
      obtain rfl := Option.some.inj hl
      have HT := Aside0.mk ht
      have HL' := Aside0.mk hl'
      have HR := Aside0.mk hr
      clear HL ht hl' hr hl
      obtain ⟨A4_, c4_, e4, hle, hC⟩ := Kd.R_reads HO.out
      obtain ⟨rfl, rfl⟩ : A4 = A4_ ∧ c4 = c4_ := by injection e4 with e1 e2 e3; exact ⟨e1, e3⟩
      clear e4
      obtain ⟨ad, eA, hcell⟩ := Kd.at_int hC (j : Int) (by omega) (by omega)
      subst eA
      rw [Int.toNat_natCast] at hcell
      clear hC hle
      go_wp2_with (go_at_call 82; (with_reducible refine (root_Square.calls _ t _ HT.out).mono ?_); rintro e w2 ⟨rfl, hb2⟩; (have HZ0n : Aside0 (sha_first.Blk w2 w.heap.size (List.replicate 8 0)) := ⟨⟨blk_below HZ0.out.out hb2⟩⟩); (have HZ1n : Aside0 (sha_first.Blk w2 (w.heap.size + 1) (d ++ List.replicate (q + 1) 0)) := ⟨⟨blk_below HZ1.out.out hb2⟩⟩); (have HBn : Aside0 (Below w.heap.size w w2) := ⟨below_step HB.out hb2⟩); (have HOn : Aside0 (Kd.R (Kd.int .i64) 3 w2 w.heap.size (fun _ => True) (Value.slice (some ad) ps.length c4) ps) := ⟨Kd.R_below HO.out hb2⟩); (have hcl : w2.cell? ⟨w.heap.size + 1, j, none⟩ = some (.int .u32 (d ++ List.replicate (q + 1) 0)[j]!) := by rw [blk_cell HZ1n.out.out, sha_first.arr_get _ _ _ (by have := HDL.out; simp; omega)]; congr 2; rw [List.getElem!_eq_getElem?_getD, List.getElem?_eq_getElem]; rfl); (have hfz : w2.frozen? ⟨w.heap.size + 1, j, none⟩ = false := blk_frozen HZ1n.out.out _); clear hb2)
      go_roundg q
      case measure => omega
      case rel =>
        refine ⟨j + 1, d ++ [t % 4294967296], by go_num, by omega, by have := HDL.out; simp [this], ⟨⟨l', HL'.out, by rw [← HR.out]; simp⟩⟩, ⟨⟨blk_far HZ0n.out.out (by simp) _⟩⟩, ⟨⟨?_⟩⟩, ⟨HBn.out.setCell (by simp) _⟩, ⟨Kd.R_set HOn.out HZ1n.out.out (by decide) _ _⟩⟩
        have hs := blk_set HZ1n.out.out j (.int .u32 (t % 4294967296))
        rw [sha_first.arr_set] at hs
        have e := sha_first.set_at d (t % 4294967296) q
        rw [HDL.out] at e
        rw [e] at hs
        exact hs

/-! ### bits_RotateLeft32: function 95 -/
def bits_RotateLeft32.f (a0 : Int) (a1 : Int) : Option (Int) := if 0 ≤ (Go.bits .and .u64 (IntKind.u64.wrap (a1)) 31) then (if 0 ≤ (IntKind.u64.wrap (32 - (Go.bits .and .u64 (IntKind.u64.wrap (a1)) 31))) then (some (Go.bits .or .u32 (shl .u32 a0 (Go.bits .and .u64 (IntKind.u64.wrap (a1)) 31)) (shr .u32 a0 (IntKind.u64.wrap (32 - (Go.bits .and .u64 (IntKind.u64.wrap (a1)) 31)))))) else (none)) else (none)
set_option maxHeartbeats 8000000 in
set_option maxRecDepth 100000 in
set_option maxHeartbeats 4000000 in
set_option maxRecDepth 100000 in
theorem bits_RotateLeft32.same (a0 : Int) (a1 : Int) (r : Int) (w : World) (h : bits_RotateLeft32.f a0 a1 = some r) :
    Calls Try.prog 95 #[.int .u32 a0, .int .i64 a1] w fun e w' => e = .returned (.int .u32 r) ∧ w = w' := by
  unfold bits_RotateLeft32.f at h
  obtain ⟨j3, h3⟩ : ∃ j_ : Int, (Go.bits .and .u64 (IntKind.u64.wrap (a1)) 31) = j_ := ⟨_, rfl⟩
  rw [h3] at h
  by_cases c4 : 0 ≤ j3
  · rw [if_pos c4] at h
    have c4b0 := eq_true c4
    have c4b1 : decide (0 ≤ j3) = true := decide_eq_true c4
    clear c4
    obtain ⟨j5, h5⟩ : ∃ j_ : Int, (shl .u32 a0 j3) = j_ := ⟨_, rfl⟩
    rw [h5] at h
    have h5_ : (IntKind.u32.wrap (a0 * 2 ^ min j3.toNat 32)) = j5 := h5
    have h5z : j3 ≤ 32 → (IntKind.u32.wrap (a0 * 2 ^ j3.toNat)) = j5 := shl_small h5
    obtain ⟨j6, h6⟩ : ∃ j_ : Int, (IntKind.u64.wrap (32 - j3)) = j_ := ⟨_, rfl⟩
    rw [h6] at h
    by_cases c7 : 0 ≤ j6
    · rw [if_pos c7] at h
      have c7b0 := eq_true c7
      have c7b1 : decide (0 ≤ j6) = true := decide_eq_true c7
      clear c7
      obtain ⟨j8, h8⟩ : ∃ j_ : Int, (shr .u32 a0 j6) = j_ := ⟨_, rfl⟩
      rw [h8] at h
      have h8_ : (a0 / 2 ^ min j6.toNat 32) = j8 := h8
      have h8z : j6 ≤ 32 → (a0 / 2 ^ j6.toNat) = j8 := shr_small h8
      obtain rfl := Option.some.inj h
      go_enter Try.func95, Try.ntmps95
      go_wp2
      go_ret
      exact ⟨by (rfl), rfl⟩
    · rw [if_neg c7] at h; exact absurd h (by simp)
  · rw [if_neg c4] at h; exact absurd h (by simp)
def sha_rot.f (a0 : Int) (a1 : Int) : Option (Int) := bits_RotateLeft32.f a0 (wrap64 (-a1))
theorem sha_rot.same (a0 : Int) (a1 : Int) (r : Int) (w : World) (h : sha_rot.f a0 a1 = some r) :
    Calls Try.prog 84 #[.int .u32 a0, .int .i64 a1] w fun e w' => e = .returned (.int .u32 r) ∧ w = w' := by
  have H := Aside0.mk h
  clear h
  unfold sha_rot.f at H
  go_enter Try.func84, Try.ntmps84
  go_wp2_with (go_at_call 95; (with_reducible refine (bits_RotateLeft32.same _ _ r _ H.out).mono ?_); rintro e w' ⟨rfl, rfl⟩)
  go_ret
  exact ⟨rfl, rfl⟩
theorem sha_rot.still (a0 : Int) (a1 : Int) (r : Int) (w : World) (h : sha_rot.f a0 a1 = some r) :
    Calls Try.prog 84 #[.int .u32 a0, .int .i64 a1] w fun e w' => e = .returned (.int .u32 r) ∧ w' = w :=
  (sha_rot.same a0 a1 r w h).mono fun e w' ⟨he, hw⟩ => ⟨he, hw.symm⟩

end Go.Proofs.Ytogjnipojakfjaa.PJd
