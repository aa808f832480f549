-- PRINTED by print.py (a twelfth state) out of the translation. Not trusted: Lean checks it.
import Derived.Test.YtppeaofdohghgaaPTmx0
import Derived.Test.YtppeaofdohghgaaPTmx1
namespace Go.Proofs.Ytppeaofdohghgaa.PTm
open Go.RowKit Go.Proofs.YtppeaofdohghgaaW.PrintWords Go.Proofs.YtppeaofdohghgaaW.PrintLast Go.Proofs.YtppeaofdohghgaaW.PrintMore
attribute [local go_sem] max2_int min2_int max_two min_two max_three min_three max_four min_four   -- for this text's walks alone
set_option linter.unusedVariables false
set_option linter.unusedSimpArgs false

/-! ### term_Same: function 26 (given) -/
/-- two lists, element by element -/
def term_Same.eqs (g : S24 → S24 → Option Bool) : List S24 → List S24 → Option Bool
  | x :: xs, y :: ys => (g x y).bind fun c => if c = true then term_Same.eqs g xs ys else some false
  | _, _ => some true
def term_Same.f : Nat → Int → Int → ByteArray → List S24 → Int → Int → Int → Int → ByteArray → List S24 → Int → Int → Option Bool
  | 0, _, _, _, _, _, _, _, _, _, _, _, _ => none
  | k + 1, a0, a1, a2, a3, a4, a5, b0, b1, b2, b3, b4, b5 => if a0 = b0 then (if a1 = b1 then (if a2.toList = b2.toList then (if a3.length = b3.length then term_Same.eqs (fun x y => term_Same.f k x.f0 x.f1 x.f2 x.f3 x.f4 x.f5 y.f0 y.f1 y.f2 y.f3 y.f4 y.f5) a3 b3 else some false) else some false) else some false) else some false
theorem term_Same.eqs_mono {g h : S24 → S24 → Option Bool} (hg : ∀ x y, LeO (g x y) (h x y)) : ∀ xs ys, LeO (term_Same.eqs g xs ys) (term_Same.eqs h xs ys)
  | x :: xs, y :: ys => LeO.bind (hg x y) fun c => LeO.ite (term_Same.eqs_mono hg xs ys) (LeO.refl _)
  | [], _ => LeO.refl _
  | _ :: _, [] => LeO.refl _
theorem term_Same.mono : ∀ a0 a1 a2 a3 a4 a5 b0 b1 b2 b3 b4 b5 k, LeO (term_Same.f k a0 a1 a2 a3 a4 a5 b0 b1 b2 b3 b4 b5) (term_Same.f (k + 1) a0 a1 a2 a3 a4 a5 b0 b1 b2 b3 b4 b5) := by
  intro a0 a1 a2 a3 a4 a5 b0 b1 b2 b3 b4 b5 k
  induction k generalizing a0 a1 a2 a3 a4 a5 b0 b1 b2 b3 b4 b5 with
  | zero => exact fun r h => by simp [term_Same.f] at h
  | succ k ih =>
    rw [term_Same.f, term_Same.f]
    exact LeO.ite (LeO.ite (LeO.ite (LeO.ite (term_Same.eqs_mono (fun x y => ih _ _ _ _ _ _ _ _ _ _ _ _) _ _) (LeO.refl _)) (LeO.refl _)) (LeO.refl _)) (LeO.refl _)
set_option maxHeartbeats 16000000 in
set_option maxRecDepth 100000 in
theorem term_Same.equal (G : Nat) (g : S24 → S24 → Option Bool) (hE : ∀ (x y : Value) (W : World), (callFunc G #[x, y]).run Try.prog W = .ok (.enter G #[x, y]) W)
    (hF : ∀ (x y : S24) (A B : Option Addr) (c d : Nat) (r : Bool) (W : World), k24.C W A x.f3.length x.f3 → x.f3.length ≤ c → k24.C W B y.f3.length y.f3 → y.f3.length ≤ d → g x y = some r →
      Calls Try.prog G #[.agg #[.int .i64 x.f0, .int .i64 x.f1, .string x.f2, .slice A x.f3.length c, .int .i64 x.f4, .int .i64 x.f5], .agg #[.int .i64 y.f0, .int .i64 y.f1, .string y.f2, .slice B y.f3.length d, .int .i64 y.f4, .int .i64 y.f5]] W fun e W' => e = .returned (.bool r) ∧ Below W.heap.size W W')
    (A0 : Option Addr) (c0 : Nat) (l0 : List S24) (A1 : Option Addr) (c1 : Nat) (l1 : List S24) (r : Bool) (w : World) (hr0 : k24.C w A0 l0.length l0) (hc0 : l0.length ≤ c0) (hr1 : k24.C w A1 l1.length l1) (hc1 : l1.length ≤ c1) (h : (if l0.length = l1.length then term_Same.eqs g l0 l1 else some false) = some r) :
    Calls Try.prog 41 #[.slice A0 l0.length c0, .slice A1 l1.length c1, .func (.func G) #[] #[]] w fun e w' => e = .returned (.bool r) ∧ Below w.heap.size w w' := by
  have hu := Try.underlying24
  have HR0 := Aside0.mk hr0
  have HR1 := Aside0.mk hr1
  have HF := Aside0.mk hF
  clear hr0 hr1 hF
  by_cases hl : l0.length = l1.length
  case neg =>
    rw [if_neg hl] at h
    obtain rfl := Option.some.inj h
    have hlb : ((l0.length : Int) != (l1.length : Int)) = true := by simp; omega
    have hlc : (l0.length != l1.length) = true := by simpa using hl
    clear h hl
    go_enter Try.func41, Try.ntmps41
    go_wp2
    go_ret
    exact ⟨rfl, Below.refl _ _⟩
  rw [if_pos hl] at h
  have hlb : ((l0.length : Int) != (l1.length : Int)) = false := by simp; omega
  have hlc : (l0.length != l1.length) = false := by simpa using hl
  have HL := Aside0.mk hl
  have H := Aside0.mk h
  clear h hl
  go_enter Try.func41, Try.ntmps41
  go_wp2
  go_loopg [17] l0.length (fun q v17 w' => ∃ j : Nat, v17 = .int .i64 (j : Int) ∧ j + q = l0.length ∧ Aside0 (term_Same.eqs g (l0.drop j) (l1.drop j) = some r) ∧ Aside0 (Below w.heap.size w w'))
  case atStart => exact ⟨0, rfl, by omega, H, ⟨Below.refl _ _⟩⟩
  case round =>
    clear H
    obtain ⟨j, rfl, hjq, HE, HB⟩ := hrel
    cases gk with
    | zero =>
      obtain rfl : j = l0.length := by omega
      have hd : decide ((l0.length : Int) < (l0.length : Int)) = false := by simp
      have h1 := HE.out
      rw [List.drop_length] at h1
      obtain rfl : true = r := Option.some.inj h1
      clear h1 HE
      go_wp2
      go_ret
      exact ⟨rfl, HB.out⟩
    | succ q =>
      have hjn : j < l0.length := by omega
      have hjm : j < l1.length := by have := HL.out; omega
      have hd : decide ((j : Int) < (l0.length : Int)) = true := decide_eq_true (by omega)
      have p0 : 0 ≤ (j : Int) := by omega
      have p1 : (j : Int) < (l0.length : Int) := by omega
      have p2 : (j : Int) < (l1.length : Int) := by omega
      have h1 := HE.out
      rw [List.drop_eq_getElem_cons hjn, List.drop_eq_getElem_cons hjm, term_Same.eqs] at h1
      obtain ⟨c, hc, h5⟩ := Option.bind_eq_some_iff.mp h1
      clear h1
      obtain ⟨ad, A3, c3, e0, m0, m1, m2, m3, m4, m5, hl3, hc3⟩ := at_T24 (Kd.C_below HR0.out HB.out) (j : Int) p0 p1
      obtain ⟨bd, B3, d3, e1, n0, n1, n2, n3, n4, n5, hm3, hd3⟩ := at_T24 (Kd.C_below HR1.out HB.out) (j : Int) p0 p2
      have hX : rd_T24 l0 (j : Int) = l0[j] := by unfold rd_T24; simp [List.getD_eq_getElem?_getD, List.getElem?_eq_getElem hjn]
      have hY : rd_T24 l1 (j : Int) = l1[j] := by unfold rd_T24; simp [List.getD_eq_getElem?_getD, List.getElem?_eq_getElem hjm]
      rw [hX] at m0 m1 m2 m3 m4 m5 hl3 hc3
      rw [hY] at n0 n1 n2 n3 n4 n5 hm3 hd3
      clear hX hY
      generalize l0[j] = X at *
      generalize l1[j] = Y at *
      subst e0
      subst e1
      rw [Int.toNat_natCast] at m0 m1 m2 m3 m4 m5 n0 n1 n2 n3 n4 n5
      have n0' : ∀ o, (wr.alloc o).cell? (bd.add (j * 6)) = some (.int .i64 Y.f0) := fun o => pw_cell_below (below_alloc (Below.refl _ _) o) n0
      have n1' : ∀ o, (wr.alloc o).cell? ⟨(bd.add (j * 6)).block, (bd.add (j * 6)).off + 1, none⟩ = some (.int .i64 Y.f1) := fun o => pw_cell_below (below_alloc (Below.refl _ _) o) n1
      have n2' : ∀ o, (wr.alloc o).cell? ⟨(bd.add (j * 6)).block, (bd.add (j * 6)).off + 2, none⟩ = some (.string Y.f2) := fun o => pw_cell_below (below_alloc (Below.refl _ _) o) n2
      have n3' : ∀ o, (wr.alloc o).cell? ⟨(bd.add (j * 6)).block, (bd.add (j * 6)).off + 3, none⟩ = some (.slice B3 Y.f3.length d3) := fun o => pw_cell_below (below_alloc (Below.refl _ _) o) n3
      have n4' : ∀ o, (wr.alloc o).cell? ⟨(bd.add (j * 6)).block, (bd.add (j * 6)).off + 4, none⟩ = some (.int .i64 Y.f4) := fun o => pw_cell_below (below_alloc (Below.refl _ _) o) n4
      have n5' : ∀ o, (wr.alloc o).cell? ⟨(bd.add (j * 6)).block, (bd.add (j * 6)).off + 5, none⟩ = some (.int .i64 Y.f5) := fun o => pw_cell_below (below_alloc (Below.refl _ _) o) n5
      clear n0 n1 n2 n3 n4 n5
      have HC := Aside0.mk hc
      have HC3 := Aside0.mk hc3
      have HD3 := Aside0.mk hd3
      have HL3 := Aside0.mk (And.intro hl3 hm3)
      have H1 := Aside0.mk h5
      clear h5 hc hc3 hd3 hl3 hm3 HE
      cases c with
      | false =>
        have h2 := H1.out
        rw [if_neg (by decide)] at h2
        obtain rfl := Option.some.inj h2
        clear h2
        go_wp2_with ((with_reducible refine (HF.out X Y A3 B3 c3 d3 false _ (Kd.C_below HC3.out (by repeat (first | exact Below.refl _ _ | apply below_alloc | apply below_drew))) HL3.out.1 (Kd.C_below HD3.out (by repeat (first | exact Below.refl _ _ | apply below_alloc | apply below_drew))) HL3.out.2 HC.out).mono ?_); rintro e w5 ⟨rfl, hb5⟩; (have HB5 : Aside0 (Below w.heap.size w w5) := ⟨below_step (by repeat (first | exact HB.out | apply below_alloc | apply below_drew)) hb5⟩); clear hb5)
        go_ret
        exact ⟨rfl, HB5.out⟩
      | true =>
        have h2 := H1.out
        rw [if_pos rfl] at h2
        have H2 := Aside0.mk h2
        clear h2
        have hb := HR0.out.2.1
        have hw : IntKind.i64.wrap ((j : Int) + 1) = ((j + 1 : Nat) : Int) := by
          rw [i64_w]
          unfold Go.RowKit.wrap64
          omega
        go_wp2_with ((with_reducible refine (HF.out X Y A3 B3 c3 d3 true _ (Kd.C_below HC3.out (by repeat (first | exact Below.refl _ _ | apply below_alloc | apply below_drew))) HL3.out.1 (Kd.C_below HD3.out (by repeat (first | exact Below.refl _ _ | apply below_alloc | apply below_drew))) HL3.out.2 HC.out).mono ?_); rintro e w5 ⟨rfl, hb5⟩; (have HB5 : Aside0 (Below w.heap.size w w5) := ⟨below_step (by repeat (first | exact HB.out | apply below_alloc | apply below_drew)) hb5⟩); clear hb5)
        go_roundg q
        case rel => exact ⟨j + 1, rfl, by omega, H2, HB5⟩
        case measure => omega
theorem term_Same.goes (x y : Value) (w : World) : (callFunc 26 #[x, y]).run Try.prog w = .ok (.enter 26 #[x, y]) w := by go_simp
set_option maxHeartbeats 16000000 in
set_option maxRecDepth 100000 in
theorem term_Same.calls (k : Nat) : ∀ (a0_0 : Int) (a0_1 : Int) (a0_2 : ByteArray) (A0_3 : Option Addr) (c0_3 : Nat) (l0_3 : List (S24)) (a0_4 : Int) (a0_5 : Int) (a1_0 : Int) (a1_1 : Int) (a1_2 : ByteArray) (A1_3 : Option Addr) (c1_3 : Nat) (l1_3 : List (S24)) (a1_4 : Int) (a1_5 : Int) (r : Bool) (w : World) (hr0_3 : Kd.C k24 w A0_3 l0_3.length l0_3) (hc0_3 : l0_3.length ≤ c0_3) (hr1_3 : Kd.C k24 w A1_3 l1_3.length l1_3) (hc1_3 : l1_3.length ≤ c1_3) (h : term_Same.f k a0_0 a0_1 a0_2 l0_3 a0_4 a0_5 a1_0 a1_1 a1_2 l1_3 a1_4 a1_5 = some r),
    Calls Try.prog 26 #[.agg #[.int .i64 a0_0, .int .i64 a0_1, .string a0_2, .slice A0_3 l0_3.length c0_3, .int .i64 a0_4, .int .i64 a0_5], .agg #[.int .i64 a1_0, .int .i64 a1_1, .string a1_2, .slice A1_3 l1_3.length c1_3, .int .i64 a1_4, .int .i64 a1_5]] w fun e w' => e = .returned (.bool r) ∧ Below w.heap.size w w' := by
  induction k with
  | zero => intro a0_0 a0_1 a0_2 A0_3 c0_3 l0_3 a0_4 a0_5 a1_0 a1_1 a1_2 A1_3 c1_3 l1_3 a1_4 a1_5 r w hr0_3 hc0_3 hr1_3 hc1_3 h; exact absurd h (by simp [term_Same.f])
  | succ k ih =>
  intro a0_0 a0_1 a0_2 A0_3 c0_3 l0_3 a0_4 a0_5 a1_0 a1_1 a1_2 A1_3 c1_3 l1_3 a1_4 a1_5 r w hr0_3 hc0_3 hr1_3 hc1_3 h
  have hu := Try.underlying24
  rw [term_Same.f] at h
  by_cases c0 : a0_0 = a1_0
  case neg =>
    rw [if_neg c0] at h
    obtain rfl := Option.some.inj h
    have c0b : (a0_0 == a1_0) = false := by simpa using c0
    clear h c0 ih
    go_enter Try.func26, Try.ntmps26
    go_wp2
    go_ret
    exact ⟨rfl, below_alloc (below_alloc (Below.refl _ _) _) _⟩
  rw [if_pos c0] at h
  have c0b : (a0_0 == a1_0) = true := by simpa using c0
  clear c0
  by_cases c1 : a0_1 = a1_1
  case neg =>
    rw [if_neg c1] at h
    obtain rfl := Option.some.inj h
    have c1b : (a0_1 == a1_1) = false := by simpa using c1
    clear h c1 ih
    go_enter Try.func26, Try.ntmps26
    go_wp2
    go_ret
    exact ⟨rfl, below_alloc (below_alloc (Below.refl _ _) _) _⟩
  rw [if_pos c1] at h
  have c1b : (a0_1 == a1_1) = true := by simpa using c1
  clear c1
  by_cases c2 : a0_2.toList = a1_2.toList
  case neg =>
    rw [if_neg c2] at h
    obtain rfl := Option.some.inj h
    have c2b : (a0_2.toList == a1_2.toList) = false := by simpa using c2
    clear h c2 ih
    go_enter Try.func26, Try.ntmps26
    go_wp2
    go_ret
    exact ⟨rfl, below_alloc (below_alloc (Below.refl _ _) _) _⟩
  rw [if_pos c2] at h
  have c2b : (a0_2.toList == a1_2.toList) = true := by simpa using c2
  clear c2
  have HI := Aside0.mk ih
  have HR0 := Aside0.mk hr0_3
  have HR1 := Aside0.mk hr1_3
  have H := Aside0.mk h
  clear ih hr0_3 hr1_3 h
  go_enter Try.func26, Try.ntmps26
  go_wp2_with (go_at_call 41; (with_reducible refine (term_Same.equal 26 (fun x y => term_Same.f k x.f0 x.f1 x.f2 x.f3 x.f4 x.f5 y.f0 y.f1 y.f2 y.f3 y.f4 y.f5) term_Same.goes (fun x y A B c d r W hA hc hB hd hg => HI.out _ _ _ A c _ _ _ _ _ _ B d _ _ _ r W hA hc hB hd hg) A0_3 c0_3 l0_3 A1_3 c1_3 l1_3 r _ (Kd.C_below HR0.out (below_alloc (below_alloc (Below.refl _ _) _) _)) hc0_3 (Kd.C_below HR1.out (below_alloc (below_alloc (Below.refl _ _) _) _)) hc1_3 H.out).mono ?_); rintro e w5 ⟨rfl, hb5⟩; (have HB5 : Aside0 (Below w.heap.size w w5) := ⟨below_step (below_alloc (below_alloc (Below.refl _ _) _) _) hb5⟩); clear hb5)
  go_ret
  exact ⟨rfl, HB5.out⟩

/-! ### notarylaw06_awake: function 9 -/
def notarylaw06_awake.f (k : Nat)  : Option (Bool) := (term_Size.f k 0 0 (⟨#[]⟩ : ByteArray) (([(⟨0, 0, (⟨#[]⟩ : ByteArray), ([] : List (S24)), 0, 0⟩ : S24)] : List (S24))) 0 0).bind fun t113 => (if t113 = 2 then ((term_Same.f k 0 0 (⟨#[]⟩ : ByteArray) ([] : List (S24)) 0 0 0 0 (⟨#[]⟩ : ByteArray) ([] : List (S24)) 0 0).bind fun t114 => (some t114)) else (some false))
theorem notarylaw06_awake.mono : ∀ k, LeO (notarylaw06_awake.f k ) (notarylaw06_awake.f (k + 1) ) := by
  intro  k
  unfold notarylaw06_awake.f
  repeat' first
      | (with_reducible exact term_Same.mono _ _ _ _ _ _ _ _ _ _ _ _ _)
      | (with_reducible exact term_Size.mono _ _ _ _ _ _ _)
      | (with_reducible exact LeO.refl _)
      | (with_reducible exact LeO.none _)
      | (with_reducible refine LeO.ite ?_ ?_)
      | (with_reducible refine LeO.bind ?_ (fun _ => ?_))
      | exact term_Same.mono _ _ _ _ _ _ _ _ _ _ _ _ _
      | exact term_Size.mono _ _ _ _ _ _ _
      | exact LeO.none _
      | refine LeO.ite ?_ ?_
      | refine LeO.bind ?_ (fun _ => ?_)
set_option maxHeartbeats 8000000 in
set_option maxRecDepth 100000 in
theorem notarylaw06_awake.calls (k : Nat)  (r : Bool) (w : World) (h : notarylaw06_awake.f k  = some r) :
    Calls Try.prog 9 #[] w fun e w' => e = .returned (.bool r) ∧ Below w.heap.size w w' := by
  have hu24 := Try.underlying24
  have HB := Aside0.mk (Below.refl w.heap.size w)
  have H : ((term_Size.f k 0 0 (⟨#[]⟩ : ByteArray) (([(⟨0, 0, (⟨#[]⟩ : ByteArray), ([] : List (S24)), 0, 0⟩ : S24)] : List (S24))) 0 0).bind fun t113 => (if t113 = 2 then ((term_Same.f k 0 0 (⟨#[]⟩ : ByteArray) ([] : List (S24)) 0 0 0 0 (⟨#[]⟩ : ByteArray) ([] : List (S24)) 0 0).bind fun t114 => (some t114)) else (some false))) = some r := h
  clear h
  obtain ⟨y110, hy110⟩ : ∃ y_ : List (S24), y_ = (([(⟨0, 0, (⟨#[]⟩ : ByteArray), ([] : List (S24)), 0, 0⟩ : S24)] : List (S24))) := ⟨_, rfl⟩
  replace H : ((term_Size.f k 0 0 (⟨#[]⟩ : ByteArray) y110 0 0).bind fun t113 => (if t113 = 2 then ((term_Same.f k 0 0 (⟨#[]⟩ : ByteArray) ([] : List (S24)) 0 0 0 0 (⟨#[]⟩ : ByteArray) ([] : List (S24)) 0 0).bind fun t114 => (some t114)) else (some false))) = some r := by first | (rw [hy110]; with_reducible exact H) | (have H2_ := (Option.bind_some _ _).symm.trans H; rw [hy110]; with_reducible exact H2_) | (have H2_ := (Option.bind_some _ _).symm.trans H; with_reducible exact H2_) | with_reducible exact H | (rw [hy110]; exact H) | exact H
  have Ny110 := Aside0.mk hy110
  clear hy110
  replace H := Option.bind_eq_some_iff.mp H
  obtain ⟨t113, A10, H⟩ := H
  replace H : (if t113 = 2 then ((term_Same.f k 0 0 (⟨#[]⟩ : ByteArray) ([] : List (S24)) 0 0 0 0 (⟨#[]⟩ : ByteArray) ([] : List (S24)) 0 0).bind fun t114 => (some t114)) else (some false)) = some r := H
  have A1 := Aside0.mk A10
  clear A10
  by_cases c2 : t113 = 2
  · rw [if_pos c2] at H
    have c2b0 : (t113 == 2) = true := beq_iff_eq.mpr c2
    have c2b1 : (t113 != 2) = false := bne_eq_false_iff_eq.mpr c2
    clear c2
    replace H := Option.bind_eq_some_iff.mp H
    obtain ⟨t114, A30, H⟩ := H
    replace H : (some t114) = some r := H
    have A3 := Aside0.mk A30
    clear A30
    obtain rfl := Option.some.inj H
    go_enter Try.func9, Try.ntmps9
    go_wp2_with (first | ((with_reducible refine gate_dst (N := 2) rfl ?_); refine Kd.R_lit k24 _ 24 ?hg (N := 2) ?hd (xs := ([(⟨0, 0, (⟨#[]⟩ : ByteArray), ([] : List (S24)), 0, 0⟩ : S24)] : List (S24))) (inner := [.int .i64 0, .int .i64 0, .string (⟨#[]⟩ : ByteArray), .slice none 0 0, .int .i64 0, .int .i64 0]) (ok := fun _ => True) (okp := fun _ => True) ?hr ?hp (fun _ hk => hk) trivial (Below.refl _ _) (Nat.le_refl _) (by simp) ?_; (case hd => rfl); (case hg => rfl); (case hr => first | (go_simp; done) | (go_simp; rfl) | (go_simp; simp only [IntKind.wrap_u8, IntKind.wrap_u32, (fun x => Int.tmod_eq_emod_of_nonneg (Int.emod_nonneg x (by decide)) : ∀ x : Int, (x % 4294967296).tmod 256 = x % 4294967296 % 256), Int.emod_emod_of_dvd _ (show (256 : Int) ∣ 4294967296 by decide), Int.emod_emod]; done) | (go_simp; simp only [IntKind.wrap_u8, IntKind.wrap_u32, (fun x => Int.tmod_eq_emod_of_nonneg (Int.emod_nonneg x (by decide)) : ∀ x : Int, (x % 4294967296).tmod 256 = x % 4294967296 % 256), Int.emod_emod_of_dvd _ (show (256 : Int) ∣ 4294967296 by decide), Int.emod_emod]; rfl)); (case hp => exact (Reps.c6 (show Kd.M k24 _ _ _ (⟨0, 0, (⟨#[]⟩ : ByteArray), ([] : List (S24)), 0, 0⟩ : S24) [.int .i64 0, .int .i64 0, .string (⟨#[]⟩ : ByteArray), .slice none 0 0, .int .i64 0, .int .i64 0] from (k24_mkM _ _ _ (⟨0, 0, (⟨#[]⟩ : ByteArray), ([] : List (S24)), 0, 0⟩ : S24) (Kd.R_nil _ _ _ _ _))) (Reps.none _ _))); intro v111 w4 ho5 hb hg_ hnew_; clear hg_ hnew_; (first | rw [← Ny110.out] at ho5 | (simp only [Int.reduceToNat] at ho5; rw [← Ny110.out] at ho5)); have n0_ := Aside0.mk (Kd.R_lower ho5 (below_size (by repeat (first | (with_reducible first | exact HB.out | apply below_alloc | apply pw_below_drewN | apply below_drew1) | exact HB.out)))); have n1_ := Aside0.mk (below_step (by repeat (first | (with_reducible first | exact HB.out | apply below_alloc | apply pw_below_drewN | apply below_drew1) | exact HB.out)) hb); clear HB; have HO112 := n0_; have HB := n1_; clear n0_ n1_; clear hb ho5; obtain ⟨Ao6, co6, eo6⟩ := Kd.R_slice HO112.out; subst eo6) | ((with_reducible refine gate_callee (f := 12) rfl ?_); refine goesL_ (some 4) rfl rfl Try.func12 (by kernel_rfl) rfl #[.agg #[.int .i64 0, .int .i64 0, .string (⟨#[]⟩ : ByteArray), .slice Ao6 y110.length co6, .int .i64 0, .int .i64 0]] rfl (by (try simp only [List.map_toArray, List.map_cons, List.map_nil]); first | done | rfl | (simp only [List.length_drop, List.length_take]; rfl)) ?_; (with_reducible refine (term_Size.calls k 0 0 (⟨#[]⟩ : ByteArray) _ _ y110 0 0 t113 _ ?side1 ?side2 A1.out).mono ?_); (case side1 => repeat (first | exact (Kd.R_reads' HO112.out).2.2 | (with_reducible refine Kd.C_alloc ?_ _) | (with_reducible refine Kd.C_drewN ?_ _) | (with_reducible refine Kd.C_drew ?_))); (case side2 => exact (Kd.R_reads' HO112.out).2.1); rintro e w7 ⟨rfl, hb⟩; refine ⟨_, rfl, ?_⟩; have n0_ := Aside0.mk (Kd.R_below (by (with_reducible repeat (first | apply Kd.R_alloc | apply Kd.R_drewN | apply Kd.R_drew)); exact HO112.out) hb); have n1_ := Aside0.mk (below_step (by repeat (first | (with_reducible first | exact HB.out | apply below_alloc | apply pw_below_drewN | apply below_drew1) | exact HB.out)) hb); clear HO112; clear HB; have HO112 := n0_; have HB := n1_; clear n0_ n1_; (try clear hb); (try clear hb2); (try clear hk); (try clear hi)) | (go_at_call 26; (refine (term_Same.calls k 0 0 (⟨#[]⟩ : ByteArray) _ _ ([] : List (S24)) 0 0 0 0 (⟨#[]⟩ : ByteArray) _ _ ([] : List (S24)) 0 0 t114 _ ?side1 ?side2 ?side3 ?side4 A3.out).mono ?_); (case side1 => exact Kd.C_nil _ _); (case side2 => exact Nat.le_refl _); (case side3 => exact Kd.C_nil _ _); (case side4 => exact Nat.le_refl _); rintro e w8 ⟨rfl, hb⟩; have n0_ := Aside0.mk (Kd.R_below (by (with_reducible repeat (first | apply Kd.R_alloc | apply Kd.R_drewN | apply Kd.R_drew)); exact HO112.out) hb); have n1_ := Aside0.mk (below_step (by repeat (first | (with_reducible first | exact HB.out | apply below_alloc | apply pw_below_drewN | apply below_drew1) | exact HB.out)) hb); clear HO112; clear HB; have HO112 := n0_; have HB := n1_; clear n0_ n1_; (try clear hb); (try clear hb2); (try clear hk); (try clear hi)))
    go_ret
    exact ⟨by first | rfl | (simp [errW_none, errW_some] <;> rfl) | (simp [*, errW_none, errW_some] <;> rfl), by repeat (first | (with_reducible first | exact HB.out | apply below_alloc | apply pw_below_drewN | apply below_drew1) | exact HB.out)⟩
  · rw [if_neg c2] at H
    have c2b0 : (t113 == 2) = false := beq_eq_false_iff_ne.mpr c2
    have c2b1 : (t113 != 2) = true := bne_iff_ne.mpr c2
    obtain rfl := Option.some.inj H
    go_enter Try.func9, Try.ntmps9
    go_wp2_with (first | ((with_reducible refine gate_dst (N := 2) rfl ?_); refine Kd.R_lit k24 _ 24 ?hg (N := 2) ?hd (xs := ([(⟨0, 0, (⟨#[]⟩ : ByteArray), ([] : List (S24)), 0, 0⟩ : S24)] : List (S24))) (inner := [.int .i64 0, .int .i64 0, .string (⟨#[]⟩ : ByteArray), .slice none 0 0, .int .i64 0, .int .i64 0]) (ok := fun _ => True) (okp := fun _ => True) ?hr ?hp (fun _ hk => hk) trivial (Below.refl _ _) (Nat.le_refl _) (by simp) ?_; (case hd => rfl); (case hg => rfl); (case hr => first | (go_simp; done) | (go_simp; rfl) | (go_simp; simp only [IntKind.wrap_u8, IntKind.wrap_u32, (fun x => Int.tmod_eq_emod_of_nonneg (Int.emod_nonneg x (by decide)) : ∀ x : Int, (x % 4294967296).tmod 256 = x % 4294967296 % 256), Int.emod_emod_of_dvd _ (show (256 : Int) ∣ 4294967296 by decide), Int.emod_emod]; done) | (go_simp; simp only [IntKind.wrap_u8, IntKind.wrap_u32, (fun x => Int.tmod_eq_emod_of_nonneg (Int.emod_nonneg x (by decide)) : ∀ x : Int, (x % 4294967296).tmod 256 = x % 4294967296 % 256), Int.emod_emod_of_dvd _ (show (256 : Int) ∣ 4294967296 by decide), Int.emod_emod]; rfl)); (case hp => exact (Reps.c6 (show Kd.M k24 _ _ _ (⟨0, 0, (⟨#[]⟩ : ByteArray), ([] : List (S24)), 0, 0⟩ : S24) [.int .i64 0, .int .i64 0, .string (⟨#[]⟩ : ByteArray), .slice none 0 0, .int .i64 0, .int .i64 0] from (k24_mkM _ _ _ (⟨0, 0, (⟨#[]⟩ : ByteArray), ([] : List (S24)), 0, 0⟩ : S24) (Kd.R_nil _ _ _ _ _))) (Reps.none _ _))); intro v111 w9 ho10 hb hg_ hnew_; clear hg_ hnew_; (first | rw [← Ny110.out] at ho10 | (simp only [Int.reduceToNat] at ho10; rw [← Ny110.out] at ho10)); have n0_ := Aside0.mk (Kd.R_lower ho10 (below_size (by repeat (first | (with_reducible first | exact HB.out | apply below_alloc | apply pw_below_drewN | apply below_drew1) | exact HB.out)))); have n1_ := Aside0.mk (below_step (by repeat (first | (with_reducible first | exact HB.out | apply below_alloc | apply pw_below_drewN | apply below_drew1) | exact HB.out)) hb); clear HB; have HO112 := n0_; have HB := n1_; clear n0_ n1_; clear hb ho10; obtain ⟨Ao11, co11, eo11⟩ := Kd.R_slice HO112.out; subst eo11) | ((with_reducible refine gate_callee (f := 12) rfl ?_); refine goesL_ (some 4) rfl rfl Try.func12 (by kernel_rfl) rfl #[.agg #[.int .i64 0, .int .i64 0, .string (⟨#[]⟩ : ByteArray), .slice Ao11 y110.length co11, .int .i64 0, .int .i64 0]] rfl (by (try simp only [List.map_toArray, List.map_cons, List.map_nil]); first | done | rfl | (simp only [List.length_drop, List.length_take]; rfl)) ?_; (with_reducible refine (term_Size.calls k 0 0 (⟨#[]⟩ : ByteArray) _ _ y110 0 0 t113 _ ?side1 ?side2 A1.out).mono ?_); (case side1 => repeat (first | exact (Kd.R_reads' HO112.out).2.2 | (with_reducible refine Kd.C_alloc ?_ _) | (with_reducible refine Kd.C_drewN ?_ _) | (with_reducible refine Kd.C_drew ?_))); (case side2 => exact (Kd.R_reads' HO112.out).2.1); rintro e w12 ⟨rfl, hb⟩; refine ⟨_, rfl, ?_⟩; have n0_ := Aside0.mk (Kd.R_below (by (with_reducible repeat (first | apply Kd.R_alloc | apply Kd.R_drewN | apply Kd.R_drew)); exact HO112.out) hb); have n1_ := Aside0.mk (below_step (by repeat (first | (with_reducible first | exact HB.out | apply below_alloc | apply pw_below_drewN | apply below_drew1) | exact HB.out)) hb); clear HO112; clear HB; have HO112 := n0_; have HB := n1_; clear n0_ n1_; (try clear hb); (try clear hb2); (try clear hk); (try clear hi)))
    go_ret
    exact ⟨by first | rfl | (simp [errW_none, errW_some] <;> rfl) | (simp [*, errW_none, errW_some] <;> rfl), by repeat (first | (with_reducible first | exact HB.out | apply below_alloc | apply pw_below_drewN | apply below_drew1) | exact HB.out)⟩

/-! ### term_Bare: function 17 (given) -/
/-- a list, element by element -/
def term_Bare.all (g : S24 → Option S24) : List S24 → Option (List S24)
  | [] => some []
  | x :: xs => (g x).bind fun y => (term_Bare.all g xs).bind fun ys => some (y :: ys)
def term_Bare.f : Nat → S24 → Option S24
  | 0, _ => none
  | k + 1, x => if x.f3.length < 1000000000 then (term_Bare.all (term_Bare.f k) x.f3).bind fun l => some ⟨x.f0, x.f1, x.f2, l, 0, 0⟩ else none
theorem term_Bare.all_mono {g h : S24 → Option S24} (hg : ∀ x, LeO (g x) (h x)) : ∀ xs, LeO (term_Bare.all g xs) (term_Bare.all h xs)
  | [] => LeO.refl _
  | x :: xs => LeO.bind (hg x) fun y => LeO.bind (term_Bare.all_mono hg xs) fun ys => LeO.refl _
theorem term_Bare.mono : ∀ x k, LeO (term_Bare.f k x) (term_Bare.f (k + 1) x)
  | x, 0 => fun r h => by simp [term_Bare.f] at h
  | x, k + 1 => by
    rw [term_Bare.f, term_Bare.f]
    exact LeO.ite (LeO.bind (term_Bare.all_mono (fun y => term_Bare.mono y k) _) fun l => LeO.refl _) (LeO.refl _)
theorem term_Bare.len {g : S24 → Option S24} : ∀ xs ys, term_Bare.all g xs = some ys → ys.length = xs.length
  | [], ys, h => by obtain rfl := Option.some.inj h; rfl
  | x :: xs, ys, h => by
    obtain ⟨y, _, h⟩ := Option.bind_eq_some_iff.mp h
    obtain ⟨zs, hz, h⟩ := Option.bind_eq_some_iff.mp h
    obtain rfl := Option.some.inj h
    simp [term_Bare.len xs zs hz]
theorem term_Bare.at_ {g : S24 → Option S24} : ∀ xs ys, term_Bare.all g xs = some ys → ∀ j (hj : j < xs.length) (hk : j < ys.length), g xs[j] = some ys[j]
  | [], _, _, j, hj, _ => absurd hj (by simp)
  | x :: xs, ys, h, j, hj, hk => by
    obtain ⟨y, hy, h⟩ := Option.bind_eq_some_iff.mp h
    obtain ⟨zs, hz, h⟩ := Option.bind_eq_some_iff.mp h
    obtain rfl := Option.some.inj h
    cases j with
    | zero => exact hy
    | succ j => exact term_Bare.at_ xs zs hz j (by simpa using hj) (by simpa using hk)
theorem term_Bare.below_row {w W : World} {B g : Nat} (h : Below B w W) (hg : B ≤ g) (cs : Array Value) : Below B w (W.setRow g cs) :=
  h.trans ⟨rfl, rfl, rfl, by simp, fun k hk => setRow_other _ _ _ _ (by omega)⟩
/-- a whole struct stored: the world behind it by what it is good for -/
theorem term_Bare.put_row {P : Program} {ops : Array Oper} {rest : List Oper} {o : Oper} {a : Act} {w0 W : World} {Q : Exit → Act → World → Prop} (B : Nat) (hgd : o.guard = none) (ty : TypeId) (x y : Operand) (ho : o.op = .store ty x y)
    (g : Nat) (cells : Array Value) (hx : a.eval x = .pointer (some ⟨g, 0, none⟩)) (hy : a.eval y = .agg cells)
    (t : TypeId) (old : Array Value) (hg : W.heap[g]? = some (.cells old t (0, 0))) (hi : (P.info? ty).map (·.size) = some cells.size)
    (hold : old.size = cells.size) (h1 : cells.all (·.oneCell') = true) (HB : Below B w0 W) (hle : B ≤ g)
    (h : ∀ w2, w2.heap[g]? = some (.cells cells t (0, 0)) → (∀ k, k ≠ g → w2.heap[k]? = W.heap[k]?) → w2.heap.size = W.heap.size → Below B w0 w2 → wpList P ops Q rest (a.put o.dst undef) w2) : wpList P ops Q (o :: rest) a W :=
  wpList_store_row hgd ty x y ho g cells hx hy t old hg hi hold h1
    (h _ (setRow_heap _ _ _ _ _ _ hg) (fun k hk => setRow_other _ _ _ _ hk) (by simp) (term_Bare.below_row HB hle _))
set_option maxHeartbeats 4000000 in
set_option maxRecDepth 100000 in
theorem term_Bare.calls (k : Nat) : ∀ (x : S24) (A : Option Addr) (c : Nat) (r : S24) (w : World), Kd.C k24 w A x.f3.length x.f3 → x.f3.length ≤ c → term_Bare.f k x = some r →
    Calls Try.prog 17 #[.agg #[.int .i64 x.f0, .int .i64 x.f1, .string x.f2, .slice A x.f3.length c, .int .i64 x.f4, .int .i64 x.f5]] w fun e w' => ∃ A' c', e = .returned (.agg #[.int .i64 r.f0, .int .i64 r.f1, .string r.f2, .slice A' r.f3.length c', .int .i64 r.f4, .int .i64 r.f5]) ∧ r.f3.length ≤ c' ∧ Kd.F k24 w' (fun q => w.heap.size ≤ q) A' r.f3.length r.f3 ∧ Below w.heap.size w w' := by
  induction k with
  | zero => intro x A c r w _ _ h; exact absurd h (by simp [term_Bare.f])
  | succ k ih =>
  intro x A c r w hA hc h
  have hu := Try.underlying24
  rw [term_Bare.f] at h
  by_cases hl : x.f3.length < 1000000000
  case neg => rw [if_neg hl] at h; exact absurd h (by simp)
  rw [if_pos hl] at h
  obtain ⟨ys, hys, h⟩ := Option.bind_eq_some_iff.mp h
  obtain rfl := Option.some.inj h
  have hlen := term_Bare.len _ _ hys
  have HI := Aside0.mk ih
  have HR := Aside0.mk hA
  have HC := Aside0.mk hc
  have HY := Aside0.mk hys
  have HN := Aside0.mk hl
  have HL := Aside0.mk hlen
  clear ih hA hc hys hl hlen h
  go_enter Try.func17, Try.ntmps17
  clear h
  go_upto_if 16 with (fail)
  go_cut [] (fun wc => ∃ v : Value, Aside0 (wc.heap[w.heap.size]? = some (.cells #[.int .i64 x.f0, .int .i64 x.f1, .string x.f2, .slice A x.f3.length c, .int .i64 x.f4, .int .i64 x.f5] 24 (0, 0))) ∧ Aside0 (wc.heap[w.heap.size + 1]? = some (.cells #[.int .i64 0, .int .i64 0, .string (⟨#[]⟩ : ByteArray), .slice none 0 0, .int .i64 0, .int .i64 0] 24 (0, 0))) ∧ Aside0 (wc.heap[w.heap.size + 1 + 1]? = some (.cells #[.int .i64 x.f0, .int .i64 x.f1, .string x.f2, v, .int .i64 0, .int .i64 0] 24 (0, 0))) ∧ Aside0 (Kd.N k24 24 wc (w.heap.size + 3) (fun q => w.heap.size + 3 ≤ q) v (List.replicate x.f3.length z24)) ∧ Aside0 (Below w.heap.size w wc))
  case first =>
    obtain ⟨W2, hW2⟩ : ∃ W2 : World, W2 = ((w.alloc (.cells #[.int .i64 x.f0, .int .i64 x.f1, .string x.f2, .slice A x.f3.length c, .int .i64 x.f4, .int .i64 x.f5] 24)).alloc (.cells #[.int .i64 0, .int .i64 0, .string (⟨#[]⟩ : ByteArray), .slice none 0 0, .int .i64 0, .int .i64 0] 24)).alloc (.cells #[.int .i64 x.f0, .int .i64 x.f1, .string x.f2, .slice none 0 0, .int .i64 0, .int .i64 0] 24) := ⟨_, rfl⟩
    have hsz : W2.heap.size = w.heap.size + 3 := by rw [hW2]; simp
    have h0 : W2.heap[w.heap.size]? = some (.cells #[.int .i64 x.f0, .int .i64 x.f1, .string x.f2, .slice A x.f3.length c, .int .i64 x.f4, .int .i64 x.f5] 24 (0, 0)) := by rw [hW2]; exact blk_alloc (blk_alloc (blk_new _ _) _) _
    have h1 : W2.heap[w.heap.size + 1]? = some (.cells #[.int .i64 0, .int .i64 0, .string (⟨#[]⟩ : ByteArray), .slice none 0 0, .int .i64 0, .int .i64 0] 24 (0, 0)) := by rw [hW2]; exact blk_alloc (by have h := blk_new (w.alloc (.cells #[.int .i64 x.f0, .int .i64 x.f1, .string x.f2, .slice A x.f3.length c, .int .i64 x.f4, .int .i64 x.f5] 24)) (.cells #[.int .i64 0, .int .i64 0, .string (⟨#[]⟩ : ByteArray), .slice none 0 0, .int .i64 0, .int .i64 0] 24); rwa [show (w.alloc (.cells #[.int .i64 x.f0, .int .i64 x.f1, .string x.f2, .slice A x.f3.length c, .int .i64 x.f4, .int .i64 x.f5] 24)).heap.size = w.heap.size + 1 by simp] at h) _
    have h2 : W2.heap[w.heap.size + 1 + 1]? = some (.cells #[.int .i64 x.f0, .int .i64 x.f1, .string x.f2, .slice none 0 0, .int .i64 0, .int .i64 0] 24 (0, 0)) := by rw [hW2]; have h := blk_new ((w.alloc (.cells #[.int .i64 x.f0, .int .i64 x.f1, .string x.f2, .slice A x.f3.length c, .int .i64 x.f4, .int .i64 x.f5] 24)).alloc (.cells #[.int .i64 0, .int .i64 0, .string (⟨#[]⟩ : ByteArray), .slice none 0 0, .int .i64 0, .int .i64 0] 24)) (.cells #[.int .i64 x.f0, .int .i64 x.f1, .string x.f2, .slice none 0 0, .int .i64 0, .int .i64 0] 24); rwa [show ((w.alloc (.cells #[.int .i64 x.f0, .int .i64 x.f1, .string x.f2, .slice A x.f3.length c, .int .i64 x.f4, .int .i64 x.f5] 24)).alloc (.cells #[.int .i64 0, .int .i64 0, .string (⟨#[]⟩ : ByteArray), .slice none 0 0, .int .i64 0, .int .i64 0] 24)).heap.size = w.heap.size + 1 + 1 by simp] at h
    have hb : Below w.heap.size w W2 := by rw [hW2]; exact below_alloc (below_alloc (below_alloc (Below.refl _ _) _) _) _
    rw [← hW2]
    have H0 := Aside0.mk h0
    have H1 := Aside0.mk h1
    have H2 := Aside0.mk h2
    have HB := Aside0.mk hb
    have HZ := Aside0.mk hsz
    have x3 : W2.cell? ⟨w.heap.size, 3, none⟩ = some (.slice A x.f3.length c) := (blk_cell h0 3).trans rfl
    clear hW2 h0 h1 h2 hb hsz
    by_cases hn : 0 < x.f3.length
    · have hd : decide (0 < x.f3.length) = true := decide_eq_true hn
      rw [hd]
      have p0 : 0 ≤ (x.f3.length : Int) := by omega
      go_wp2_with ((with_reducible refine gate_dst (N := 20) rfl ?_); refine Kd.N_make k24 (w0 := W2) (w.heap.size + 3) 24 rfl (N' := 20) rfl 22 _ _ rfl (x.f3.length : Int) rfl rfl Try.underlying22 (.agg #[(.int .i64 0), (.int .i64 0), (.string ⟨#[]⟩), (.slice none 0 0), (.int .i64 0), (.int .i64 0)]) 72 info24 rfl (by decide) (by omega) z24 (ok := fun q => w.heap.size + 3 ≤ q) (okp := fun _ => False) (k24_mkF _ _ z24 (Nat.le_refl _) (Kd.F_nil _ _ _)) (fun _ hk => hk.elim) (by have := HZ.out; omega) p0 (by have := HN.out; omega) (Below.refl _ _) (by have := HZ.out; omega) ?_; intro v1 w1 hn1 hb1 hg1 hat1; (obtain ⟨A7, c7, e7⟩ := Kd.N_slice hn1); subst e7; rw [List.length_replicate, Int.toNat_natCast] at hn1; (have HN1 := Aside0.mk hn1); (have HB1 := Aside0.mk (HB.out.trans (hb1.mono (by omega)))); (have k0 := blk_grown H0.out hg1 (by simp)); (have k1 := blk_grown H1.out hg1 (by simp)); (have k2 := blk_grown H2.out hg1 (by simp)); (have f2 : w1.frozen? ⟨w.heap.size + 1 + 1, 3, none⟩ = false := blk_frozen k2 3); (have y2 : w1.cell? ⟨w.heap.size + 1 + 1, 3, none⟩ = some (.slice none 0 0) := (blk_cell k2 3).trans rfl); (have K0 := Aside0.mk k0); (have K1 := Aside0.mk k1); (have K2 := Aside0.mk k2); clear hn1 hb1 hg1 hat1 k0 k1 k2)
      go_meet
      case rel => exact ⟨_, ⟨blk_far (p := ⟨w.heap.size + 1 + 1, 3, none⟩) K0.out (show w.heap.size ≠ w.heap.size + 1 + 1 by omega) _⟩, ⟨blk_far (p := ⟨w.heap.size + 1 + 1, 3, none⟩) K1.out (show w.heap.size + 1 ≠ w.heap.size + 1 + 1 by omega) _⟩, ⟨blk_put K2.out 3 _ rfl⟩, ⟨Kd.N_far (p := ⟨w.heap.size + 1 + 1, 3, none⟩) HN1.out (fun k hk => show k ≠ w.heap.size + 1 + 1 by have := hk; omega) _⟩, ⟨below_set HB1.out (show w.heap.size ≤ w.heap.size + 1 + 1 by omega)⟩⟩
    · have hd : decide (0 < x.f3.length) = false := decide_eq_false hn
      rw [hd]
      go_wp2
      go_meet
      case rel => exact ⟨_, H0, H1, H2, ⟨by rw [show x.f3.length = 0 by omega]; exact Kd.N_nil _ _ _ _ _⟩, HB⟩
  case rest =>
    obtain ⟨v, H0, H1, H2, HV, HB⟩ := hcut
    have x3 : wc.cell? ⟨w.heap.size, 3, none⟩ = some (.slice A x.f3.length c) := (blk_cell H0.out 3).trans rfl
    go_wp2
    go_loopg [25] x.f3.length (fun q v25 w' => ∃ (j : Nat) (v : Value), v25 = .int .i64 (j : Int) ∧ j + q = x.f3.length ∧ Aside0 (w'.heap[w.heap.size + 1]? = some (.cells #[.int .i64 0, .int .i64 0, .string (⟨#[]⟩ : ByteArray), .slice none 0 0, .int .i64 0, .int .i64 0] 24 (0, 0))) ∧ Aside0 (w'.heap[w.heap.size + 1 + 1]? = some (.cells #[.int .i64 x.f0, .int .i64 x.f1, .string x.f2, v, .int .i64 0, .int .i64 0] 24 (0, 0))) ∧ Aside0 (Kd.N k24 24 w' (w.heap.size + 3) (fun q => w.heap.size + 3 ≤ q) v (ys.take j ++ List.replicate q z24)) ∧ Aside0 (Below w.heap.size w w'))
    case atStart => exact ⟨0, v, rfl, by omega, H1, H2, ⟨by rw [List.take_zero, List.nil_append]; exact HV.out⟩, HB⟩
    case round =>
      clear H0 H1 H2 HV HB x3
      obtain ⟨j, v, rfl, hjq, H1, H2, HV, HB⟩ := hrel
      have HRr := Aside0.mk (Kd.C_below HR.out HB.out)
      cases gk with
      | zero =>
        obtain rfl : j = x.f3.length := by omega
        have hd : decide ((x.f3.length : Int) < (x.f3.length : Int)) = false := by simp
        obtain ⟨A7, c7, e7⟩ := Kd.N_slice HV.out
        have hlj : (ys.take x.f3.length ++ List.replicate 0 z24) = ys := by rw [← HL.out]; simp
        rw [hlj] at HV e7
        subst e7
        have f0 : wr.frozen? ⟨w.heap.size + 1, 0, none⟩ = false := blk_frozen H1.out 0
        go_wp2_with (first | (refine wpList_load_row rfl 24 (.tmp 3) rfl (w.heap.size + 1 + 1) rfl 24 _ (0, 0) _ H2.out Try.underlying24 rfl (by kernel_rfl) ?_) | (refine term_Bare.put_row (w0 := w) w.heap.size rfl 24 (.tmp 2) (.tmp 37) rfl (w.heap.size + 1) #[.int .i64 x.f0, .int .i64 x.f1, .string x.f2, .slice A7 ys.length c7, .int .i64 0, .int .i64 0] rfl rfl 24 _ H1.out (by kernel_rfl) rfl (by simp [Value.oneCell']) HB.out (by omega) ?_; intro W3 hg3 ho3 hz3 hb3; (have HG3 := Aside0.mk hg3); (have HO3 := Aside0.mk ho3); (have HB3 := Aside0.mk hb3); clear hg3 ho3 hz3 hb3))
        refine bodyPost_ret (results_cell_row rfl _ _ (w.heap.size + 1) 24 _ (0, 0) _ rfl HG3.out Try.underlying24 rfl (by kernel_rfl)) rfl ?_
        have HV3 := Kd.N_step HV.out (fun k hk hlt => HO3.out k (by omega))
        exact ⟨A7, c7, rfl, (Kd.N_reads' HV3).2.1, Kd.F_mono (Kd.N_F HV3) (fun k hk => by omega), HB3.out⟩
      | succ q =>
        have hjn : j < x.f3.length := by omega
        have hjy : j < ys.length := by have := HL.out; omega
        have hd : decide ((j : Int) < (x.f3.length : Int)) = true := decide_eq_true (by omega)
        have p0 : 0 ≤ (j : Int) := by omega
        have p1 : (j : Int) < (x.f3.length : Int) := by omega
        have hcall := term_Bare.at_ _ _ HY.out j hjn hjy
        obtain ⟨ad, A3, c3, e0, m0, m1, m2, m3, m4, m5, hl3, hc3⟩ := at_T24 HRr.out (j : Int) p0 p1
        have hX : rd_T24 x.f3 (j : Int) = x.f3[j] := by unfold rd_T24; simp [List.getD_eq_getElem?_getD, List.getElem?_eq_getElem hjn]
        rw [hX] at m0 m1 m2 m3 m4 m5 hl3 hc3
        clear hX
        obtain ⟨X, hXe⟩ : ∃ X, X = x.f3[j] := ⟨_, rfl⟩
        obtain ⟨Y, hYe⟩ : ∃ Y, Y = ys[j] := ⟨_, rfl⟩
        rw [← hXe, ← hYe] at hcall
        rw [← hXe] at m0 m1 m2 m3 m4 m5 hl3 hc3
        clear hXe
        have hset : ys.take (j + 1) ++ List.replicate q z24 = (ys.take j ++ List.replicate (q + 1) z24).set j Y := by
          rw [hYe, List.take_succ_eq_append_getElem hjy, List.replicate_succ, List.set_append_right _ _ (by simp; omega)]
          rw [List.append_assoc, show j - (ys.take j).length = 0 by simp; omega]
          rfl
        have HSET := Aside0.mk hset
        have hlen : (ys.take j ++ List.replicate (q + 1) z24).length = x.f3.length := by have := HL.out; simp; omega
        subst e0
        rw [Int.toNat_natCast] at m0 m1 m2 m3 m4 m5
        have HLEN := Aside0.mk hlen
        clear hset hlen
        generalize ys.take j ++ List.replicate (q + 1) z24 = xs at HSET HLEN HV
        have HCL := Aside0.mk hcall
        have HL3 := Aside0.mk hl3
        have HC3 := Aside0.mk hc3
        clear hcall hl3 hc3 hYe
        go_upto_region 7 with (fail)
        obtain ⟨W, hW⟩ : ∃ W : World, W = wr.alloc (.cells #[.int .i64 X.f0, .int .i64 X.f1, .string X.f2, .slice A3 X.f3.length c3, .int .i64 X.f4, .int .i64 X.f5] 24) := ⟨_, rfl⟩
        have hbk : W.heap[wr.heap.size]? = some (.cells #[.int .i64 X.f0, .int .i64 X.f1, .string X.f2, .slice A3 X.f3.length c3, .int .i64 X.f4, .int .i64 X.f5] 24 (0, 0)) := by rw [hW]; exact blk_new _ _
        have hbw : Below wr.heap.size wr W := by rw [hW]; exact below_alloc (Below.refl _ _) _
        rw [← hW]
        have K1 := Aside0.mk (blk_below H1.out hbw)
        have K2 := Aside0.mk (blk_below H2.out hbw)
        have KX := Aside0.mk hbk
        have KV := Aside0.mk (Kd.N_below HV.out hbw)
        have KR := Aside0.mk (Kd.C_below HC3.out hbw)
        have KB := Aside0.mk (below_step HB.out hbw)
        have KZ : Aside0 (w.heap.size + 3 ≤ W.heap.size) := ⟨by have h1 := blk_lt H2.out; rw [hW]; simp; omega⟩
        clear hW hbk hbw H1 H2 HV HB HC3 m0 m1 m2 m3 m4 m5
        refine start_ (n := 7) (S := fun w' => w'.cell? ⟨w.heap.size + 1 + 1, 3, none⟩ = some v ∧ w'.cell? ⟨wr.heap.size, 0, none⟩ = some (.int .i64 X.f0) ∧ w'.cell? ⟨wr.heap.size, 1, none⟩ = some (.int .i64 X.f1) ∧ w'.cell? ⟨wr.heap.size, 2, none⟩ = some (.string X.f2) ∧ w'.cell? ⟨wr.heap.size, 3, none⟩ = some (.slice A3 X.f3.length c3) ∧ w'.cell? ⟨wr.heap.size, 4, none⟩ = some (.int .i64 X.f4) ∧ w'.cell? ⟨wr.heap.size, 5, none⟩ = some (.int .i64 X.f5)) (ds := [6]) #[false, false, false, false, false, false, false] (by kernel_rfl) rfl rfl ⟨(blk_cell K2.out 3).trans rfl, (blk_cell KX.out 0).trans rfl, (blk_cell KX.out 1).trans rfl, (blk_cell KX.out 2).trans rfl, (blk_cell KX.out 3).trans rfl, (blk_cell KX.out 4).trans rfl, (blk_cell KX.out 5).trans rfl⟩ (fun hHeld => ?_)
        refine pure_ (i := 0) (N := some 30) (v := ?_) (a' := ?_) #[true, false, false, false, false, false, false] rfl rfl (by kernel_rfl) (fun _ _ _ h => h) (Or.inl ⟨by rfl, ?_⟩) ?_ ?_
        rotate_left
        · intro w'
          go_simp
          with_reducible rfl
        rotate_left
        · simp only [Act.put, List.setIfInBounds_toArray, List.set_cons_zero, List.set_cons_succ, i64_w, i32_w]
          rfl
        refine pure_ (i := 2) (N := some 32) (v := ?_) (a' := ?_) #[true, false, true, false, false, false, false] rfl rfl (by kernel_rfl) (fun _ _ _ h => h) (Or.inl ⟨by rfl, ?_⟩) ?_ ?_
        rotate_left
        · intro w'
          go_simp
          with_reducible rfl
        rotate_left
        · simp only [Act.put, List.setIfInBounds_toArray, List.set_cons_zero, List.set_cons_succ, i64_w, i32_w]
          rfl
        refine take_ (i := 1) (N := some 31) (v := ?_) (a' := ?_) #[true, true, true, false, false, false, false] rfl rfl (by kernel_rfl) (fun _ _ _ h => h) (Or.inl ⟨by rfl, ?_⟩) hHeld ?_ ?_
        rotate_left
        · rintro w' ⟨s0, s1, s2, s3, s4, s5, s6⟩
          go_simp
          with_reducible rfl
        rotate_left
        · simp only [Act.put, List.setIfInBounds_toArray, List.set_cons_zero, List.set_cons_succ, i64_w, i32_w]
          rfl
        refine take_ (i := 3) (N := some 33) (v := ?_) (a' := ?_) #[true, true, true, true, false, false, false] rfl rfl (by kernel_rfl) (fun _ _ _ h => h) (Or.inl ⟨by rfl, ?_⟩) hHeld ?_ ?_
        rotate_left
        · rintro w' ⟨s0, s1, s2, s3, s4, s5, s6⟩
          go_simp
          with_reducible rfl
        rotate_left
        · simp only [Act.put, List.setIfInBounds_toArray, List.set_cons_zero, List.set_cons_succ, i64_w, i32_w]
          rfl
        refine one_ (i := 4) (N := some 34) #[true, true, true, true, true, false, false] rfl rfl (by kernel_rfl) (by decide) (fun K hK => ?_)
        refine goes_ Try.func17 (by kernel_rfl) rfl #[.agg #[.int .i64 X.f0, .int .i64 X.f1, .string X.f2, .slice A3 X.f3.length c3, .int .i64 X.f4, .int .i64 X.f5]] (by rfl) rfl rfl (by (try simp only [List.map_toArray, List.map_cons, List.map_nil]); first | done | rfl) ?_
        with_reducible refine (HI.out X A3 c3 Y _ (Kd.C_drew KR.out) HL3.out HCL.out).mono ?_
        rintro e w5 ⟨A5, c5, rfl, hc5, hf5, hb5⟩
        refine ⟨_, rfl, ?_⟩
        have hd5 : Below W.heap.size W w5 := (below_drew (Below.refl _ _)).trans hb5
        have J1 := Aside0.mk (blk_below K1.out hd5)
        have J2 := Aside0.mk (blk_below K2.out hd5)
        have JX := Aside0.mk (blk_below KX.out hd5)
        have JV := Aside0.mk (Kd.N_below KV.out hd5)
        have JB := Aside0.mk (below_step KB.out hd5)
        obtain ⟨g, cap, rfl, hgb, hgl, cells, hgc⟩ := Kd.N_form JV.out (by have := HLEN.out; omega)
        obtain ⟨ce, hcl, hFK, hcc, hfr⟩ := Kd.N_elem JV.out z24 (j : Int) p0 (by have := HLEN.out; omega)
        obtain ⟨ua, uc, rfl, _, _⟩ := k24_openF hFK
        have hseg := Kd.N_seg JV.out (j : Int) p0 (by have := HLEN.out; omega) (seg := [.int .i64 Y.f0, .int .i64 Y.f1, .string Y.f2, .slice A5 Y.f3.length c5, .int .i64 Y.f4, .int .i64 Y.f5]) (j := 0) hcl hcc (show 6 ≤ 6 from by decide) (x' := Y) (okp := fun q => W.heap.size ≤ q) (k24_mkF _ _ Y hc5 (Kd.F_mono hf5 (fun k hk => by simpa using hk))) (fun k hk => ⟨by have := KZ.out; omega, by have := blk_lt hgc; have := Kd.N_lt KV.out g rfl; omega⟩)
        simp only [Int.toNat_natCast] at hcc hfr hseg
        have e0 : World.cell? w5 ⟨g, j * 6, none⟩ = some _ := hcc 0 _ rfl
        have e1 : World.cell? w5 ⟨g, j * 6 + 1, none⟩ = some _ := hcc 1 _ rfl
        have e2 : World.cell? w5 ⟨g, j * 6 + 2, none⟩ = some _ := hcc 2 _ rfl
        have e3 : World.cell? w5 ⟨g, j * 6 + 3, none⟩ = some _ := hcc 3 _ rfl
        have e4 : World.cell? w5 ⟨g, j * 6 + 4, none⟩ = some _ := hcc 4 _ rfl
        have e5 : World.cell? w5 ⟨g, j * 6 + 5, none⟩ = some _ := hcc 5 _ rfl
        have f0 : World.frozen? w5 ⟨g, j * 6, none⟩ = false := hfr 0
        have f1 : World.frozen? w5 ⟨g, j * 6 + 1, none⟩ = false := hfr 1
        have f2 : World.frozen? w5 ⟨g, j * 6 + 2, none⟩ = false := hfr 2
        have f3 : World.frozen? w5 ⟨g, j * 6 + 3, none⟩ = false := hfr 3
        have f4 : World.frozen? w5 ⟨g, j * 6 + 4, none⟩ = false := hfr 4
        have f5 : World.frozen? w5 ⟨g, j * 6 + 5, none⟩ = false := hfr 5
        have p2 : (j : Int) < (xs.length : Int) := by have := HLEN.out; omega
        replace p0 := eq_true p0
        replace p2 := eq_true p2
        have HSEG := Aside0.mk hseg
        have HGL := Aside0.mk hgl
        have HGB := Aside0.mk hgb
        have HC5 := Aside0.mk hc5
        have HF5 := Aside0.mk hf5
        clear hcl hcc hfr hFK hseg hgc hgl hgb hb5 hd5 hc5 hf5
        refine hK.out _ _ ⟨(blk_cell J2.out 3).trans rfl, (blk_cell JX.out 0).trans rfl, (blk_cell JX.out 1).trans rfl, (blk_cell JX.out 2).trans rfl, (blk_cell JX.out 3).trans rfl, (blk_cell JX.out 4).trans rfl, (blk_cell JX.out 5).trans rfl⟩ (fun hHeld => ?_)
        clear hK K
        refine norm_ (a' := ?_) ?_ ?_
        rotate_left
        · show Act.put _ (some 34) _ = _
          simp only [Act.put, List.setIfInBounds_toArray, List.set_cons_zero, List.set_cons_succ, i64_w, i32_w]
          rfl
        refine pure_ (i := 5) (N := some 35) (v := ?_) (a' := ?_) #[true, true, true, true, true, true, false] rfl rfl (by kernel_rfl) (fun _ _ _ h => h) (Or.inl ⟨by rfl, ?_⟩) ?_ ?_
        rotate_left
        · intro w'
          go_simp
          with_reducible rfl
        rotate_left
        · simp only [Act.put, List.setIfInBounds_toArray, List.set_cons_zero, List.set_cons_succ, i64_w, i32_w]
          rfl
        refine last_ (i := 6) (N := none) #[true, true, true, true, true, true, true] rfl rfl (by kernel_rfl) (by decide) (fun K hK => ?_)
        refine skip_ (w1 := ?_) (by rfl) rfl ?_ ?_
        rotate_left
        · go_simp
          rfl
        refine hK.out _ _ ?_
        clear hK K
        refine done_ (by kernel_rfl) ?_
        have hw : IntKind.i64.wrap ((j : Int) + 1) = ((j + 1 : Nat) : Int) := by
          have := HN.out
          rw [i64_w]
          unfold Go.RowKit.wrap64
          omega
        go_wp2
        go_roundg q
        case measure => omega
        case rel =>
          refine ⟨j + 1, _, rfl, by omega, ⟨?_⟩, ⟨?_⟩, ⟨by rw [HSET.out]; exact HSEG.out.1⟩, ⟨?_⟩⟩
          · exact blk_grown J1.out HSEG.out.2 (by have := HGB.out; intro e; have := Option.some.inj e; omega)
          · exact blk_grown J2.out HSEG.out.2 (by have := HGB.out; intro e; have := Option.some.inj e; omega)
          · exact JB.out.grown HSEG.out.2 JB.out.size (fun k e => by have := Option.some.inj e; have := HGB.out; omega)

/-! ### term_At: function 20 -/
def term_At.l0 : Nat → List Int → Int → Int → Int → Int → ByteArray → List (S24) → Int → Int → Option (Int × Int × ByteArray × (List (S24)) × Int × Int × Bool)
  | 0, _, _, _, _, _, _, _, _, _ => none
  | k + 1, x8, x9, x10, x116000, x116001, x116002, x116003, x116004, x116005 => if x10 < x9 then (if 0 ≤ x10 then (if x10 < (x8.length : Int) then (if (rd x8 x10) < 0 then (some (0, 0, (⟨#[]⟩ : ByteArray), ([] : List (S24)), 0, 0, false)) else (if (rd x8 x10) ≥ (x116003.length : Int) then (some (0, 0, (⟨#[]⟩ : ByteArray), ([] : List (S24)), 0, 0, false)) else (if 0 ≤ (rd x8 x10) then (if (rd x8 x10) < (x116003.length : Int) then (term_At.l0 k x8 x9 (wrap64 (x10 + 1)) ((rd_T24 x116003 (rd x8 x10)).f0) ((rd_T24 x116003 (rd x8 x10)).f1) ((rd_T24 x116003 (rd x8 x10)).f2) ((rd_T24 x116003 (rd x8 x10)).f3) ((rd_T24 x116003 (rd x8 x10)).f4) ((rd_T24 x116003 (rd x8 x10)).f5)) else (none)) else (none)))) else (none)) else (none)) else (some (x116000, x116001, x116002, x116003, x116004, x116005, true))
def term_At.f (k : Nat) (a0_0 : Int) (a0_1 : Int) (a0_2 : ByteArray) (l0_3 : List (S24)) (a0_4 : Int) (a0_5 : Int) (l1 : List Int) : Option (Int × Int × ByteArray × (List (S24)) × Int × Int × Bool) := term_At.l0 k l1 (l1.length : Int) 0 a0_0 a0_1 a0_2 l0_3 a0_4 a0_5
theorem term_At.mono_l : ∀ k, (∀ y0 y1 y2 y3 y4 y5 y6 y7 y8, LeO (term_At.l0 k y0 y1 y2 y3 y4 y5 y6 y7 y8) (term_At.l0 (k + 1) y0 y1 y2 y3 y4 y5 y6 y7 y8))
  | 0 => fun _ _ _ _ _ _ _ _ _ r h => by simp [term_At.l0] at h
  | k + 1 => by
    have ih0 := term_At.mono_l k
    · intro y0 y1 y2 y3 y4 y5 y6 y7 y8
      unfold term_At.l0
      repeat' first
      | (with_reducible exact ih0 _ _ _ _ _ _ _ _ _)
      | (with_reducible exact LeO.refl _)
      | (with_reducible exact LeO.none _)
      | (with_reducible refine LeO.ite ?_ ?_)
      | (with_reducible refine LeO.bind ?_ (fun _ => ?_))
      | exact ih0 _ _ _ _ _ _ _ _ _
      | exact LeO.none _
      | refine LeO.ite ?_ ?_
      | refine LeO.bind ?_ (fun _ => ?_)
theorem term_At.mono : ∀ a0 a1 a2 a3 a4 a5 a6 k, LeO (term_At.f k a0 a1 a2 a3 a4 a5 a6) (term_At.f (k + 1) a0 a1 a2 a3 a4 a5 a6) := by
  intro a0 a1 a2 a3 a4 a5 a6 k
  have ih0 := term_At.mono_l k
  unfold term_At.f
  repeat' first
      | (with_reducible exact ih0 _ _ _ _ _ _ _ _ _)
      | (with_reducible exact LeO.refl _)
      | (with_reducible exact LeO.none _)
      | (with_reducible refine LeO.ite ?_ ?_)
      | (with_reducible refine LeO.bind ?_ (fun _ => ?_))
      | exact ih0 _ _ _ _ _ _ _ _ _
      | exact LeO.none _
      | refine LeO.ite ?_ ?_
      | refine LeO.bind ?_ (fun _ => ?_)
set_option maxHeartbeats 8000000 in
set_option maxRecDepth 100000 in
theorem term_At.calls (k : Nat) (a0_0 : Int) (a0_1 : Int) (a0_2 : ByteArray) (P0_3_ : Nat → Prop) (A0_3 : Option Addr) (c0_3 : Nat) (l0_3 : List (S24)) (a0_4 : Int) (a0_5 : Int) (A1 : Option Addr) (c1 : Nat) (l1 : List Int) (r1 : Int) (r2 : Int) (r3 : ByteArray) (r4 : List (S24)) (r5 : Int) (r6 : Int) (r7 : Bool) (w : World) (hs0_3 : Kd.V k24 24 w w.heap.size (fun k_ => P0_3_ k_) (.slice A0_3 l0_3.length c0_3) l0_3) (hr1 : Kd.C (Kd.int .i64) w A1 l1.length l1) (hc1 : l1.length ≤ c1) (h : term_At.f k a0_0 a0_1 a0_2 l0_3 a0_4 a0_5 l1 = some (r1, r2, r3, r4, r5, r6, r7)) :
    Calls Try.prog 20 #[.agg #[.int .i64 a0_0, .int .i64 a0_1, .string a0_2, .slice A0_3 l0_3.length c0_3, .int .i64 a0_4, .int .i64 a0_5], .slice A1 l1.length c1] w fun e w' => ∃ v3_ : Value, e = .returned (.tuple #[.agg #[.int .i64 r1, .int .i64 r2, .string r3, v3_, .int .i64 r5, .int .i64 r6], .bool r7]) ∧ Kd.V k24 24 w' w.heap.size (fun k_ => (P0_3_ k_ ∨ w.heap.size ≤ k_)) v3_ r4 ∧ Below w.heap.size w w' := by
  have hu24 := Try.underlying24
  have HO0_3 := Aside0.mk (show Kd.V k24 24 w w.heap.size (fun k_ => (P0_3_ k_ ∨ w.heap.size ≤ k_)) (.slice A0_3 l0_3.length c0_3) l0_3 from Kd.V_mono hs0_3 (fun k_ hk => .inl hk))
  have HR1 := Aside0.mk hr1
  have HC1 := Aside0.mk hc1
  clear hr1 hc1
  have HB := Aside0.mk (Below.refl w.heap.size w)
  have H : (term_At.l0 k l1 (l1.length : Int) 0 a0_0 a0_1 a0_2 l0_3 a0_4 a0_5) = some (r1, r2, r3, r4, r5, r6, r7) := h
  clear h
  have H' := Aside0.mk H
  clear H
  go_enter Try.func20, Try.ntmps20
  go_wp2_with (first | ((with_reducible refine gate_dst (N := 2) rfl ?_); (try (refine gate_guard (by rfl) ?_; dsimp only)); refine box_event ?hg (N := 2) ?hd (cs := #[.int .i64 a0_0, .int .i64 a0_1, .string a0_2, .slice A0_3 l0_3.length c0_3, .int .i64 a0_4, .int .i64 a0_5]) (t := 24) ?hr ?_; (case hd => rfl); (case hg => rfl); (case hr => first | (go_simp; done) | (go_simp; rfl) | (go_simp; simp only [IntKind.wrap_u8, IntKind.wrap_u32, (fun x => Int.tmod_eq_emod_of_nonneg (Int.emod_nonneg x (by decide)) : ∀ x : Int, (x % 4294967296).tmod 256 = x % 4294967296 % 256), Int.emod_emod_of_dvd _ (show (256 : Int) ∣ 4294967296 by decide), Int.emod_emod]; done) | (go_simp; simp only [IntKind.wrap_u8, IntKind.wrap_u32, (fun x => Int.tmod_eq_emod_of_nonneg (Int.emod_nonneg x (by decide)) : ∀ x : Int, (x % 4294967296).tmod 256 = x % 4294967296 % 256), Int.emod_emod_of_dvd _ (show (256 : Int) ∣ 4294967296 by decide), Int.emod_emod]; rfl)); intro gb115 hg w3 hbox hb; have n0_ := Aside0.mk (Kd.V_below (Kd.V_elderB (by (with_reducible repeat (first | apply Kd.V_alloc | apply Kd.V_drewN | apply Kd.V_drew)); exact HO0_3.out) gb115 (Nat.le_of_eq hg.symm)) hb); have n1_ := Aside0.mk (below_step (by repeat (first | (with_reducible first | exact HB.out | apply below_alloc | apply pw_below_drewN | apply below_drew1) | exact HB.out)) hb); have n2_ := Aside0.mk (hbox); have n3_ := Aside0.mk ((by rw [hg]; exact (below_size (by repeat (first | (with_reducible first | exact HB.out | apply below_alloc | apply pw_below_drewN | apply below_drew1) | exact HB.out))) : w.heap.size ≤ gb115)); have n4_ := Aside0.mk ((by rw [hg]; exact (below_size (by repeat (first | (with_reducible first | exact HB.out | apply below_alloc | apply pw_below_drewN | apply below_drew1) | exact HB.out))) : w.heap.size ≤ gb115)); clear HO0_3; clear HB; have HO0_3 := n0_; have HB := n1_; have BK115 := n2_; have GW115 := n3_; have GE115 := n4_; clear n0_ n1_ n2_ n3_ n4_; clear hb hbox hg) | ((with_reducible refine gate_dst (N := 4) rfl ?_); (try (refine gate_guard (by rfl) ?_; dsimp only)); refine box_event ?hg (N := 4) ?hd (cs := #[.int .i64 0, .int .i64 0, .string (⟨#[]⟩ : ByteArray), .slice none 0 0, .int .i64 0, .int .i64 0]) (t := 24) ?hr ?_; (case hd => rfl); (case hg => rfl); (case hr => first | (go_simp; done) | (go_simp; rfl) | (go_simp; simp only [IntKind.wrap_u8, IntKind.wrap_u32, (fun x => Int.tmod_eq_emod_of_nonneg (Int.emod_nonneg x (by decide)) : ∀ x : Int, (x % 4294967296).tmod 256 = x % 4294967296 % 256), Int.emod_emod_of_dvd _ (show (256 : Int) ∣ 4294967296 by decide), Int.emod_emod]; done) | (go_simp; simp only [IntKind.wrap_u8, IntKind.wrap_u32, (fun x => Int.tmod_eq_emod_of_nonneg (Int.emod_nonneg x (by decide)) : ∀ x : Int, (x % 4294967296).tmod 256 = x % 4294967296 % 256), Int.emod_emod_of_dvd _ (show (256 : Int) ∣ 4294967296 by decide), Int.emod_emod]; rfl)); intro gb116 hg w4 hbox hb; have n0_ := Aside0.mk (Kd.V_below (Kd.V_elderB (by (with_reducible repeat (first | apply Kd.V_alloc | apply Kd.V_drewN | apply Kd.V_drew)); exact HO0_3.out) gb116 (Nat.le_of_eq hg.symm)) hb); have n1_ := Aside0.mk (blk_below (g := gb115) (o := .cells #[.int .i64 a0_0, .int .i64 a0_1, .string a0_2, .slice A0_3 l0_3.length c0_3, .int .i64 a0_4, .int .i64 a0_5] 24 (0, 0)) (by (with_reducible repeat (first | refine blk_drewN ?_ _ | refine blk_drew ?_ | refine blk_alloc ?_ _)); exact BK115.out) hb); have n2_ := Aside0.mk (below_step (by repeat (first | (with_reducible first | exact HB.out | apply below_alloc | apply pw_below_drewN | apply below_drew1 | refine below_set ?_ GE115.out) | exact HB.out)) hb); have n3_ := Aside0.mk (hbox); have n4_ := Aside0.mk ((by rw [hg]; exact (below_size (by repeat (first | (with_reducible first | exact HB.out | apply below_alloc | apply pw_below_drewN | apply below_drew1 | refine below_set ?_ GE115.out) | exact HB.out))) : w.heap.size ≤ gb116)); have n5_ := Aside0.mk ((by rw [hg]; exact (below_size (by repeat (first | (with_reducible first | exact HB.out | apply below_alloc | apply pw_below_drewN | apply below_drew1 | refine below_set ?_ GE115.out) | exact HB.out))) : w.heap.size ≤ gb116)); have n6_ := Aside0.mk ((by rw [hg]; exact Nat.ne_of_lt (blk_lt (g := gb115) (o := .cells #[.int .i64 a0_0, .int .i64 a0_1, .string a0_2, .slice A0_3 l0_3.length c0_3, .int .i64 a0_4, .int .i64 a0_5] 24 (0, 0)) (by (with_reducible repeat (first | refine blk_drewN ?_ _ | refine blk_drew ?_ | refine blk_alloc ?_ _)); exact BK115.out)) : gb115 ≠ gb116)); have n7_ := Aside0.mk ((by rw [hg]; exact Nat.ne_of_gt (blk_lt (g := gb115) (o := .cells #[.int .i64 a0_0, .int .i64 a0_1, .string a0_2, .slice A0_3 l0_3.length c0_3, .int .i64 a0_4, .int .i64 a0_5] 24 (0, 0)) (by (with_reducible repeat (first | refine blk_drewN ?_ _ | refine blk_drew ?_ | refine blk_alloc ?_ _)); exact BK115.out)) : gb116 ≠ gb115)); clear HO0_3; clear BK115; clear HB; have HO0_3 := n0_; have BK115 := n1_; have HB := n2_; have BK116 := n3_; have GW116 := n4_; have GE116 := n5_; have NB115_116 := n6_; have NB116_115 := n7_; clear n0_ n1_ n2_ n3_ n4_ n5_ n6_ n7_; clear hb hbox hg))
  go_loopg [10] k (fun kq v10 w' => ∃ (x10_1 : Int) (x116000_1 : Int) (x116001_1 : Int) (x116002_1 : ByteArray) (x116003_1 : List (S24)) (x116004_1 : Int) (x116005_1 : Int) (x117000_1 : Int) (x117001_1 : Int) (x117002_1 : ByteArray) (x117004_1 : Int) (x117005_1 : Int) (u116003 : Value), v10 = .int .i64 x10_1 ∧ Aside0 (term_At.l0 kq l1 (l1.length : Int) x10_1 x116000_1 x116001_1 x116002_1 x116003_1 x116004_1 x116005_1 = some (r1, r2, r3, r4, r5, r6, r7)) ∧ Aside0 (kq ≤ k) ∧ Aside0 (Kd.V k24 24 w' w.heap.size (fun k_ => (P0_3_ k_ ∨ w.heap.size ≤ k_) ∧ k_ ≠ gb115 ∧ k_ ≠ gb116) u116003 x116003_1) ∧ Aside0 (w'.heap[gb115]? = some (.cells #[.int .i64 x116000_1, .int .i64 x116001_1, .string x116002_1, u116003, .int .i64 x116004_1, .int .i64 x116005_1] 24 (0, 0))) ∧ Aside0 (w'.heap[gb116]? = some (.cells #[.int .i64 x117000_1, .int .i64 x117001_1, .string x117002_1, (.slice none 0 0), .int .i64 x117004_1, .int .i64 x117005_1] 24 (0, 0))) ∧ Aside0 (Below w.heap.size w w'))
  case atStart => exact ⟨(0), (a0_0), (a0_1), (a0_2), (l0_3), (a0_4), (a0_5), (0), (0), ((⟨#[]⟩ : ByteArray)), (0), (0), (.slice A0_3 l0_3.length c0_3), (by first | rfl | (simp; done) | (simp [*]; done)), H', ⟨Nat.le_refl _⟩, ⟨by (with_reducible repeat (first | apply Kd.V_alloc | apply Kd.V_drewN | apply Kd.V_drew)); exact Kd.V_mono HO0_3.out (fun _ hk => ⟨hk.1.1, ⟨hk.1.2, hk.2⟩⟩)⟩, ⟨by (with_reducible repeat (first | refine blk_drewN ?_ _ | refine blk_drew ?_ | refine blk_alloc ?_ _)); exact BK115.out⟩, ⟨by (with_reducible repeat (first | refine blk_drewN ?_ _ | refine blk_drew ?_ | refine blk_alloc ?_ _)); exact BK116.out⟩, ⟨by repeat (first | (with_reducible first | exact HB.out | apply below_alloc | apply pw_below_drewN | apply below_drew1 | refine below_set ?_ GE115.out | refine below_set ?_ GE116.out) | exact HB.out)⟩⟩
  case round =>
    clear H'
    try clear c1
    try clear c2
    try clear p2
    obtain ⟨x10_1, x116000_1, x116001_1, x116002_1, x116003_1, x116004_1, x116005_1, x117000_1, x117001_1, x117002_1, x117004_1, x117005_1, u116003, rfl, HA, HK1, HO_116003, BK115, BK116, HB⟩ := hrel
    cases gk with
    | zero => exact absurd HA.out (by simp [term_At.l0])
    | succ k1 =>
      have H := HA.out
      clear HA
      simp only [term_At.l0] at H
      by_cases c5 : x10_1 < (l1.length : Int)
      · rw [if_pos c5] at H
        have c5b0 : decide (x10_1 < (l1.length : Int)) = true := decide_eq_true c5
        clear c5
        by_cases c6 : 0 ≤ x10_1
        · rw [if_pos c6] at H
          have c6b0 : decide (0 ≤ x10_1) = true := decide_eq_true c6
          clear c6
          by_cases c7 : x10_1 < (l1.length : Int)
          · rw [if_pos c7] at H
            have c7b0 : decide (x10_1 < (l1.length : Int)) = true := decide_eq_true c7
            clear c7
            by_cases c8 : (rd l1 x10_1) < 0
            · rw [if_pos c8] at H
              have c8b0 : decide ((rd l1 x10_1) < 0) = true := decide_eq_true c8
              clear c8
              simp only [Option.some.injEq, Prod.mk.injEq] at H
              obtain ⟨rfl, rfl, rfl, rfl, rfl, rfl, rfl⟩ := H
              have p117 : 0 ≤ (x10_1 : Int) := of_decide_eq_true (by first | (with_reducible assumption) | assumption)
              have q117 : x10_1 < (l1.length : Int) := of_decide_eq_true (by first | (with_reducible assumption) | assumption)
              obtain ⟨ad117, e117, hx117_0⟩ := Kd.at_int HR1.out x10_1 p117 q117
              cases e117
              replace hx117_0 := (HB.out.cell (World.block_lt_of_cell? w _ hx117_0)).trans hx117_0
              replace p117 := eq_true p117
              replace q117 := eq_true q117
              have hnb9 := NB116_115.out
              have hnc9 := NB115_116.out
              have hcz10_0 : wr.cell? ⟨gb116, 0, none⟩ = some (.int .i64 x117000_1) := (blk_cell BK116.out 0).trans rfl
              have hcz10_1 : wr.cell? ⟨gb116, 1, none⟩ = some (.int .i64 x117001_1) := (blk_cell BK116.out 1).trans rfl
              have hcz10_2 : wr.cell? ⟨gb116, 2, none⟩ = some (.string x117002_1) := (blk_cell BK116.out 2).trans rfl
              have hcz10_3 : wr.cell? ⟨gb116, 3, none⟩ = some (.slice none 0 0) := (blk_cell BK116.out 3).trans rfl
              have hcz10_4 : wr.cell? ⟨gb116, 4, none⟩ = some (.int .i64 x117004_1) := (blk_cell BK116.out 4).trans rfl
              have hcz10_5 : wr.cell? ⟨gb116, 5, none⟩ = some (.int .i64 x117005_1) := (blk_cell BK116.out 5).trans rfl
              have hfz10_0 := blk_frozen BK116.out 0
              have hfz10_1 := blk_frozen BK116.out 1
              have hfz10_2 := blk_frozen BK116.out 2
              have hfz10_3 := blk_frozen BK116.out 3
              have hfz10_4 := blk_frozen BK116.out 4
              have hfz10_5 := blk_frozen BK116.out 5
              go_wp2
              refine bodyPost_ret (results_ct rfl _ _ gb116 24 #[.int .i64 0, .int .i64 0, .string (⟨#[]⟩ : ByteArray), .slice none 0 0, .int .i64 0, .int .i64 0] (0, 0) _ rfl (by (with_reducible repeat (first | refine blk_drewN ?_ _ | refine blk_drew ?_ | refine blk_alloc ?_ _)); refine blk_put (cs := #[.int .i64 0, .int .i64 0, .string (⟨#[]⟩ : ByteArray), .slice none 0 0, .int .i64 0, .int .i64 x117005_1]) ?_ 5 _ rfl; (with_reducible repeat (first | refine blk_drewN ?_ _ | refine blk_drew ?_ | refine blk_alloc ?_ _)); refine blk_put (cs := #[.int .i64 0, .int .i64 0, .string (⟨#[]⟩ : ByteArray), .slice none 0 0, .int .i64 x117004_1, .int .i64 x117005_1]) ?_ 4 _ rfl; (with_reducible repeat (first | refine blk_drewN ?_ _ | refine blk_drew ?_ | refine blk_alloc ?_ _)); refine blk_put (cs := #[.int .i64 0, .int .i64 0, .string (⟨#[]⟩ : ByteArray), .slice none 0 0, .int .i64 x117004_1, .int .i64 x117005_1]) ?_ 3 _ rfl; (with_reducible repeat (first | refine blk_drewN ?_ _ | refine blk_drew ?_ | refine blk_alloc ?_ _)); refine blk_put (cs := #[.int .i64 0, .int .i64 0, .string x117002_1, .slice none 0 0, .int .i64 x117004_1, .int .i64 x117005_1]) ?_ 2 _ rfl; (with_reducible repeat (first | refine blk_drewN ?_ _ | refine blk_drew ?_ | refine blk_alloc ?_ _)); refine blk_put (cs := #[.int .i64 0, .int .i64 x117001_1, .string x117002_1, .slice none 0 0, .int .i64 x117004_1, .int .i64 x117005_1]) ?_ 1 _ rfl; (with_reducible repeat (first | refine blk_drewN ?_ _ | refine blk_drew ?_ | refine blk_alloc ?_ _)); refine blk_put (cs := #[.int .i64 x117000_1, .int .i64 x117001_1, .string x117002_1, .slice none 0 0, .int .i64 x117004_1, .int .i64 x117005_1]) ?_ 0 _ rfl; (with_reducible repeat (first | refine blk_drewN ?_ _ | refine blk_drew ?_ | refine blk_alloc ?_ _)); exact BK116.out) Try.underlying24 rfl (by kernel_rfl)) rfl ?_
              exact ⟨_, by first | rfl | (simp [errW_none, errW_some] <;> rfl) | (simp [*, errW_none, errW_some] <;> rfl), (by first | exact Kd.V_nil _ _ _ _ _ | exact Kd.V_mono (Kd.R_V (by first | exact Kd.R_nil _ _ _ _ _ | exact Kd.N_nil _ _ _ _ _ | exact Kd.V_nil _ _ _ _ _ | exact Kd.Q_nil _ _ _ _ _ | exact Kd.S_nil _ _ _ _ _)) (fun k_ hk => by first | exact ⟨(.inr (hk.1)), hk.2⟩ | exact (.inr (hk)))), by repeat (first | (with_reducible first | exact HB.out | apply below_alloc | apply pw_below_drewN | apply below_drew1 | refine below_set ?_ GE115.out | refine below_set ?_ GE116.out) | exact HB.out)⟩
            · rw [if_neg c8] at H
              have c8b0 : decide ((rd l1 x10_1) < 0) = false := decide_eq_false c8
              clear c8
              by_cases c11 : (rd l1 x10_1) ≥ (x116003_1.length : Int)
              · rw [if_pos c11] at H
                have c11b0 : decide ((x116003_1.length : Int) ≤ (rd l1 x10_1)) = true := decide_eq_true c11
                clear c11
                simp only [Option.some.injEq, Prod.mk.injEq] at H
                obtain ⟨rfl, rfl, rfl, rfl, rfl, rfl, rfl⟩ := H
                have p117 : 0 ≤ (x10_1 : Int) := of_decide_eq_true (by first | (with_reducible assumption) | assumption)
                have q117 : x10_1 < (l1.length : Int) := of_decide_eq_true (by first | (with_reducible assumption) | assumption)
                obtain ⟨ad117, e117, hx117_0⟩ := Kd.at_int HR1.out x10_1 p117 q117
                cases e117
                replace hx117_0 := (HB.out.cell (World.block_lt_of_cell? w _ hx117_0)).trans hx117_0
                replace p117 := eq_true p117
                replace q117 := eq_true q117
                have hnb12 := NB115_116.out
                have hnc12 := NB116_115.out
                have hcz13_0 : wr.cell? ⟨gb115, 0, none⟩ = some (.int .i64 x116000_1) := (blk_cell BK115.out 0).trans rfl
                have hcz13_1 : wr.cell? ⟨gb115, 1, none⟩ = some (.int .i64 x116001_1) := (blk_cell BK115.out 1).trans rfl
                have hcz13_2 : wr.cell? ⟨gb115, 2, none⟩ = some (.string x116002_1) := (blk_cell BK115.out 2).trans rfl
                have hcz13_3 : wr.cell? ⟨gb115, 3, none⟩ = some (u116003) := (blk_cell BK115.out 3).trans rfl
                have hcz13_4 : wr.cell? ⟨gb115, 4, none⟩ = some (.int .i64 x116004_1) := (blk_cell BK115.out 4).trans rfl
                have hcz13_5 : wr.cell? ⟨gb115, 5, none⟩ = some (.int .i64 x116005_1) := (blk_cell BK115.out 5).trans rfl
                have hfz13_0 := blk_frozen BK115.out 0
                have hfz13_1 := blk_frozen BK115.out 1
                have hfz13_2 := blk_frozen BK115.out 2
                have hfz13_3 := blk_frozen BK115.out 3
                have hfz13_4 := blk_frozen BK115.out 4
                have hfz13_5 := blk_frozen BK115.out 5
                obtain ⟨Ao14, co14, eo14⟩ := Kd.V_slice HO_116003.out
                subst eo14
                have hcz15_0 : wr.cell? ⟨gb116, 0, none⟩ = some (.int .i64 x117000_1) := (blk_cell BK116.out 0).trans rfl
                have hcz15_1 : wr.cell? ⟨gb116, 1, none⟩ = some (.int .i64 x117001_1) := (blk_cell BK116.out 1).trans rfl
                have hcz15_2 : wr.cell? ⟨gb116, 2, none⟩ = some (.string x117002_1) := (blk_cell BK116.out 2).trans rfl
                have hcz15_3 : wr.cell? ⟨gb116, 3, none⟩ = some (.slice none 0 0) := (blk_cell BK116.out 3).trans rfl
                have hcz15_4 : wr.cell? ⟨gb116, 4, none⟩ = some (.int .i64 x117004_1) := (blk_cell BK116.out 4).trans rfl
                have hcz15_5 : wr.cell? ⟨gb116, 5, none⟩ = some (.int .i64 x117005_1) := (blk_cell BK116.out 5).trans rfl
                have hfz15_0 := blk_frozen BK116.out 0
                have hfz15_1 := blk_frozen BK116.out 1
                have hfz15_2 := blk_frozen BK116.out 2
                have hfz15_3 := blk_frozen BK116.out 3
                have hfz15_4 := blk_frozen BK116.out 4
                have hfz15_5 := blk_frozen BK116.out 5
                go_wp2
                refine bodyPost_ret (results_ct rfl _ _ gb116 24 #[.int .i64 0, .int .i64 0, .string (⟨#[]⟩ : ByteArray), .slice none 0 0, .int .i64 0, .int .i64 0] (0, 0) _ rfl (by (with_reducible repeat (first | refine blk_drewN ?_ _ | refine blk_drew ?_ | refine blk_alloc ?_ _)); refine blk_put (cs := #[.int .i64 0, .int .i64 0, .string (⟨#[]⟩ : ByteArray), .slice none 0 0, .int .i64 0, .int .i64 x117005_1]) ?_ 5 _ rfl; (with_reducible repeat (first | refine blk_drewN ?_ _ | refine blk_drew ?_ | refine blk_alloc ?_ _)); refine blk_put (cs := #[.int .i64 0, .int .i64 0, .string (⟨#[]⟩ : ByteArray), .slice none 0 0, .int .i64 x117004_1, .int .i64 x117005_1]) ?_ 4 _ rfl; (with_reducible repeat (first | refine blk_drewN ?_ _ | refine blk_drew ?_ | refine blk_alloc ?_ _)); refine blk_put (cs := #[.int .i64 0, .int .i64 0, .string (⟨#[]⟩ : ByteArray), .slice none 0 0, .int .i64 x117004_1, .int .i64 x117005_1]) ?_ 3 _ rfl; (with_reducible repeat (first | refine blk_drewN ?_ _ | refine blk_drew ?_ | refine blk_alloc ?_ _)); refine blk_put (cs := #[.int .i64 0, .int .i64 0, .string x117002_1, .slice none 0 0, .int .i64 x117004_1, .int .i64 x117005_1]) ?_ 2 _ rfl; (with_reducible repeat (first | refine blk_drewN ?_ _ | refine blk_drew ?_ | refine blk_alloc ?_ _)); refine blk_put (cs := #[.int .i64 0, .int .i64 x117001_1, .string x117002_1, .slice none 0 0, .int .i64 x117004_1, .int .i64 x117005_1]) ?_ 1 _ rfl; (with_reducible repeat (first | refine blk_drewN ?_ _ | refine blk_drew ?_ | refine blk_alloc ?_ _)); refine blk_put (cs := #[.int .i64 x117000_1, .int .i64 x117001_1, .string x117002_1, .slice none 0 0, .int .i64 x117004_1, .int .i64 x117005_1]) ?_ 0 _ rfl; (with_reducible repeat (first | refine blk_drewN ?_ _ | refine blk_drew ?_ | refine blk_alloc ?_ _)); exact BK116.out) Try.underlying24 rfl (by kernel_rfl)) rfl ?_
                exact ⟨_, by first | rfl | (simp [errW_none, errW_some] <;> rfl) | (simp [*, errW_none, errW_some] <;> rfl), (by first | exact Kd.V_nil _ _ _ _ _ | exact Kd.V_mono (Kd.R_V (by first | exact Kd.R_nil _ _ _ _ _ | exact Kd.N_nil _ _ _ _ _ | exact Kd.V_nil _ _ _ _ _ | exact Kd.Q_nil _ _ _ _ _ | exact Kd.S_nil _ _ _ _ _)) (fun k_ hk => by first | exact ⟨(.inr (hk.1)), hk.2⟩ | exact (.inr (hk)))), by repeat (first | (with_reducible first | exact HB.out | apply below_alloc | apply pw_below_drewN | apply below_drew1 | refine below_set ?_ GE115.out | refine below_set ?_ GE116.out) | exact HB.out)⟩
              · rw [if_neg c11] at H
                have c11b0 : decide ((x116003_1.length : Int) ≤ (rd l1 x10_1)) = false := decide_eq_false c11
                clear c11
                by_cases c16 : 0 ≤ (rd l1 x10_1)
                · rw [if_pos c16] at H
                  have c16b0 : decide (0 ≤ (rd l1 x10_1)) = true := decide_eq_true c16
                  clear c16
                  by_cases c17 : (rd l1 x10_1) < (x116003_1.length : Int)
                  · rw [if_pos c17] at H
                    have c17b0 : decide ((rd l1 x10_1) < (x116003_1.length : Int)) = true := decide_eq_true c17
                    clear c17
                    have H' := Aside0.mk H
                    clear H
                    have p117 : 0 ≤ (x10_1 : Int) := of_decide_eq_true (by first | (with_reducible assumption) | assumption)
                    have q117 : x10_1 < (l1.length : Int) := of_decide_eq_true (by first | (with_reducible assumption) | assumption)
                    obtain ⟨ad117, e117, hx117_0⟩ := Kd.at_int HR1.out x10_1 p117 q117
                    cases e117
                    replace hx117_0 := (HB.out.cell (World.block_lt_of_cell? w _ hx117_0)).trans hx117_0
                    replace p117 := eq_true p117
                    replace q117 := eq_true q117
                    have hnb18 := NB115_116.out
                    have hnc18 := NB116_115.out
                    have hcz19_0 : wr.cell? ⟨gb115, 0, none⟩ = some (.int .i64 x116000_1) := (blk_cell BK115.out 0).trans rfl
                    have hcz19_1 : wr.cell? ⟨gb115, 1, none⟩ = some (.int .i64 x116001_1) := (blk_cell BK115.out 1).trans rfl
                    have hcz19_2 : wr.cell? ⟨gb115, 2, none⟩ = some (.string x116002_1) := (blk_cell BK115.out 2).trans rfl
                    have hcz19_3 : wr.cell? ⟨gb115, 3, none⟩ = some (u116003) := (blk_cell BK115.out 3).trans rfl
                    have hcz19_4 : wr.cell? ⟨gb115, 4, none⟩ = some (.int .i64 x116004_1) := (blk_cell BK115.out 4).trans rfl
                    have hcz19_5 : wr.cell? ⟨gb115, 5, none⟩ = some (.int .i64 x116005_1) := (blk_cell BK115.out 5).trans rfl
                    have hfz19_0 := blk_frozen BK115.out 0
                    have hfz19_1 := blk_frozen BK115.out 1
                    have hfz19_2 := blk_frozen BK115.out 2
                    have hfz19_3 := blk_frozen BK115.out 3
                    have hfz19_4 := blk_frozen BK115.out 4
                    have hfz19_5 := blk_frozen BK115.out 5
                    obtain ⟨Ao20, co20, eo20⟩ := Kd.V_slice HO_116003.out
                    subst eo20
                    have p118 : 0 ≤ ((rd l1 x10_1) : Int) := of_decide_eq_true (by first | (with_reducible assumption) | assumption)
                    have q118 : (rd l1 x10_1) < (x116003_1.length : Int) := of_decide_eq_true (by first | (with_reducible assumption) | assumption)
                    obtain ⟨ad118, A118_3, c118_3, e118, hx118_0, hx118_1, hx118_2, hx118_3, hx118_4, hx118_5, hl118_3, hi118_3⟩ := at_T24 (Kd.V_reads' HO_116003.out).2.2 (rd l1 x10_1) p118 q118
                    cases e118
                    obtain ⟨ce118, hce118, hMe118, hcc118⟩ := Kd.V_get HO_116003.out z24 (rd l1 x10_1) p118 (by first | exact q118 | exact of_decide_eq_true (by first | (with_reducible assumption) | assumption) | (have e_ := (Kd.V_reads' HO_116003.out).1; omega))
                    obtain ⟨ua118_3, uc118_3, rfl, ul118_3, ge118_3⟩ := k24_openF hMe118
                    have hv118_3 := hcc118 3 _ rfl
                    rw [add_field _ _ 3 (by omega)] at hv118_3
                    replace hv118_3 := Option.some.inj (hv118_3.symm.trans hx118_3)
                    injection hv118_3 with hva_ hvn_ hvc_
                    rw [hva_] at ge118_3
                    rw [hvc_] at ul118_3
                    have HL118_3 := Aside0.mk (show Kd.V k24 24 _ w.heap.size _ _ ((rd_T24 x116003_1 (rd l1 x10_1)).f3) from Kd.V_mk ul118_3 ge118_3)
                    clear hva_ hvn_ hvc_ ge118_3 ul118_3
                    clear hcc118 hce118
                    have HR118_3 := Aside0.mk hi118_3
                    have HC118_3 := Aside0.mk hl118_3
                    clear hi118_3 hl118_3
                    replace p118 := eq_true p118
                    replace q118 := eq_true q118
                    go_wp2
                    go_roundg k1
                    case measure => have := HK1.out; omega
                    case rel => exact ⟨(wrap64 (x10_1 + 1)), ((rd_T24 x116003_1 (rd l1 x10_1)).f0), ((rd_T24 x116003_1 (rd l1 x10_1)).f1), ((rd_T24 x116003_1 (rd l1 x10_1)).f2), ((rd_T24 x116003_1 (rd l1 x10_1)).f3), ((rd_T24 x116003_1 (rd l1 x10_1)).f4), ((rd_T24 x116003_1 (rd l1 x10_1)).f5), (x117000_1), (x117001_1), (x117002_1), (x117004_1), (x117005_1), (.slice A118_3 ((rd_T24 x116003_1 (rd l1 x10_1)).f3).length c118_3), (by first | rfl | (simp; done) | (simp [*]; done)), H', ⟨by have := HK1.out; omega⟩, ⟨by (with_reducible repeat (first | apply Kd.V_alloc | apply Kd.V_drewN | apply Kd.V_drew)); exact Kd.V_mono (Kd.V_far (p := ⟨gb115, 5, none⟩) (Kd.V_far (p := ⟨gb115, 4, none⟩) (Kd.V_far (p := ⟨gb115, 3, none⟩) (Kd.V_far (p := ⟨gb115, 2, none⟩) (Kd.V_far (p := ⟨gb115, 1, none⟩) (Kd.V_far (p := ⟨gb115, 0, none⟩) (Kd.V_mono HL118_3.out (fun k_ hk => (⟨hk, hk.2.1⟩ : _ ∧ k_ ≠ gb115))) (fun _ hk => hk.2) (.int .i64 ((rd_T24 x116003_1 (rd l1 x10_1)).f0))) (fun _ hk => hk.2) (.int .i64 ((rd_T24 x116003_1 (rd l1 x10_1)).f1))) (fun _ hk => hk.2) (.string ((rd_T24 x116003_1 (rd l1 x10_1)).f2))) (fun _ hk => hk.2) (.slice A118_3 ((rd_T24 x116003_1 (rd l1 x10_1)).f3).length c118_3)) (fun _ hk => hk.2) (.int .i64 ((rd_T24 x116003_1 (rd l1 x10_1)).f4))) (fun _ hk => hk.2) (.int .i64 ((rd_T24 x116003_1 (rd l1 x10_1)).f5))) (fun _ hk => ⟨hk.1.1, ⟨hk.1.2.1, hk.1.2.2⟩⟩)⟩, ⟨by (with_reducible repeat (first | refine blk_drewN ?_ _ | refine blk_drew ?_ | refine blk_alloc ?_ _)); refine blk_put (cs := #[.int .i64 ((rd_T24 x116003_1 (rd l1 x10_1)).f0), .int .i64 ((rd_T24 x116003_1 (rd l1 x10_1)).f1), .string ((rd_T24 x116003_1 (rd l1 x10_1)).f2), .slice A118_3 ((rd_T24 x116003_1 (rd l1 x10_1)).f3).length c118_3, .int .i64 ((rd_T24 x116003_1 (rd l1 x10_1)).f4), .int .i64 x116005_1]) ?_ 5 _ rfl; (with_reducible repeat (first | refine blk_drewN ?_ _ | refine blk_drew ?_ | refine blk_alloc ?_ _)); refine blk_put (cs := #[.int .i64 ((rd_T24 x116003_1 (rd l1 x10_1)).f0), .int .i64 ((rd_T24 x116003_1 (rd l1 x10_1)).f1), .string ((rd_T24 x116003_1 (rd l1 x10_1)).f2), .slice A118_3 ((rd_T24 x116003_1 (rd l1 x10_1)).f3).length c118_3, .int .i64 x116004_1, .int .i64 x116005_1]) ?_ 4 _ rfl; (with_reducible repeat (first | refine blk_drewN ?_ _ | refine blk_drew ?_ | refine blk_alloc ?_ _)); refine blk_put (cs := #[.int .i64 ((rd_T24 x116003_1 (rd l1 x10_1)).f0), .int .i64 ((rd_T24 x116003_1 (rd l1 x10_1)).f1), .string ((rd_T24 x116003_1 (rd l1 x10_1)).f2), .slice (some ad118) x116003_1.length co20, .int .i64 x116004_1, .int .i64 x116005_1]) ?_ 3 _ rfl; (with_reducible repeat (first | refine blk_drewN ?_ _ | refine blk_drew ?_ | refine blk_alloc ?_ _)); refine blk_put (cs := #[.int .i64 ((rd_T24 x116003_1 (rd l1 x10_1)).f0), .int .i64 ((rd_T24 x116003_1 (rd l1 x10_1)).f1), .string x116002_1, .slice (some ad118) x116003_1.length co20, .int .i64 x116004_1, .int .i64 x116005_1]) ?_ 2 _ rfl; (with_reducible repeat (first | refine blk_drewN ?_ _ | refine blk_drew ?_ | refine blk_alloc ?_ _)); refine blk_put (cs := #[.int .i64 ((rd_T24 x116003_1 (rd l1 x10_1)).f0), .int .i64 x116001_1, .string x116002_1, .slice (some ad118) x116003_1.length co20, .int .i64 x116004_1, .int .i64 x116005_1]) ?_ 1 _ rfl; (with_reducible repeat (first | refine blk_drewN ?_ _ | refine blk_drew ?_ | refine blk_alloc ?_ _)); refine blk_put (cs := #[.int .i64 x116000_1, .int .i64 x116001_1, .string x116002_1, .slice (some ad118) x116003_1.length co20, .int .i64 x116004_1, .int .i64 x116005_1]) ?_ 0 _ rfl; (with_reducible repeat (first | refine blk_drewN ?_ _ | refine blk_drew ?_ | refine blk_alloc ?_ _)); exact BK115.out⟩, ⟨by (with_reducible repeat (first | refine blk_drewN ?_ _ | refine blk_drew ?_ | refine blk_alloc ?_ _)); refine blk_far ?_ NB116_115.out _; (with_reducible repeat (first | refine blk_drewN ?_ _ | refine blk_drew ?_ | refine blk_alloc ?_ _)); refine blk_far ?_ NB116_115.out _; (with_reducible repeat (first | refine blk_drewN ?_ _ | refine blk_drew ?_ | refine blk_alloc ?_ _)); refine blk_far ?_ NB116_115.out _; (with_reducible repeat (first | refine blk_drewN ?_ _ | refine blk_drew ?_ | refine blk_alloc ?_ _)); refine blk_far ?_ NB116_115.out _; (with_reducible repeat (first | refine blk_drewN ?_ _ | refine blk_drew ?_ | refine blk_alloc ?_ _)); refine blk_far ?_ NB116_115.out _; (with_reducible repeat (first | refine blk_drewN ?_ _ | refine blk_drew ?_ | refine blk_alloc ?_ _)); refine blk_far ?_ NB116_115.out _; (with_reducible repeat (first | refine blk_drewN ?_ _ | refine blk_drew ?_ | refine blk_alloc ?_ _)); exact BK116.out⟩, ⟨by repeat (first | (with_reducible first | exact HB.out | apply below_alloc | apply pw_below_drewN | apply below_drew1 | refine below_set ?_ GE115.out | refine below_set ?_ GE116.out) | exact HB.out)⟩⟩
                  · rw [if_neg c17] at H
                    exact absurd H (by simp)
                · rw [if_neg c16] at H
                  exact absurd H (by simp)
          · rw [if_neg c7] at H
            exact absurd H (by simp)
        · rw [if_neg c6] at H
          exact absurd H (by simp)
      · rw [if_neg c5] at H
        have c5b0 : decide (x10_1 < (l1.length : Int)) = false := decide_eq_false c5
        clear c5
        simp only [Option.some.injEq, Prod.mk.injEq] at H
        obtain ⟨rfl, rfl, rfl, rfl, rfl, rfl, rfl⟩ := H
        have hnb21 := NB115_116.out
        have hnc21 := NB116_115.out
        have hcz22_0 : wr.cell? ⟨gb115, 0, none⟩ = some (.int .i64 x116000_1) := (blk_cell BK115.out 0).trans rfl
        have hcz22_1 : wr.cell? ⟨gb115, 1, none⟩ = some (.int .i64 x116001_1) := (blk_cell BK115.out 1).trans rfl
        have hcz22_2 : wr.cell? ⟨gb115, 2, none⟩ = some (.string x116002_1) := (blk_cell BK115.out 2).trans rfl
        have hcz22_3 : wr.cell? ⟨gb115, 3, none⟩ = some (u116003) := (blk_cell BK115.out 3).trans rfl
        have hcz22_4 : wr.cell? ⟨gb115, 4, none⟩ = some (.int .i64 x116004_1) := (blk_cell BK115.out 4).trans rfl
        have hcz22_5 : wr.cell? ⟨gb115, 5, none⟩ = some (.int .i64 x116005_1) := (blk_cell BK115.out 5).trans rfl
        have hfz22_0 := blk_frozen BK115.out 0
        have hfz22_1 := blk_frozen BK115.out 1
        have hfz22_2 := blk_frozen BK115.out 2
        have hfz22_3 := blk_frozen BK115.out 3
        have hfz22_4 := blk_frozen BK115.out 4
        have hfz22_5 := blk_frozen BK115.out 5
        have hcz23_0 : wr.cell? ⟨gb116, 0, none⟩ = some (.int .i64 x117000_1) := (blk_cell BK116.out 0).trans rfl
        have hcz23_1 : wr.cell? ⟨gb116, 1, none⟩ = some (.int .i64 x117001_1) := (blk_cell BK116.out 1).trans rfl
        have hcz23_2 : wr.cell? ⟨gb116, 2, none⟩ = some (.string x117002_1) := (blk_cell BK116.out 2).trans rfl
        have hcz23_3 : wr.cell? ⟨gb116, 3, none⟩ = some (.slice none 0 0) := (blk_cell BK116.out 3).trans rfl
        have hcz23_4 : wr.cell? ⟨gb116, 4, none⟩ = some (.int .i64 x117004_1) := (blk_cell BK116.out 4).trans rfl
        have hcz23_5 : wr.cell? ⟨gb116, 5, none⟩ = some (.int .i64 x117005_1) := (blk_cell BK116.out 5).trans rfl
        have hfz23_0 := blk_frozen BK116.out 0
        have hfz23_1 := blk_frozen BK116.out 1
        have hfz23_2 := blk_frozen BK116.out 2
        have hfz23_3 := blk_frozen BK116.out 3
        have hfz23_4 := blk_frozen BK116.out 4
        have hfz23_5 := blk_frozen BK116.out 5
        obtain ⟨Ao24, co24, eo24⟩ := Kd.V_slice HO_116003.out
        subst eo24
        go_wp2
        refine bodyPost_ret (results_ct rfl _ _ gb116 24 #[.int .i64 x116000_1, .int .i64 x116001_1, .string x116002_1, .slice Ao24 x116003_1.length co24, .int .i64 x116004_1, .int .i64 x116005_1] (0, 0) _ rfl (by (with_reducible repeat (first | refine blk_drewN ?_ _ | refine blk_drew ?_ | refine blk_alloc ?_ _)); refine blk_put (cs := #[.int .i64 x116000_1, .int .i64 x116001_1, .string x116002_1, .slice Ao24 x116003_1.length co24, .int .i64 x116004_1, .int .i64 x117005_1]) ?_ 5 _ rfl; (with_reducible repeat (first | refine blk_drewN ?_ _ | refine blk_drew ?_ | refine blk_alloc ?_ _)); refine blk_put (cs := #[.int .i64 x116000_1, .int .i64 x116001_1, .string x116002_1, .slice Ao24 x116003_1.length co24, .int .i64 x117004_1, .int .i64 x117005_1]) ?_ 4 _ rfl; (with_reducible repeat (first | refine blk_drewN ?_ _ | refine blk_drew ?_ | refine blk_alloc ?_ _)); refine blk_put (cs := #[.int .i64 x116000_1, .int .i64 x116001_1, .string x116002_1, .slice none 0 0, .int .i64 x117004_1, .int .i64 x117005_1]) ?_ 3 _ rfl; (with_reducible repeat (first | refine blk_drewN ?_ _ | refine blk_drew ?_ | refine blk_alloc ?_ _)); refine blk_put (cs := #[.int .i64 x116000_1, .int .i64 x116001_1, .string x117002_1, .slice none 0 0, .int .i64 x117004_1, .int .i64 x117005_1]) ?_ 2 _ rfl; (with_reducible repeat (first | refine blk_drewN ?_ _ | refine blk_drew ?_ | refine blk_alloc ?_ _)); refine blk_put (cs := #[.int .i64 x116000_1, .int .i64 x117001_1, .string x117002_1, .slice none 0 0, .int .i64 x117004_1, .int .i64 x117005_1]) ?_ 1 _ rfl; (with_reducible repeat (first | refine blk_drewN ?_ _ | refine blk_drew ?_ | refine blk_alloc ?_ _)); refine blk_put (cs := #[.int .i64 x117000_1, .int .i64 x117001_1, .string x117002_1, .slice none 0 0, .int .i64 x117004_1, .int .i64 x117005_1]) ?_ 0 _ rfl; (with_reducible repeat (first | refine blk_drewN ?_ _ | refine blk_drew ?_ | refine blk_alloc ?_ _)); exact BK116.out) Try.underlying24 rfl (by kernel_rfl)) rfl ?_
        exact ⟨_, by first | rfl | (simp [errW_none, errW_some] <;> rfl) | (simp [*, errW_none, errW_some] <;> rfl), by (with_reducible repeat (first | apply Kd.V_alloc | apply Kd.V_drewN | apply Kd.V_drew)); exact Kd.V_mono (Kd.V_far (p := ⟨gb116, 5, none⟩) (Kd.V_far (p := ⟨gb116, 4, none⟩) (Kd.V_far (p := ⟨gb116, 3, none⟩) (Kd.V_far (p := ⟨gb116, 2, none⟩) (Kd.V_far (p := ⟨gb116, 1, none⟩) (Kd.V_far (p := ⟨gb116, 0, none⟩) (Kd.V_mono HO_116003.out (fun k_ hk => (⟨hk, hk.2.2⟩ : _ ∧ k_ ≠ gb116))) (fun _ hk => hk.2) (.int .i64 x116000_1)) (fun _ hk => hk.2) (.int .i64 x116001_1)) (fun _ hk => hk.2) (.string x116002_1)) (fun _ hk => hk.2) (.slice Ao24 x116003_1.length co24)) (fun _ hk => hk.2) (.int .i64 x116004_1)) (fun _ hk => hk.2) (.int .i64 x116005_1)) (fun _ hk => hk.1.1), by repeat (first | (with_reducible first | exact HB.out | apply below_alloc | apply pw_below_drewN | apply below_drew1 | refine below_set ?_ GE115.out | refine below_set ?_ GE116.out) | exact HB.out)⟩

/-! ### slices_Clone_Term: function 40 (given) -/
def slices_Clone_Term.f (l : List S24) : Option (List S24) := if l.length < 100000000000 then some l else none
set_option maxHeartbeats 4000000 in
set_option maxRecDepth 100000 in
theorem slices_Clone_Term.calls (P0_ : Nat → Prop) (A0 : Option Addr) (c0 : Nat) (l0 : List S24) (r : List S24) (w : World) (hs0 : Kd.V k24 24 w w.heap.size (fun k_ => P0_ k_) (.slice A0 l0.length c0) l0) (h : slices_Clone_Term.f l0 = some r) :
    Calls Try.prog 40 #[.slice A0 l0.length c0] w fun e w' => ∃ v0_ : Value, e = .returned (v0_) ∧ Kd.N k24 24 w' w.heap.size (fun k_ => (P0_ k_ ∨ w.heap.size ≤ k_)) v0_ r ∧ Below w.heap.size w w' := by
  have hu24 := Try.underlying24
  unfold slices_Clone_Term.f at h
  by_cases hl : l0.length < 100000000000
  case neg => rw [if_neg hl] at h; exact absurd h (by simp)
  rw [if_pos hl] at h
  obtain rfl := Option.some.inj h
  have HR := Aside0.mk (Kd.V_at hs0).2.2
  have HL := Aside0.mk hl
  clear hs0 hl h
  have hk := fun W : World => Lib.run_eql_slice_nil (P := Try.prog) W 22 24 A0 l0.length c0 0 0 Try.underlying22
  cases A0 with
  | none =>
    have h0 : l0 = [] := by
      rcases l0 with _ | ⟨x, l⟩
      · rfl
      · obtain ⟨ad, h, _⟩ := (Kd.F_now HR.out).2.2 (by simp)
        cases h
    subst h0
    clear HR HL
    simp only [Option.isNone_none, List.length_nil] at hk
    go_enter Try.func40, Try.ntmps40
    go_wp2
    go_ret
    exact ⟨_, rfl, Kd.N_nil _ _ _ _ _, Below.refl _ _⟩
  | some ad =>
    simp only [Option.isNone_some] at hk
    go_enter Try.func40, Try.ntmps40
    go_wp2_with (first | ((with_reducible refine gate_dst (N := 5) rfl ?_); refine Kd.R_lit k24 w.heap.size 24 ?hg (N := 5) ?hd (w0 := w) (xs := ([] : List S24)) (inner := []) (ok := fun q => w.heap.size ≤ q) (okp := fun q => w.heap.size ≤ q) ?hr ?hp (fun _ hk => hk) (Nat.le_refl _) (Below.refl _ _) (Nat.le_refl _) (by simp) ?_; (case hd => rfl); (case hg => rfl); (case hr => first | (go_simp; done) | (go_simp; rfl)); (case hp => exact Reps.none _ _); intro v5 w5 ho5 hb5 hg5 hn5; have HO5 := Aside0.mk ho5; have HB5 := Aside0.mk hb5; have HN5 := Aside0.mk hn5; clear ho5 hb5 hg5 hn5) | ((with_reducible refine gate_builtin (b := .append) (xs := #[.tmp 5, .tmp 6]) rfl ?_); at_builtin; refine Kd.N_append_rows k24 (w0 := w) w.heap.size rfl (.tmp 5) (.tmp 6) 22 24 (.agg #[(.int .i64 0), (.int .i64 0), (.string ⟨#[]⟩), (.slice none 0 0), (.int .i64 0), (.int .i64 0)]) 72 rfl Try.underlying22 info24 rfl (by decide) (by omega) v5 [] l0 (some ad) l0.length c0 (fun k_ => P0_ k_ ∨ w.heap.size ≤ k_) (fun k_ => P0_ k_ ∧ k_ < w.heap.size) rfl rfl (Kd.R_N (Kd.R_mono HO5.out (fun _ hq => .inr hq))) (Kd.F_old HR.out HB5.out) (fun k hk => ⟨.inl hk.1, by obtain ⟨b, e, hb⟩ := HN5.out; rw [e]; intro e2; have := Option.some.inj e2; omega⟩) (fun k hk => .inr (Nat.le_trans HB5.out.size hk)) HB5.out HB5.out.size (by have := HL.out; simp; omega) ?_; intro v7 w7 ho7 hb7 hg7 hat7; have HO7 := Aside0.mk ho7; have HB7 := Aside0.mk hb7; clear ho7 hb7 hg7 hat7))
    go_ret
    exact ⟨_, rfl, HO7.out, HB7.out⟩

end Go.Proofs.Ytppeaofdohghgaa.PTm
