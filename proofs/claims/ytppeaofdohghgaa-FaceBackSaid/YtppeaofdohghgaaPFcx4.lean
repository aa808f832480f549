-- PRINTED by print.py (a twelfth state) out of the translation. Not trusted: Lean checks it.
import Derived.Test.YtppeaofdohghgaaPFcx0
namespace Go.Proofs.Ytppeaofdohghgaa.PFc
open Go.RowKit Go.Proofs.YtppeaofdohghgaaW.PrintWords Go.Proofs.YtppeaofdohghgaaW.PrintLast Go.Proofs.YtppeaofdohghgaaW.PrintMore
attribute [local go_sem] max2_int min2_int max_two min_two max_three min_three max_four min_four   -- for this text's walks alone
set_option linter.unusedVariables false
set_option linter.unusedSimpArgs false

/-! ### term_Same: function 26 (given) -/
/-- two lists, element by element -/
def term_Same.eqs (g : S24 → S24 → Option Bool) : List S24 → List S24 → Option Bool
  | x :: xs, y :: ys => (g x y).bind fun c => if c = true then term_Same.eqs g xs ys else some false
  | _, _ => some true
def term_Same.f : Nat → Int → Int → ByteArray → List S24 → Int → Int → Int → Int → ByteArray → List S24 → Int → Int → Option Bool
  | 0, _, _, _, _, _, _, _, _, _, _, _, _ => none
  | k + 1, a0, a1, a2, a3, a4, a5, b0, b1, b2, b3, b4, b5 => if a0 = b0 then (if a1 = b1 then (if a2.toList = b2.toList then (if a3.length = b3.length then term_Same.eqs (fun x y => term_Same.f k x.f0 x.f1 x.f2 x.f3 x.f4 x.f5 y.f0 y.f1 y.f2 y.f3 y.f4 y.f5) a3 b3 else some false) else some false) else some false) else some false
theorem term_Same.eqs_mono {g h : S24 → S24 → Option Bool} (hg : ∀ x y, LeO (g x y) (h x y)) : ∀ xs ys, LeO (term_Same.eqs g xs ys) (term_Same.eqs h xs ys)
  | x :: xs, y :: ys => LeO.bind (hg x y) fun c => LeO.ite (term_Same.eqs_mono hg xs ys) (LeO.refl _)
  | [], _ => LeO.refl _
  | _ :: _, [] => LeO.refl _
theorem term_Same.mono : ∀ a0 a1 a2 a3 a4 a5 b0 b1 b2 b3 b4 b5 k, LeO (term_Same.f k a0 a1 a2 a3 a4 a5 b0 b1 b2 b3 b4 b5) (term_Same.f (k + 1) a0 a1 a2 a3 a4 a5 b0 b1 b2 b3 b4 b5) := by
  intro a0 a1 a2 a3 a4 a5 b0 b1 b2 b3 b4 b5 k
  induction k generalizing a0 a1 a2 a3 a4 a5 b0 b1 b2 b3 b4 b5 with
  | zero => exact fun r h => by simp [term_Same.f] at h
  | succ k ih =>
    rw [term_Same.f, term_Same.f]
    exact LeO.ite (LeO.ite (LeO.ite (LeO.ite (term_Same.eqs_mono (fun x y => ih _ _ _ _ _ _ _ _ _ _ _ _) _ _) (LeO.refl _)) (LeO.refl _)) (LeO.refl _)) (LeO.refl _)
set_option maxHeartbeats 16000000 in
set_option maxRecDepth 100000 in
theorem term_Same.equal (G : Nat) (g : S24 → S24 → Option Bool) (hE : ∀ (x y : Value) (W : World), (callFunc G #[x, y]).run Try.prog W = .ok (.enter G #[x, y]) W)
    (hF : ∀ (x y : S24) (A B : Option Addr) (c d : Nat) (r : Bool) (W : World), k24.C W A x.f3.length x.f3 → x.f3.length ≤ c → k24.C W B y.f3.length y.f3 → y.f3.length ≤ d → g x y = some r →
      Calls Try.prog G #[.agg #[.int .i64 x.f0, .int .i64 x.f1, .string x.f2, .slice A x.f3.length c, .int .i64 x.f4, .int .i64 x.f5], .agg #[.int .i64 y.f0, .int .i64 y.f1, .string y.f2, .slice B y.f3.length d, .int .i64 y.f4, .int .i64 y.f5]] W fun e W' => e = .returned (.bool r) ∧ Below W.heap.size W W')
    (A0 : Option Addr) (c0 : Nat) (l0 : List S24) (A1 : Option Addr) (c1 : Nat) (l1 : List S24) (r : Bool) (w : World) (hr0 : k24.C w A0 l0.length l0) (hc0 : l0.length ≤ c0) (hr1 : k24.C w A1 l1.length l1) (hc1 : l1.length ≤ c1) (h : (if l0.length = l1.length then term_Same.eqs g l0 l1 else some false) = some r) :
    Calls Try.prog 41 #[.slice A0 l0.length c0, .slice A1 l1.length c1, .func (.func G) #[] #[]] w fun e w' => e = .returned (.bool r) ∧ Below w.heap.size w w' := by
  have hu := Try.underlying24
  have HR0 := Aside0.mk hr0
  have HR1 := Aside0.mk hr1
  have HF := Aside0.mk hF
  clear hr0 hr1 hF
  by_cases hl : l0.length = l1.length
  case neg =>
    rw [if_neg hl] at h
    obtain rfl := Option.some.inj h
    have hlb : ((l0.length : Int) != (l1.length : Int)) = true := by simp; omega
    have hlc : (l0.length != l1.length) = true := by simpa using hl
    clear h hl
    go_enter Try.func41, Try.ntmps41
    go_wp2
    go_ret
    exact ⟨rfl, Below.refl _ _⟩
  rw [if_pos hl] at h
  have hlb : ((l0.length : Int) != (l1.length : Int)) = false := by simp; omega
  have hlc : (l0.length != l1.length) = false := by simpa using hl
  have HL := Aside0.mk hl
  have H := Aside0.mk h
  clear h hl
  go_enter Try.func41, Try.ntmps41
  go_wp2
  go_loopg [17] l0.length (fun q v17 w' => ∃ j : Nat, v17 = .int .i64 (j : Int) ∧ j + q = l0.length ∧ Aside0 (term_Same.eqs g (l0.drop j) (l1.drop j) = some r) ∧ Aside0 (Below w.heap.size w w'))
  case atStart => exact ⟨0, rfl, by omega, H, ⟨Below.refl _ _⟩⟩
  case round =>
    clear H
    obtain ⟨j, rfl, hjq, HE, HB⟩ := hrel
    cases gk with
    | zero =>
      obtain rfl : j = l0.length := by omega
      have hd : decide ((l0.length : Int) < (l0.length : Int)) = false := by simp
      have h1 := HE.out
      rw [List.drop_length] at h1
      obtain rfl : true = r := Option.some.inj h1
      clear h1 HE
      go_wp2
      go_ret
      exact ⟨rfl, HB.out⟩
    | succ q =>
      have hjn : j < l0.length := by omega
      have hjm : j < l1.length := by have := HL.out; omega
      have hd : decide ((j : Int) < (l0.length : Int)) = true := decide_eq_true (by omega)
      have p0 : 0 ≤ (j : Int) := by omega
      have p1 : (j : Int) < (l0.length : Int) := by omega
      have p2 : (j : Int) < (l1.length : Int) := by omega
      have h1 := HE.out
      rw [List.drop_eq_getElem_cons hjn, List.drop_eq_getElem_cons hjm, term_Same.eqs] at h1
      obtain ⟨c, hc, h5⟩ := Option.bind_eq_some_iff.mp h1
      clear h1
      obtain ⟨ad, A3, c3, e0, m0, m1, m2, m3, m4, m5, hl3, hc3⟩ := at_T24 (Kd.C_below HR0.out HB.out) (j : Int) p0 p1
      obtain ⟨bd, B3, d3, e1, n0, n1, n2, n3, n4, n5, hm3, hd3⟩ := at_T24 (Kd.C_below HR1.out HB.out) (j : Int) p0 p2
      have hX : rd_T24 l0 (j : Int) = l0[j] := by unfold rd_T24; simp [List.getD_eq_getElem?_getD, List.getElem?_eq_getElem hjn]
      have hY : rd_T24 l1 (j : Int) = l1[j] := by unfold rd_T24; simp [List.getD_eq_getElem?_getD, List.getElem?_eq_getElem hjm]
      rw [hX] at m0 m1 m2 m3 m4 m5 hl3 hc3
      rw [hY] at n0 n1 n2 n3 n4 n5 hm3 hd3
      clear hX hY
      generalize l0[j] = X at *
      generalize l1[j] = Y at *
      subst e0
      subst e1
      rw [Int.toNat_natCast] at m0 m1 m2 m3 m4 m5 n0 n1 n2 n3 n4 n5
      have n0' : ∀ o, (wr.alloc o).cell? (bd.add (j * 6)) = some (.int .i64 Y.f0) := fun o => pw_cell_below (below_alloc (Below.refl _ _) o) n0
      have n1' : ∀ o, (wr.alloc o).cell? ⟨(bd.add (j * 6)).block, (bd.add (j * 6)).off + 1, none⟩ = some (.int .i64 Y.f1) := fun o => pw_cell_below (below_alloc (Below.refl _ _) o) n1
      have n2' : ∀ o, (wr.alloc o).cell? ⟨(bd.add (j * 6)).block, (bd.add (j * 6)).off + 2, none⟩ = some (.string Y.f2) := fun o => pw_cell_below (below_alloc (Below.refl _ _) o) n2
      have n3' : ∀ o, (wr.alloc o).cell? ⟨(bd.add (j * 6)).block, (bd.add (j * 6)).off + 3, none⟩ = some (.slice B3 Y.f3.length d3) := fun o => pw_cell_below (below_alloc (Below.refl _ _) o) n3
      have n4' : ∀ o, (wr.alloc o).cell? ⟨(bd.add (j * 6)).block, (bd.add (j * 6)).off + 4, none⟩ = some (.int .i64 Y.f4) := fun o => pw_cell_below (below_alloc (Below.refl _ _) o) n4
      have n5' : ∀ o, (wr.alloc o).cell? ⟨(bd.add (j * 6)).block, (bd.add (j * 6)).off + 5, none⟩ = some (.int .i64 Y.f5) := fun o => pw_cell_below (below_alloc (Below.refl _ _) o) n5
      clear n0 n1 n2 n3 n4 n5
      have HC := Aside0.mk hc
      have HC3 := Aside0.mk hc3
      have HD3 := Aside0.mk hd3
      have HL3 := Aside0.mk (And.intro hl3 hm3)
      have H1 := Aside0.mk h5
      clear h5 hc hc3 hd3 hl3 hm3 HE
      cases c with
      | false =>
        have h2 := H1.out
        rw [if_neg (by decide)] at h2
        obtain rfl := Option.some.inj h2
        clear h2
        go_wp2_with ((with_reducible refine (HF.out X Y A3 B3 c3 d3 false _ (Kd.C_below HC3.out (by repeat (first | exact Below.refl _ _ | apply below_alloc | apply below_drew))) HL3.out.1 (Kd.C_below HD3.out (by repeat (first | exact Below.refl _ _ | apply below_alloc | apply below_drew))) HL3.out.2 HC.out).mono ?_); rintro e w5 ⟨rfl, hb5⟩; (have HB5 : Aside0 (Below w.heap.size w w5) := ⟨below_step (by repeat (first | exact HB.out | apply below_alloc | apply below_drew)) hb5⟩); clear hb5)
        go_ret
        exact ⟨rfl, HB5.out⟩
      | true =>
        have h2 := H1.out
        rw [if_pos rfl] at h2
        have H2 := Aside0.mk h2
        clear h2
        have hb := HR0.out.2.1
        have hw : IntKind.i64.wrap ((j : Int) + 1) = ((j + 1 : Nat) : Int) := by
          rw [i64_w]
          unfold Go.RowKit.wrap64
          omega
        go_wp2_with ((with_reducible refine (HF.out X Y A3 B3 c3 d3 true _ (Kd.C_below HC3.out (by repeat (first | exact Below.refl _ _ | apply below_alloc | apply below_drew))) HL3.out.1 (Kd.C_below HD3.out (by repeat (first | exact Below.refl _ _ | apply below_alloc | apply below_drew))) HL3.out.2 HC.out).mono ?_); rintro e w5 ⟨rfl, hb5⟩; (have HB5 : Aside0 (Below w.heap.size w w5) := ⟨below_step (by repeat (first | exact HB.out | apply below_alloc | apply below_drew)) hb5⟩); clear hb5)
        go_roundg q
        case rel => exact ⟨j + 1, rfl, by omega, H2, HB5⟩
        case measure => omega
theorem term_Same.goes (x y : Value) (w : World) : (callFunc 26 #[x, y]).run Try.prog w = .ok (.enter 26 #[x, y]) w := by go_simp
set_option maxHeartbeats 16000000 in
set_option maxRecDepth 100000 in
theorem term_Same.calls (k : Nat) : ∀ (a0_0 : Int) (a0_1 : Int) (a0_2 : ByteArray) (A0_3 : Option Addr) (c0_3 : Nat) (l0_3 : List (S24)) (a0_4 : Int) (a0_5 : Int) (a1_0 : Int) (a1_1 : Int) (a1_2 : ByteArray) (A1_3 : Option Addr) (c1_3 : Nat) (l1_3 : List (S24)) (a1_4 : Int) (a1_5 : Int) (r : Bool) (w : World) (hr0_3 : Kd.C k24 w A0_3 l0_3.length l0_3) (hc0_3 : l0_3.length ≤ c0_3) (hr1_3 : Kd.C k24 w A1_3 l1_3.length l1_3) (hc1_3 : l1_3.length ≤ c1_3) (h : term_Same.f k a0_0 a0_1 a0_2 l0_3 a0_4 a0_5 a1_0 a1_1 a1_2 l1_3 a1_4 a1_5 = some r),
    Calls Try.prog 26 #[.agg #[.int .i64 a0_0, .int .i64 a0_1, .string a0_2, .slice A0_3 l0_3.length c0_3, .int .i64 a0_4, .int .i64 a0_5], .agg #[.int .i64 a1_0, .int .i64 a1_1, .string a1_2, .slice A1_3 l1_3.length c1_3, .int .i64 a1_4, .int .i64 a1_5]] w fun e w' => e = .returned (.bool r) ∧ Below w.heap.size w w' := by
  induction k with
  | zero => intro a0_0 a0_1 a0_2 A0_3 c0_3 l0_3 a0_4 a0_5 a1_0 a1_1 a1_2 A1_3 c1_3 l1_3 a1_4 a1_5 r w hr0_3 hc0_3 hr1_3 hc1_3 h; exact absurd h (by simp [term_Same.f])
  | succ k ih =>
  intro a0_0 a0_1 a0_2 A0_3 c0_3 l0_3 a0_4 a0_5 a1_0 a1_1 a1_2 A1_3 c1_3 l1_3 a1_4 a1_5 r w hr0_3 hc0_3 hr1_3 hc1_3 h
  have hu := Try.underlying24
  rw [term_Same.f] at h
  by_cases c0 : a0_0 = a1_0
  case neg =>
    rw [if_neg c0] at h
    obtain rfl := Option.some.inj h
    have c0b : (a0_0 == a1_0) = false := by simpa using c0
    clear h c0 ih
    go_enter Try.func26, Try.ntmps26
    go_wp2
    go_ret
    exact ⟨rfl, below_alloc (below_alloc (Below.refl _ _) _) _⟩
  rw [if_pos c0] at h
  have c0b : (a0_0 == a1_0) = true := by simpa using c0
  clear c0
  by_cases c1 : a0_1 = a1_1
  case neg =>
    rw [if_neg c1] at h
    obtain rfl := Option.some.inj h
    have c1b : (a0_1 == a1_1) = false := by simpa using c1
    clear h c1 ih
    go_enter Try.func26, Try.ntmps26
    go_wp2
    go_ret
    exact ⟨rfl, below_alloc (below_alloc (Below.refl _ _) _) _⟩
  rw [if_pos c1] at h
  have c1b : (a0_1 == a1_1) = true := by simpa using c1
  clear c1
  by_cases c2 : a0_2.toList = a1_2.toList
  case neg =>
    rw [if_neg c2] at h
    obtain rfl := Option.some.inj h
    have c2b : (a0_2.toList == a1_2.toList) = false := by simpa using c2
    clear h c2 ih
    go_enter Try.func26, Try.ntmps26
    go_wp2
    go_ret
    exact ⟨rfl, below_alloc (below_alloc (Below.refl _ _) _) _⟩
  rw [if_pos c2] at h
  have c2b : (a0_2.toList == a1_2.toList) = true := by simpa using c2
  clear c2
  have HI := Aside0.mk ih
  have HR0 := Aside0.mk hr0_3
  have HR1 := Aside0.mk hr1_3
  have H := Aside0.mk h
  clear ih hr0_3 hr1_3 h
  go_enter Try.func26, Try.ntmps26
  go_wp2_with (go_at_call 41; (with_reducible refine (term_Same.equal 26 (fun x y => term_Same.f k x.f0 x.f1 x.f2 x.f3 x.f4 x.f5 y.f0 y.f1 y.f2 y.f3 y.f4 y.f5) term_Same.goes (fun x y A B c d r W hA hc hB hd hg => HI.out _ _ _ A c _ _ _ _ _ _ B d _ _ _ r W hA hc hB hd hg) A0_3 c0_3 l0_3 A1_3 c1_3 l1_3 r _ (Kd.C_below HR0.out (below_alloc (below_alloc (Below.refl _ _) _) _)) hc0_3 (Kd.C_below HR1.out (below_alloc (below_alloc (Below.refl _ _) _) _)) hc1_3 H.out).mono ?_); rintro e w5 ⟨rfl, hb5⟩; (have HB5 : Aside0 (Below w.heap.size w w5) := ⟨below_step (below_alloc (below_alloc (Below.refl _ _) _) _) hb5⟩); clear hb5)
  go_ret
  exact ⟨rfl, HB5.out⟩

-- NOT PRINTED: function 46 (face_alike)

end Go.Proofs.Ytppeaofdohghgaa.PFc
