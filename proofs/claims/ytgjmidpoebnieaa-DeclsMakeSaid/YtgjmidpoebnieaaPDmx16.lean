-- SLIM: a printed text of which the unused ways are cut off
-- PRINTED by print.py (a twelfth state) out of the translation. Not trusted: Lean checks it.
import Derived.Test.YtgjmidpoebnieaaPDmx0
import Derived.Test.YtgjmidpoebnieaaPDmx4
import Derived.Test.YtgjmidpoebnieaaPDmx14
namespace Go.Proofs.Ytgjmidpoebnieaa.PDm
open Go.RowKit Go.Proofs.YtgjmidpoebnieaaW.PrintWords Go.Proofs.YtgjmidpoebnieaaW.PrintLast Go.Proofs.YtgjmidpoebnieaaW.PrintMore
attribute [local go_sem] max2_int min2_int max_two min_two max_three min_three max_four min_four   -- for this text's walks alone
set_option linter.unusedVariables false
set_option linter.unusedSimpArgs false

-- NOT PRINTED: function 41 (api_Term_41)

/-! ### term_Same: function 32 (given) -/
/-- two lists, element by element -/
def term_Same.eqs (g : S24 → S24 → Option Bool) : List S24 → List S24 → Option Bool
  | x :: xs, y :: ys => (g x y).bind fun c => if c = true then term_Same.eqs g xs ys else some false
  | _, _ => some true
def term_Same.f : Nat → Int → Int → ByteArray → List S24 → Int → Int → Int → Int → ByteArray → List S24 → Int → Int → Option Bool
  | 0, _, _, _, _, _, _, _, _, _, _, _, _ => none
  | k + 1, a0, a1, a2, a3, a4, a5, b0, b1, b2, b3, b4, b5 => if a0 = b0 then (if a1 = b1 then (if a2.toList = b2.toList then (if a3.length = b3.length then term_Same.eqs (fun x y => term_Same.f k x.f0 x.f1 x.f2 x.f3 x.f4 x.f5 y.f0 y.f1 y.f2 y.f3 y.f4 y.f5) a3 b3 else some false) else some false) else some false) else some false
theorem term_Same.eqs_mono {g h : S24 → S24 → Option Bool} (hg : ∀ x y, LeO (g x y) (h x y)) : ∀ xs ys, LeO (term_Same.eqs g xs ys) (term_Same.eqs h xs ys)
  | x :: xs, y :: ys => LeO.bind (hg x y) fun c => LeO.ite (term_Same.eqs_mono hg xs ys) (LeO.refl _)
  | [], _ => LeO.refl _
  | _ :: _, [] => LeO.refl _
theorem term_Same.mono : ∀ a0 a1 a2 a3 a4 a5 b0 b1 b2 b3 b4 b5 k, LeO (term_Same.f k a0 a1 a2 a3 a4 a5 b0 b1 b2 b3 b4 b5) (term_Same.f (k + 1) a0 a1 a2 a3 a4 a5 b0 b1 b2 b3 b4 b5) := by
  intro a0 a1 a2 a3 a4 a5 b0 b1 b2 b3 b4 b5 k
  induction k generalizing a0 a1 a2 a3 a4 a5 b0 b1 b2 b3 b4 b5 with
  | zero => exact fun r h => by simp [term_Same.f] at h
  | succ k ih =>
    rw [term_Same.f, term_Same.f]
    exact LeO.ite (LeO.ite (LeO.ite (LeO.ite (term_Same.eqs_mono (fun x y => ih _ _ _ _ _ _ _ _ _ _ _ _) _ _) (LeO.refl _)) (LeO.refl _)) (LeO.refl _)) (LeO.refl _)
set_option maxHeartbeats 16000000 in
set_option maxRecDepth 100000 in
theorem term_Same.equal (G : Nat) (g : S24 → S24 → Option Bool) (hE : ∀ (x y : Value) (W : World), (callFunc G #[x, y]).run Try.prog W = .ok (.enter G #[x, y]) W)
    (hF : ∀ (x y : S24) (A B : Option Addr) (c d : Nat) (r : Bool) (W : World), k24.C W A x.f3.length x.f3 → x.f3.length ≤ c → k24.C W B y.f3.length y.f3 → y.f3.length ≤ d → g x y = some r →
      Calls Try.prog G #[.agg #[.int .i64 x.f0, .int .i64 x.f1, .string x.f2, .slice A x.f3.length c, .int .i64 x.f4, .int .i64 x.f5], .agg #[.int .i64 y.f0, .int .i64 y.f1, .string y.f2, .slice B y.f3.length d, .int .i64 y.f4, .int .i64 y.f5]] W fun e W' => e = .returned (.bool r) ∧ Below W.heap.size W W')
    (A0 : Option Addr) (c0 : Nat) (l0 : List S24) (A1 : Option Addr) (c1 : Nat) (l1 : List S24) (r : Bool) (w : World) (hr0 : k24.C w A0 l0.length l0) (hc0 : l0.length ≤ c0) (hr1 : k24.C w A1 l1.length l1) (hc1 : l1.length ≤ c1) (h : (if l0.length = l1.length then term_Same.eqs g l0 l1 else some false) = some r) :
    Calls Try.prog 41 #[.slice A0 l0.length c0, .slice A1 l1.length c1, .func (.func G) #[] #[]] w fun e w' => e = .returned (.bool r) ∧ Below w.heap.size w w' := by
  have hu := Try.underlying24
  have HR0 := Aside0.mk hr0
  have HR1 := Aside0.mk hr1
  have HF := Aside0.mk hF
  clear hr0 hr1 hF
  by_cases hl : l0.length = l1.length
  case neg =>
    rw [if_neg hl] at h
    obtain rfl := Option.some.inj h
    have hlb : ((l0.length : Int) != (l1.length : Int)) = true := by simp; omega
    have hlc : (l0.length != l1.length) = true := by simpa using hl
    clear h hl
    go_enter Try.func41, Try.ntmps41
    go_wp2
    go_ret
    exact ⟨rfl, Below.refl _ _⟩
  rw [if_pos hl] at h
  have hlb : ((l0.length : Int) != (l1.length : Int)) = false := by simp; omega
  have hlc : (l0.length != l1.length) = false := by simpa using hl
  have HL := Aside0.mk hl
  have H := Aside0.mk h
  clear h hl
  go_enter Try.func41, Try.ntmps41
  go_wp2
  go_loopg [17] l0.length (fun q v17 w' => ∃ j : Nat, v17 = .int .i64 (j : Int) ∧ j + q = l0.length ∧ Aside0 (term_Same.eqs g (l0.drop j) (l1.drop j) = some r) ∧ Aside0 (Below w.heap.size w w'))
  case atStart => exact ⟨0, rfl, by omega, H, ⟨Below.refl _ _⟩⟩
  case round =>
    clear H
    obtain ⟨j, rfl, hjq, HE, HB⟩ := hrel
    cases gk with
    | zero =>
      obtain rfl : j = l0.length := by omega
      have hd : decide ((l0.length : Int) < (l0.length : Int)) = false := by simp
      have h1 := HE.out
      rw [List.drop_length] at h1
      obtain rfl : true = r := Option.some.inj h1
      clear h1 HE
      go_wp2
      go_ret
      exact ⟨rfl, HB.out⟩
    | succ q =>
      have hjn : j < l0.length := by omega
      have hjm : j < l1.length := by have := HL.out; omega
      have hd : decide ((j : Int) < (l0.length : Int)) = true := decide_eq_true (by omega)
      have p0 : 0 ≤ (j : Int) := by omega
      have p1 : (j : Int) < (l0.length : Int) := by omega
      have p2 : (j : Int) < (l1.length : Int) := by omega
      have h1 := HE.out
      rw [List.drop_eq_getElem_cons hjn, List.drop_eq_getElem_cons hjm, term_Same.eqs] at h1
      obtain ⟨c, hc, h5⟩ := Option.bind_eq_some_iff.mp h1
      clear h1
      obtain ⟨ad, A3, c3, e0, m0, m1, m2, m3, m4, m5, hl3, hc3⟩ := at_T24 (Kd.C_below HR0.out HB.out) (j : Int) p0 p1
      obtain ⟨bd, B3, d3, e1, n0, n1, n2, n3, n4, n5, hm3, hd3⟩ := at_T24 (Kd.C_below HR1.out HB.out) (j : Int) p0 p2
      have hX : rd_T24 l0 (j : Int) = l0[j] := by unfold rd_T24; simp [List.getD_eq_getElem?_getD, List.getElem?_eq_getElem hjn]
      have hY : rd_T24 l1 (j : Int) = l1[j] := by unfold rd_T24; simp [List.getD_eq_getElem?_getD, List.getElem?_eq_getElem hjm]
      rw [hX] at m0 m1 m2 m3 m4 m5 hl3 hc3
      rw [hY] at n0 n1 n2 n3 n4 n5 hm3 hd3
      clear hX hY
      generalize l0[j] = X at *
      generalize l1[j] = Y at *
      subst e0
      subst e1
      rw [Int.toNat_natCast] at m0 m1 m2 m3 m4 m5 n0 n1 n2 n3 n4 n5
      have n0' : ∀ o, (wr.alloc o).cell? (bd.add (j * 6)) = some (.int .i64 Y.f0) := fun o => pw_cell_below (below_alloc (Below.refl _ _) o) n0
      have n1' : ∀ o, (wr.alloc o).cell? ⟨(bd.add (j * 6)).block, (bd.add (j * 6)).off + 1, none⟩ = some (.int .i64 Y.f1) := fun o => pw_cell_below (below_alloc (Below.refl _ _) o) n1
      have n2' : ∀ o, (wr.alloc o).cell? ⟨(bd.add (j * 6)).block, (bd.add (j * 6)).off + 2, none⟩ = some (.string Y.f2) := fun o => pw_cell_below (below_alloc (Below.refl _ _) o) n2
      have n3' : ∀ o, (wr.alloc o).cell? ⟨(bd.add (j * 6)).block, (bd.add (j * 6)).off + 3, none⟩ = some (.slice B3 Y.f3.length d3) := fun o => pw_cell_below (below_alloc (Below.refl _ _) o) n3
      have n4' : ∀ o, (wr.alloc o).cell? ⟨(bd.add (j * 6)).block, (bd.add (j * 6)).off + 4, none⟩ = some (.int .i64 Y.f4) := fun o => pw_cell_below (below_alloc (Below.refl _ _) o) n4
      have n5' : ∀ o, (wr.alloc o).cell? ⟨(bd.add (j * 6)).block, (bd.add (j * 6)).off + 5, none⟩ = some (.int .i64 Y.f5) := fun o => pw_cell_below (below_alloc (Below.refl _ _) o) n5
      clear n0 n1 n2 n3 n4 n5
      have HC := Aside0.mk hc
      have HC3 := Aside0.mk hc3
      have HD3 := Aside0.mk hd3
      have HL3 := Aside0.mk (And.intro hl3 hm3)
      have H1 := Aside0.mk h5
      clear h5 hc hc3 hd3 hl3 hm3 HE
      cases c with
      | false =>
        have h2 := H1.out
        rw [if_neg (by decide)] at h2
        obtain rfl := Option.some.inj h2
        clear h2
        go_wp2_with ((with_reducible refine (HF.out X Y A3 B3 c3 d3 false _ (Kd.C_below HC3.out (by repeat (first | exact Below.refl _ _ | apply below_alloc))) HL3.out.1 (Kd.C_below HD3.out (by repeat (first | exact Below.refl _ _ | apply below_alloc))) HL3.out.2 HC.out).mono ?_); rintro e w5 ⟨rfl, hb5⟩; (have HB5 : Aside0 (Below w.heap.size w w5) := ⟨below_step (by repeat (first | exact HB.out | apply below_alloc)) hb5⟩); clear hb5)
        go_ret
        exact ⟨rfl, HB5.out⟩
      | true =>
        have h2 := H1.out
        rw [if_pos rfl] at h2
        have H2 := Aside0.mk h2
        clear h2
        have hb := HR0.out.2.1
        have hw : IntKind.i64.wrap ((j : Int) + 1) = ((j + 1 : Nat) : Int) := by
          rw [i64_w]
          unfold Go.RowKit.wrap64
          omega
        go_wp2_with ((with_reducible refine (HF.out X Y A3 B3 c3 d3 true _ (Kd.C_below HC3.out (by repeat (first | exact Below.refl _ _ | apply below_alloc))) HL3.out.1 (Kd.C_below HD3.out (by repeat (first | exact Below.refl _ _ | apply below_alloc))) HL3.out.2 HC.out).mono ?_); rintro e w5 ⟨rfl, hb5⟩; (have HB5 : Aside0 (Below w.heap.size w w5) := ⟨below_step (by repeat (first | exact HB.out | apply below_alloc)) hb5⟩); clear hb5)
        go_roundg q
        case rel => exact ⟨j + 1, rfl, by omega, H2, HB5⟩
        case measure => omega
theorem term_Same.goes (x y : Value) (w : World) : (callFunc 32 #[x, y]).run Try.prog w = .ok (.enter 32 #[x, y]) w := by go_simp
set_option maxHeartbeats 16000000 in
set_option maxRecDepth 100000 in
theorem term_Same.calls (k : Nat) : ∀ (a0_0 : Int) (a0_1 : Int) (a0_2 : ByteArray) (A0_3 : Option Addr) (c0_3 : Nat) (l0_3 : List (S24)) (a0_4 : Int) (a0_5 : Int) (a1_0 : Int) (a1_1 : Int) (a1_2 : ByteArray) (A1_3 : Option Addr) (c1_3 : Nat) (l1_3 : List (S24)) (a1_4 : Int) (a1_5 : Int) (r : Bool) (w : World) (hr0_3 : Kd.C k24 w A0_3 l0_3.length l0_3) (hc0_3 : l0_3.length ≤ c0_3) (hr1_3 : Kd.C k24 w A1_3 l1_3.length l1_3) (hc1_3 : l1_3.length ≤ c1_3) (h : term_Same.f k a0_0 a0_1 a0_2 l0_3 a0_4 a0_5 a1_0 a1_1 a1_2 l1_3 a1_4 a1_5 = some r),
    Calls Try.prog 32 #[.agg #[.int .i64 a0_0, .int .i64 a0_1, .string a0_2, .slice A0_3 l0_3.length c0_3, .int .i64 a0_4, .int .i64 a0_5], .agg #[.int .i64 a1_0, .int .i64 a1_1, .string a1_2, .slice A1_3 l1_3.length c1_3, .int .i64 a1_4, .int .i64 a1_5]] w fun e w' => e = .returned (.bool r) ∧ Below w.heap.size w w' := by
  induction k with
  | zero => intro a0_0 a0_1 a0_2 A0_3 c0_3 l0_3 a0_4 a0_5 a1_0 a1_1 a1_2 A1_3 c1_3 l1_3 a1_4 a1_5 r w hr0_3 hc0_3 hr1_3 hc1_3 h; exact absurd h (by simp [term_Same.f])
  | succ k ih =>
  intro a0_0 a0_1 a0_2 A0_3 c0_3 l0_3 a0_4 a0_5 a1_0 a1_1 a1_2 A1_3 c1_3 l1_3 a1_4 a1_5 r w hr0_3 hc0_3 hr1_3 hc1_3 h
  have hu := Try.underlying24
  rw [term_Same.f] at h
  by_cases c0 : a0_0 = a1_0
  case neg =>
    rw [if_neg c0] at h
    obtain rfl := Option.some.inj h
    have c0b : (a0_0 == a1_0) = false := by simpa using c0
    clear h c0 ih
    go_enter Try.func32, Try.ntmps32
    go_wp2
    go_ret
    exact ⟨rfl, below_alloc (below_alloc (Below.refl _ _) _) _⟩
  rw [if_pos c0] at h
  have c0b : (a0_0 == a1_0) = true := by simpa using c0
  clear c0
  by_cases c1 : a0_1 = a1_1
  case neg =>
    rw [if_neg c1] at h
    obtain rfl := Option.some.inj h
    have c1b : (a0_1 == a1_1) = false := by simpa using c1
    clear h c1 ih
    go_enter Try.func32, Try.ntmps32
    go_wp2
    go_ret
    exact ⟨rfl, below_alloc (below_alloc (Below.refl _ _) _) _⟩
  rw [if_pos c1] at h
  have c1b : (a0_1 == a1_1) = true := by simpa using c1
  clear c1
  by_cases c2 : a0_2.toList = a1_2.toList
  case neg =>
    rw [if_neg c2] at h
    obtain rfl := Option.some.inj h
    have c2b : (a0_2.toList == a1_2.toList) = false := by simpa using c2
    clear h c2 ih
    go_enter Try.func32, Try.ntmps32
    go_wp2
    go_ret
    exact ⟨rfl, below_alloc (below_alloc (Below.refl _ _) _) _⟩
  rw [if_pos c2] at h
  have c2b : (a0_2.toList == a1_2.toList) = true := by simpa using c2
  clear c2
  have HI := Aside0.mk ih
  have HR0 := Aside0.mk hr0_3
  have HR1 := Aside0.mk hr1_3
  have H := Aside0.mk h
  clear ih hr0_3 hr1_3 h
  go_enter Try.func32, Try.ntmps32
  go_wp2_with (go_at_call 41; (with_reducible refine (term_Same.equal 32 (fun x y => term_Same.f k x.f0 x.f1 x.f2 x.f3 x.f4 x.f5 y.f0 y.f1 y.f2 y.f3 y.f4 y.f5) term_Same.goes (fun x y A B c d r W hA hc hB hd hg => HI.out _ _ _ A c _ _ _ _ _ _ B d _ _ _ r W hA hc hB hd hg) A0_3 c0_3 l0_3 A1_3 c1_3 l1_3 r _ (Kd.C_below HR0.out (below_alloc (below_alloc (Below.refl _ _) _) _)) hc0_3 (Kd.C_below HR1.out (below_alloc (below_alloc (Below.refl _ _) _) _)) hc1_3 H.out).mono ?_); rintro e w5 ⟨rfl, hb5⟩; (have HB5 : Aside0 (Below w.heap.size w w5) := ⟨below_step (below_alloc (below_alloc (Below.refl _ _) _) _) hb5⟩); clear hb5)
  go_ret
  exact ⟨rfl, HB5.out⟩

/-! ### decls_Holds: function 18 -/
def decls_Holds.j0 : Nat → List Int → Bool → Bool → Int → Int → ByteArray → List (S24) → Int → Int → Int → Int → ByteArray → List (S24) → Int → Int → Int → Int → ByteArray → Int → Int → Option (Bool)
  | 0, _, _, _, _, _, _, _, _, _, _, _, _, _, _, _, _, _, _, _, _ => none
  | k + 1, x1, x10, x20, x339000, x339001, x339002, x339003, x339004, x339005, x340000, x340001, x340002, x340003, x340004, x340005, x341000, x341001, x341002, x341004, x341005 => if x20 = true then (if 0 < (x1.length : Int) then ((decls_Drop.f k x339000 x339001 x339002 x339003 x339004 x339005 (rd x1 0)).bind fun bt352 => (if bt352.2.2.2.2.2.2 = true then ((term_Same.f k x340000 x340001 x340002 x340003 x340004 x340005 bt352.1 bt352.2.1 bt352.2.2.1 bt352.2.2.2.1 bt352.2.2.2.2.1 bt352.2.2.2.2.2.1).bind fun t361 => (some t361)) else (some false))) else (none)) else (if x10 = true then ((term_Same.f k x340000 x340001 x340002 x340003 x340004 x340005 x341000 x341001 x341002 ([] : List (S24)) x341004 x341005).bind fun t362 => (some t362)) else (some false))
def decls_Holds.f (k : Nat) (a0 : Int) (l1 : List Int) (a2_0 : Int) (a2_1 : Int) (a2_2 : ByteArray) (l2_3 : List (S24)) (a2_4 : Int) (a2_5 : Int) (a3_0 : Int) (a3_1 : Int) (a3_2 : ByteArray) (l3_3 : List (S24)) (a3_4 : Int) (a3_5 : Int) : Option (Bool) := if a0 = 50 then ((decls_Perm.f k a2_0 a2_1 a2_2 l2_3 a2_4 a2_5 l1).bind fun bt341 => (if bt341.2.2.2.2.2.2 = true then ((term_Same.f k a3_0 a3_1 a3_2 l3_3 a3_4 a3_5 bt341.1 bt341.2.1 bt341.2.2.1 bt341.2.2.2.1 bt341.2.2.2.2.1 bt341.2.2.2.2.2.1).bind fun t350 => (some t350)) else (some false))) else (if a0 = 51 then (decls_Holds.j0 k l1 false ((l1.length : Int) == 1) a2_0 a2_1 a2_2 l2_3 a2_4 a2_5 a3_0 a3_1 a3_2 l3_3 a3_4 a3_5 0 0 (⟨#[]⟩ : ByteArray) 0 0) else (decls_Holds.j0 k l1 false false a2_0 a2_1 a2_2 l2_3 a2_4 a2_5 a3_0 a3_1 a3_2 l3_3 a3_4 a3_5 0 0 (⟨#[]⟩ : ByteArray) 0 0))
theorem decls_Holds.mono_l : ∀ k, (∀ y0 y1 y2 y3 y4 y5 y6 y7 y8 y9 y10 y11 y12 y13 y14 y15 y16 y17 y18 y19, LeO (decls_Holds.j0 k y0 y1 y2 y3 y4 y5 y6 y7 y8 y9 y10 y11 y12 y13 y14 y15 y16 y17 y18 y19) (decls_Holds.j0 (k + 1) y0 y1 y2 y3 y4 y5 y6 y7 y8 y9 y10 y11 y12 y13 y14 y15 y16 y17 y18 y19))
  | 0 => fun _ _ _ _ _ _ _ _ _ _ _ _ _ _ _ _ _ _ _ _ r h => by simp [decls_Holds.j0] at h
  | k + 1 => by
    have ih0 := decls_Holds.mono_l k
    · intro y0 y1 y2 y3 y4 y5 y6 y7 y8 y9 y10 y11 y12 y13 y14 y15 y16 y17 y18 y19
      unfold decls_Holds.j0
      repeat' first | (with_reducible exact decls_Drop.mono _ _ _ _ _ _ _ _) | (with_reducible exact term_Same.mono _ _ _ _ _ _ _ _ _ _ _ _ _) | (with_reducible exact LeO.refl _) | (with_reducible refine LeO.ite ?_ ?_) | (with_reducible refine LeO.bind ?_ (fun _ => ?_))
theorem decls_Holds.mono : ∀ a0 a1 a2 a3 a4 a5 a6 a7 a8 a9 a10 a11 a12 a13 k, LeO (decls_Holds.f k a0 a1 a2 a3 a4 a5 a6 a7 a8 a9 a10 a11 a12 a13) (decls_Holds.f (k + 1) a0 a1 a2 a3 a4 a5 a6 a7 a8 a9 a10 a11 a12 a13) := by
  intro a0 a1 a2 a3 a4 a5 a6 a7 a8 a9 a10 a11 a12 a13 k
  have ih0 := decls_Holds.mono_l k
  unfold decls_Holds.f
  repeat' first | (with_reducible exact ih0 _ _ _ _ _ _ _ _ _ _ _ _ _ _ _ _ _ _ _ _) | (with_reducible exact decls_Perm.mono _ _ _ _ _ _ _ _) | (with_reducible exact term_Same.mono _ _ _ _ _ _ _ _ _ _ _ _ _) | (with_reducible exact LeO.refl _) | (with_reducible refine LeO.ite ?_ ?_) | (with_reducible refine LeO.bind ?_ (fun _ => ?_))
def decls_Holds.T6 : Bool × List (List Nat × List Nat) := (true, [([], []), ([], []), ([1], [1]), ([2], [2]), ([0, 3], [0, 3]), ([4], [4]), ([5], [5]), ([5], [5]), ([6, 4, 0, 1, 2, 3, 4, 5, 6], [6]), ([7, 8, 0, 1, 2, 3, 4, 5, 6, 7, 8], [7])])
def decls_Holds.B6 : List Nat := [0, 0, 2, 6, 15, 31, 63, 63, 127, 511]
theorem decls_Holds.tab6 : rtab .any (opsOf Try.f18 6) = decls_Holds.T6 := by kernel_rfl
theorem decls_Holds.bits6 : waitsOk decls_Holds.T6.2 decls_Holds.B6 = true := by kernel_rfl
set_option maxHeartbeats 8000000 in
set_option maxRecDepth 100000 in
theorem decls_Holds.calls (k : Nat) (a0 : Int) (A1 : Option Addr) (c1 : Nat) (l1 : List Int) (a2_0 : Int) (a2_1 : Int) (a2_2 : ByteArray) (A2_3 : Option Addr) (c2_3 : Nat) (l2_3 : List (S24)) (a2_4 : Int) (a2_5 : Int) (a3_0 : Int) (a3_1 : Int) (a3_2 : ByteArray) (A3_3 : Option Addr) (c3_3 : Nat) (l3_3 : List (S24)) (a3_4 : Int) (a3_5 : Int) (r : Bool) (w : World) (hr1 : Kd.C (Kd.int .i64) w A1 l1.length l1) (hc1 : l1.length ≤ c1) (hr2_3 : Kd.C k24 w A2_3 l2_3.length l2_3) (hc2_3 : l2_3.length ≤ c2_3) (hr3_3 : Kd.C k24 w A3_3 l3_3.length l3_3) (hc3_3 : l3_3.length ≤ c3_3) (h : decls_Holds.f k a0 l1 a2_0 a2_1 a2_2 l2_3 a2_4 a2_5 a3_0 a3_1 a3_2 l3_3 a3_4 a3_5 = some r) :
    Calls Try.prog 18 #[.int .i64 a0, .slice A1 l1.length c1, .agg #[.int .i64 a2_0, .int .i64 a2_1, .string a2_2, .slice A2_3 l2_3.length c2_3, .int .i64 a2_4, .int .i64 a2_5], .agg #[.int .i64 a3_0, .int .i64 a3_1, .string a3_2, .slice A3_3 l3_3.length c3_3, .int .i64 a3_4, .int .i64 a3_5]] w fun e w' => e = .returned (.bool r) ∧ Below w.heap.size w w' := by
  have hu24 := Try.underlying24
  have HR1 := Aside0.mk hr1
  have HC1 := Aside0.mk hc1
  clear hr1 hc1
  have HR2_3 := Aside0.mk hr2_3
  have HC2_3 := Aside0.mk hc2_3
  clear hr2_3 hc2_3
  have HR3_3 := Aside0.mk hr3_3
  have HC3_3 := Aside0.mk hc3_3
  clear hr3_3 hc3_3
  have HB := Aside0.mk (Below.refl w.heap.size w)
  have H : (if a0 = 50 then ((decls_Perm.f k a2_0 a2_1 a2_2 l2_3 a2_4 a2_5 l1).bind fun bt341 => (if bt341.2.2.2.2.2.2 = true then ((term_Same.f k a3_0 a3_1 a3_2 l3_3 a3_4 a3_5 bt341.1 bt341.2.1 bt341.2.2.1 bt341.2.2.2.1 bt341.2.2.2.2.1 bt341.2.2.2.2.2.1).bind fun t350 => (some t350)) else (some false))) else (if a0 = 51 then (decls_Holds.j0 k l1 false ((l1.length : Int) == 1) a2_0 a2_1 a2_2 l2_3 a2_4 a2_5 a3_0 a3_1 a3_2 l3_3 a3_4 a3_5 0 0 (⟨#[]⟩ : ByteArray) 0 0) else (decls_Holds.j0 k l1 false false a2_0 a2_1 a2_2 l2_3 a2_4 a2_5 a3_0 a3_1 a3_2 l3_3 a3_4 a3_5 0 0 (⟨#[]⟩ : ByteArray) 0 0))) = some r := h
  clear h
  by_cases c5 : a0 = 50
  · rw [if_pos c5] at H
    have c5b0 : (a0 == 50) = true := beq_iff_eq.mpr c5
    have c5b1 : (a0 != 50) = false := bne_eq_false_iff_eq.mpr c5
    clear c5
    replace H := Option.bind_eq_some_iff.mp H
    obtain ⟨⟨t341, t342, t343, t344, t347, t348, t349⟩, A60, H⟩ := H
    replace H : (if t349 = true then ((term_Same.f k a3_0 a3_1 a3_2 l3_3 a3_4 a3_5 t341 t342 t343 t344 t347 t348).bind fun t350 => (some t350)) else (some false)) = some r := H
    have A6 := Aside0.mk A60
    clear A60
    by_cases c7 : t349 = true
    rotate_left
    · replace c7 := Bool.eq_false_iff.mpr c7
      subst c7
      have H1 : (some false) = some r := by rw [if_neg (show ¬ (false = true) by decide)] at H; exact H
      clear H
      have H := H1
      clear H1
      obtain rfl := Option.some.inj H
      go_enter Try.func18, Try.ntmps18
      go_wp2_with (first | ((with_reducible refine gate_dst (N := 6) rfl ?_); (try (refine gate_guard (by rfl) ?_; dsimp only)); refine box_event ?hg (N := 6) ?hd (cs := #[.int .i64 a2_0, .int .i64 a2_1, .string a2_2, .slice A2_3 l2_3.length c2_3, .int .i64 a2_4, .int .i64 a2_5]) (t := 24) ?hr ?_; (case hd => rfl); (case hg => rfl); (case hr => (go_simp; done)); intro gb338 hg w21 hbox hb; have n0_ := Aside0.mk (below_step HB.out hb); have n1_ := Aside0.mk (hbox); have n2_ := Aside0.mk ((by rw [hg]; exact (below_size HB.out) : w.heap.size ≤ gb338)); have n3_ := Aside0.mk ((by rw [hg]; exact (below_size HB.out) : w.heap.size ≤ gb338)); clear HB; have HB := n0_; have BK338 := n1_; have GW338 := n2_; have GE338 := n3_; clear n0_ n1_ n2_ n3_; clear hb hbox hg) | ((with_reducible refine gate_dst (N := 7) rfl ?_); (try (refine gate_guard (by rfl) ?_; dsimp only)); refine box_event ?hg (N := 7) ?hd (cs := #[.int .i64 a3_0, .int .i64 a3_1, .string a3_2, .slice A3_3 l3_3.length c3_3, .int .i64 a3_4, .int .i64 a3_5]) (t := 24) ?hr ?_; (case hd => rfl); (case hg => rfl); (case hr => (go_simp; done)); intro gb339 hg w22 hbox hb; have n0_ := Aside0.mk (blk_below (g := gb338) (o := .cells #[.int .i64 a2_0, .int .i64 a2_1, .string a2_2, .slice A2_3 l2_3.length c2_3, .int .i64 a2_4, .int .i64 a2_5] 24 (0, 0)) (by exact BK338.out) hb); have n1_ := Aside0.mk (below_step HB.out hb); have n2_ := Aside0.mk (hbox); have n3_ := Aside0.mk ((by rw [hg]; exact (below_size HB.out) : w.heap.size ≤ gb339)); have n4_ := Aside0.mk ((by rw [hg]; exact (below_size HB.out) : w.heap.size ≤ gb339)); have n5_ := Aside0.mk ((by rw [hg]; exact Nat.ne_of_lt (blk_lt (g := gb338) (o := .cells #[.int .i64 a2_0, .int .i64 a2_1, .string a2_2, .slice A2_3 l2_3.length c2_3, .int .i64 a2_4, .int .i64 a2_5] 24 (0, 0)) (by exact BK338.out)) : gb338 ≠ gb339)); have n6_ := Aside0.mk ((by rw [hg]; exact Nat.ne_of_gt (blk_lt (g := gb338) (o := .cells #[.int .i64 a2_0, .int .i64 a2_1, .string a2_2, .slice A2_3 l2_3.length c2_3, .int .i64 a2_4, .int .i64 a2_5] 24 (0, 0)) (by exact BK338.out)) : gb339 ≠ gb338)); clear BK338; clear HB; have BK338 := n0_; have HB := n1_; have BK339 := n2_; have GW339 := n3_; have GE339 := n4_; have NB338_339 := n5_; have NB339_338 := n6_; clear n0_ n1_ n2_ n3_ n4_ n5_ n6_; clear hb hbox hg) | ((with_reducible refine gate_dst (N := 9) rfl ?_); (try (refine gate_guard (by rfl) ?_; dsimp only)); refine box_event ?hg (N := 9) ?hd (cs := #[.int .i64 0, .int .i64 0, .string (⟨#[]⟩ : ByteArray), .slice none 0 0, .int .i64 0, .int .i64 0]) (t := 24) ?hr ?_; (case hd => rfl); (case hg => rfl); (case hr => (go_simp; done)); intro gb340 hg w23 hbox hb; have n0_ := Aside0.mk (blk_below (g := gb338) (o := .cells #[.int .i64 a2_0, .int .i64 a2_1, .string a2_2, .slice A2_3 l2_3.length c2_3, .int .i64 a2_4, .int .i64 a2_5] 24 (0, 0)) (by exact BK338.out) hb); have n1_ := Aside0.mk (blk_below (g := gb339) (o := .cells #[.int .i64 a3_0, .int .i64 a3_1, .string a3_2, .slice A3_3 l3_3.length c3_3, .int .i64 a3_4, .int .i64 a3_5] 24 (0, 0)) (by exact BK339.out) hb); have n2_ := Aside0.mk (below_step HB.out hb); have n3_ := Aside0.mk (hbox); have n4_ := Aside0.mk ((by rw [hg]; exact (below_size HB.out) : w.heap.size ≤ gb340)); have n5_ := Aside0.mk ((by rw [hg]; exact (below_size HB.out) : w.heap.size ≤ gb340)); have n6_ := Aside0.mk ((by rw [hg]; exact Nat.ne_of_lt (blk_lt (g := gb338) (o := .cells #[.int .i64 a2_0, .int .i64 a2_1, .string a2_2, .slice A2_3 l2_3.length c2_3, .int .i64 a2_4, .int .i64 a2_5] 24 (0, 0)) (by exact BK338.out)) : gb338 ≠ gb340)); have n7_ := Aside0.mk ((by rw [hg]; exact Nat.ne_of_gt (blk_lt (g := gb338) (o := .cells #[.int .i64 a2_0, .int .i64 a2_1, .string a2_2, .slice A2_3 l2_3.length c2_3, .int .i64 a2_4, .int .i64 a2_5] 24 (0, 0)) (by exact BK338.out)) : gb340 ≠ gb338)); have n8_ := Aside0.mk ((by rw [hg]; exact Nat.ne_of_lt (blk_lt (g := gb339) (o := .cells #[.int .i64 a3_0, .int .i64 a3_1, .string a3_2, .slice A3_3 l3_3.length c3_3, .int .i64 a3_4, .int .i64 a3_5] 24 (0, 0)) (by exact BK339.out)) : gb339 ≠ gb340)); have n9_ := Aside0.mk ((by rw [hg]; exact Nat.ne_of_gt (blk_lt (g := gb339) (o := .cells #[.int .i64 a3_0, .int .i64 a3_1, .string a3_2, .slice A3_3 l3_3.length c3_3, .int .i64 a3_4, .int .i64 a3_5] 24 (0, 0)) (by exact BK339.out)) : gb340 ≠ gb339)); clear BK338; clear BK339; clear HB; have BK338 := n0_; have BK339 := n1_; have HB := n2_; have BK340 := n3_; have GW340 := n4_; have GE340 := n5_; have NB338_340 := n6_; have NB340_338 := n7_; have NB339_340 := n8_; have NB340_339 := n9_; clear n0_ n1_ n2_ n3_ n4_ n5_ n6_ n7_ n8_ n9_; clear hb hbox hg; have hnb24 := NB338_339.out; have hnc24 := NB339_338.out; have hnb25 := NB338_340.out; have hnc25 := NB340_338.out; have hcz26_0 : w23.cell? ⟨gb338, 0, none⟩ = some (.int .i64 a2_0) := (blk_cell BK338.out 0).trans rfl; have hcz26_1 : w23.cell? ⟨gb338, 1, none⟩ = some (.int .i64 a2_1) := (blk_cell BK338.out 1).trans rfl; have hcz26_2 : w23.cell? ⟨gb338, 2, none⟩ = some (.string a2_2) := (blk_cell BK338.out 2).trans rfl; have hcz26_3 : w23.cell? ⟨gb338, 3, none⟩ = some (.slice A2_3 l2_3.length c2_3) := (blk_cell BK338.out 3).trans rfl; have hcz26_4 : w23.cell? ⟨gb338, 4, none⟩ = some (.int .i64 a2_4) := (blk_cell BK338.out 4).trans rfl; have hcz26_5 : w23.cell? ⟨gb338, 5, none⟩ = some (.int .i64 a2_5) := (blk_cell BK338.out 5).trans rfl; have hfz26_0 := blk_frozen BK338.out 0; have hfz26_1 := blk_frozen BK338.out 1; have hfz26_2 := blk_frozen BK338.out 2; have hfz26_3 := blk_frozen BK338.out 3; have hfz26_4 := blk_frozen BK338.out 4; have hfz26_5 := blk_frozen BK338.out 5) | ((with_reducible refine gate_callee (f := 10) rfl ?_); refine goesL_ (some 17) rfl rfl Try.func10 (by kernel_rfl) rfl #[.agg #[.int .i64 a2_0, .int .i64 a2_1, .string a2_2, .slice A2_3 l2_3.length c2_3, .int .i64 a2_4, .int .i64 a2_5], .slice A1 l1.length c1] rfl (by (try simp only [List.map_toArray, List.map_cons, List.map_nil]); (rfl)) ?_; (with_reducible refine (decls_Perm.calls k a2_0 a2_1 a2_2 _ _ l2_3 a2_4 a2_5 _ _ l1 t341 t342 t343 t344 t347 t348 false _ ?side1 ?side2 ?side3 ?side4 A6.out).mono ?_); (case side1 => exact Kd.C_below HR2_3.out HB.out); (case side2 => exact HC2_3.out); (case side3 => exact Kd.C_below HR1.out HB.out); (case side4 => exact HC1.out); rintro e w27 ⟨v345, rfl, ho0, hb⟩; refine ⟨_, rfl, ?_⟩; have n0_ := Aside0.mk (Kd.V_lower (Kd.V_mono (ok' := fun k_ => k_ ≠ gb338 ∧ k_ ≠ gb339 ∧ k_ ≠ gb340) ho0 (fun k_ hk_ => ⟨(Kd.freshB (g := gb338) (o := .cells #[.int .i64 a2_0, .int .i64 a2_1, .string a2_2, .slice A2_3 l2_3.length c2_3, .int .i64 a2_4, .int .i64 a2_5] 24 (0, 0)) (by exact BK338.out) k_ hk_), (Kd.freshB (g := gb339) (o := .cells #[.int .i64 a3_0, .int .i64 a3_1, .string a3_2, .slice A3_3 l3_3.length c3_3, .int .i64 a3_4, .int .i64 a3_5] 24 (0, 0)) (by exact BK339.out) k_ hk_), (Kd.freshB (g := gb340) (o := .cells #[.int .i64 0, .int .i64 0, .string (⟨#[]⟩ : ByteArray), .slice none 0 0, .int .i64 0, .int .i64 0] 24 (0, 0)) (by exact BK340.out) k_ hk_)⟩)) (below_size HB.out)); have n1_ := Aside0.mk (blk_below (g := gb338) (o := .cells #[.int .i64 a2_0, .int .i64 a2_1, .string a2_2, .slice A2_3 l2_3.length c2_3, .int .i64 a2_4, .int .i64 a2_5] 24 (0, 0)) (by exact BK338.out) hb); have n2_ := Aside0.mk (blk_below (g := gb339) (o := .cells #[.int .i64 a3_0, .int .i64 a3_1, .string a3_2, .slice A3_3 l3_3.length c3_3, .int .i64 a3_4, .int .i64 a3_5] 24 (0, 0)) (by exact BK339.out) hb); have n3_ := Aside0.mk (blk_below (g := gb340) (o := .cells #[.int .i64 0, .int .i64 0, .string (⟨#[]⟩ : ByteArray), .slice none 0 0, .int .i64 0, .int .i64 0] 24 (0, 0)) (by exact BK340.out) hb); have n4_ := Aside0.mk (below_step HB.out hb); clear BK338; clear BK339; clear BK340; clear HB; have HO346 := n0_; have BK338 := n1_; have BK339 := n2_; have BK340 := n3_; have HB := n4_; clear n0_ n1_ n2_ n3_ n4_; (try clear hb); (try clear ho0); have hnb28 := NB340_339.out; have hnc28 := NB339_340.out; have hcz29_0 : w27.cell? ⟨gb340, 0, none⟩ = some (.int .i64 0) := (blk_cell BK340.out 0).trans rfl; have hcz29_1 : w27.cell? ⟨gb340, 1, none⟩ = some (.int .i64 0) := (blk_cell BK340.out 1).trans rfl; have hcz29_2 : w27.cell? ⟨gb340, 2, none⟩ = some (.string (⟨#[]⟩ : ByteArray)) := (blk_cell BK340.out 2).trans rfl; have hcz29_3 : w27.cell? ⟨gb340, 3, none⟩ = some (.slice none 0 0) := (blk_cell BK340.out 3).trans rfl; have hcz29_4 : w27.cell? ⟨gb340, 4, none⟩ = some (.int .i64 0) := (blk_cell BK340.out 4).trans rfl; have hcz29_5 : w27.cell? ⟨gb340, 5, none⟩ = some (.int .i64 0) := (blk_cell BK340.out 5).trans rfl; have hfz29_0 := blk_frozen BK340.out 0; have hfz29_1 := blk_frozen BK340.out 1; have hfz29_2 := blk_frozen BK340.out 2; have hfz29_3 := blk_frozen BK340.out 3; have hfz29_4 := blk_frozen BK340.out 4; have hfz29_5 := blk_frozen BK340.out 5; obtain ⟨Ao30, co30, eo30⟩ := Kd.V_slice HO346.out; subst eo30))
      go_ret
      exact ⟨by (rfl), by repeat (with_reducible first | exact HB.out | refine below_set ?_ GE340.out)⟩
    subst c7
    have H1 : ((term_Same.f k a3_0 a3_1 a3_2 l3_3 a3_4 a3_5 t341 t342 t343 t344 t347 t348).bind fun t350 => (some t350)) = some r := by rw [if_pos rfl] at H; exact H
    clear H
    have H := H1
    clear H1
    replace H := Option.bind_eq_some_iff.mp H
    obtain ⟨t350, A80, H⟩ := H
    replace H : (some t350) = some r := H
    have A8 := Aside0.mk A80
    clear A80
    obtain rfl := Option.some.inj H
    go_enter Try.func18, Try.ntmps18
    go_wp2_with (first | ((with_reducible refine gate_dst (N := 6) rfl ?_); (try (refine gate_guard (by rfl) ?_; dsimp only)); refine box_event ?hg (N := 6) ?hd (cs := #[.int .i64 a2_0, .int .i64 a2_1, .string a2_2, .slice A2_3 l2_3.length c2_3, .int .i64 a2_4, .int .i64 a2_5]) (t := 24) ?hr ?_; (case hd => rfl); (case hg => rfl); (case hr => (go_simp; done)); intro gb338 hg w9 hbox hb; have n0_ := Aside0.mk (below_step HB.out hb); have n1_ := Aside0.mk (hbox); have n2_ := Aside0.mk ((by rw [hg]; exact (below_size HB.out) : w.heap.size ≤ gb338)); have n3_ := Aside0.mk ((by rw [hg]; exact (below_size HB.out) : w.heap.size ≤ gb338)); clear HB; have HB := n0_; have BK338 := n1_; have GW338 := n2_; have GE338 := n3_; clear n0_ n1_ n2_ n3_; clear hb hbox hg) | ((with_reducible refine gate_dst (N := 7) rfl ?_); (try (refine gate_guard (by rfl) ?_; dsimp only)); refine box_event ?hg (N := 7) ?hd (cs := #[.int .i64 a3_0, .int .i64 a3_1, .string a3_2, .slice A3_3 l3_3.length c3_3, .int .i64 a3_4, .int .i64 a3_5]) (t := 24) ?hr ?_; (case hd => rfl); (case hg => rfl); (case hr => (go_simp; done)); intro gb339 hg w10 hbox hb; have n0_ := Aside0.mk (blk_below (g := gb338) (o := .cells #[.int .i64 a2_0, .int .i64 a2_1, .string a2_2, .slice A2_3 l2_3.length c2_3, .int .i64 a2_4, .int .i64 a2_5] 24 (0, 0)) (by exact BK338.out) hb); have n1_ := Aside0.mk (below_step HB.out hb); have n2_ := Aside0.mk (hbox); have n3_ := Aside0.mk ((by rw [hg]; exact (below_size HB.out) : w.heap.size ≤ gb339)); have n4_ := Aside0.mk ((by rw [hg]; exact (below_size HB.out) : w.heap.size ≤ gb339)); have n5_ := Aside0.mk ((by rw [hg]; exact Nat.ne_of_lt (blk_lt (g := gb338) (o := .cells #[.int .i64 a2_0, .int .i64 a2_1, .string a2_2, .slice A2_3 l2_3.length c2_3, .int .i64 a2_4, .int .i64 a2_5] 24 (0, 0)) (by exact BK338.out)) : gb338 ≠ gb339)); have n6_ := Aside0.mk ((by rw [hg]; exact Nat.ne_of_gt (blk_lt (g := gb338) (o := .cells #[.int .i64 a2_0, .int .i64 a2_1, .string a2_2, .slice A2_3 l2_3.length c2_3, .int .i64 a2_4, .int .i64 a2_5] 24 (0, 0)) (by exact BK338.out)) : gb339 ≠ gb338)); clear BK338; clear HB; have BK338 := n0_; have HB := n1_; have BK339 := n2_; have GW339 := n3_; have GE339 := n4_; have NB338_339 := n5_; have NB339_338 := n6_; clear n0_ n1_ n2_ n3_ n4_ n5_ n6_; clear hb hbox hg) | ((with_reducible refine gate_dst (N := 9) rfl ?_); (try (refine gate_guard (by rfl) ?_; dsimp only)); refine box_event ?hg (N := 9) ?hd (cs := #[.int .i64 0, .int .i64 0, .string (⟨#[]⟩ : ByteArray), .slice none 0 0, .int .i64 0, .int .i64 0]) (t := 24) ?hr ?_; (case hd => rfl); (case hg => rfl); (case hr => (go_simp; done)); intro gb340 hg w11 hbox hb; have n0_ := Aside0.mk (blk_below (g := gb338) (o := .cells #[.int .i64 a2_0, .int .i64 a2_1, .string a2_2, .slice A2_3 l2_3.length c2_3, .int .i64 a2_4, .int .i64 a2_5] 24 (0, 0)) (by exact BK338.out) hb); have n1_ := Aside0.mk (blk_below (g := gb339) (o := .cells #[.int .i64 a3_0, .int .i64 a3_1, .string a3_2, .slice A3_3 l3_3.length c3_3, .int .i64 a3_4, .int .i64 a3_5] 24 (0, 0)) (by exact BK339.out) hb); have n2_ := Aside0.mk (below_step HB.out hb); have n3_ := Aside0.mk (hbox); have n4_ := Aside0.mk ((by rw [hg]; exact (below_size HB.out) : w.heap.size ≤ gb340)); have n5_ := Aside0.mk ((by rw [hg]; exact (below_size HB.out) : w.heap.size ≤ gb340)); have n6_ := Aside0.mk ((by rw [hg]; exact Nat.ne_of_lt (blk_lt (g := gb338) (o := .cells #[.int .i64 a2_0, .int .i64 a2_1, .string a2_2, .slice A2_3 l2_3.length c2_3, .int .i64 a2_4, .int .i64 a2_5] 24 (0, 0)) (by exact BK338.out)) : gb338 ≠ gb340)); have n7_ := Aside0.mk ((by rw [hg]; exact Nat.ne_of_gt (blk_lt (g := gb338) (o := .cells #[.int .i64 a2_0, .int .i64 a2_1, .string a2_2, .slice A2_3 l2_3.length c2_3, .int .i64 a2_4, .int .i64 a2_5] 24 (0, 0)) (by exact BK338.out)) : gb340 ≠ gb338)); have n8_ := Aside0.mk ((by rw [hg]; exact Nat.ne_of_lt (blk_lt (g := gb339) (o := .cells #[.int .i64 a3_0, .int .i64 a3_1, .string a3_2, .slice A3_3 l3_3.length c3_3, .int .i64 a3_4, .int .i64 a3_5] 24 (0, 0)) (by exact BK339.out)) : gb339 ≠ gb340)); have n9_ := Aside0.mk ((by rw [hg]; exact Nat.ne_of_gt (blk_lt (g := gb339) (o := .cells #[.int .i64 a3_0, .int .i64 a3_1, .string a3_2, .slice A3_3 l3_3.length c3_3, .int .i64 a3_4, .int .i64 a3_5] 24 (0, 0)) (by exact BK339.out)) : gb340 ≠ gb339)); clear BK338; clear BK339; clear HB; have BK338 := n0_; have BK339 := n1_; have HB := n2_; have BK340 := n3_; have GW340 := n4_; have GE340 := n5_; have NB338_340 := n6_; have NB340_338 := n7_; have NB339_340 := n8_; have NB340_339 := n9_; clear n0_ n1_ n2_ n3_ n4_ n5_ n6_ n7_ n8_ n9_; clear hb hbox hg; have hnb12 := NB338_339.out; have hnc12 := NB339_338.out; have hnb13 := NB338_340.out; have hnc13 := NB340_338.out; have hcz14_0 : w11.cell? ⟨gb338, 0, none⟩ = some (.int .i64 a2_0) := (blk_cell BK338.out 0).trans rfl; have hcz14_1 : w11.cell? ⟨gb338, 1, none⟩ = some (.int .i64 a2_1) := (blk_cell BK338.out 1).trans rfl; have hcz14_2 : w11.cell? ⟨gb338, 2, none⟩ = some (.string a2_2) := (blk_cell BK338.out 2).trans rfl; have hcz14_3 : w11.cell? ⟨gb338, 3, none⟩ = some (.slice A2_3 l2_3.length c2_3) := (blk_cell BK338.out 3).trans rfl; have hcz14_4 : w11.cell? ⟨gb338, 4, none⟩ = some (.int .i64 a2_4) := (blk_cell BK338.out 4).trans rfl; have hcz14_5 : w11.cell? ⟨gb338, 5, none⟩ = some (.int .i64 a2_5) := (blk_cell BK338.out 5).trans rfl; have hfz14_0 := blk_frozen BK338.out 0; have hfz14_1 := blk_frozen BK338.out 1; have hfz14_2 := blk_frozen BK338.out 2; have hfz14_3 := blk_frozen BK338.out 3; have hfz14_4 := blk_frozen BK338.out 4; have hfz14_5 := blk_frozen BK338.out 5) | ((with_reducible refine gate_callee (f := 10) rfl ?_); refine goesL_ (some 17) rfl rfl Try.func10 (by kernel_rfl) rfl #[.agg #[.int .i64 a2_0, .int .i64 a2_1, .string a2_2, .slice A2_3 l2_3.length c2_3, .int .i64 a2_4, .int .i64 a2_5], .slice A1 l1.length c1] rfl (by (try simp only [List.map_toArray, List.map_cons, List.map_nil]); (rfl)) ?_; (with_reducible refine (decls_Perm.calls k a2_0 a2_1 a2_2 _ _ l2_3 a2_4 a2_5 _ _ l1 t341 t342 t343 t344 t347 t348 true _ ?side1 ?side2 ?side3 ?side4 A6.out).mono ?_); (case side1 => exact Kd.C_below HR2_3.out HB.out); (case side2 => exact HC2_3.out); (case side3 => exact Kd.C_below HR1.out HB.out); (case side4 => exact HC1.out); rintro e w15 ⟨v345, rfl, ho0, hb⟩; refine ⟨_, rfl, ?_⟩; have n0_ := Aside0.mk (Kd.V_lower (Kd.V_mono (ok' := fun k_ => k_ ≠ gb338 ∧ k_ ≠ gb339 ∧ k_ ≠ gb340) ho0 (fun k_ hk_ => ⟨(Kd.freshB (g := gb338) (o := .cells #[.int .i64 a2_0, .int .i64 a2_1, .string a2_2, .slice A2_3 l2_3.length c2_3, .int .i64 a2_4, .int .i64 a2_5] 24 (0, 0)) (by exact BK338.out) k_ hk_), (Kd.freshB (g := gb339) (o := .cells #[.int .i64 a3_0, .int .i64 a3_1, .string a3_2, .slice A3_3 l3_3.length c3_3, .int .i64 a3_4, .int .i64 a3_5] 24 (0, 0)) (by exact BK339.out) k_ hk_), (Kd.freshB (g := gb340) (o := .cells #[.int .i64 0, .int .i64 0, .string (⟨#[]⟩ : ByteArray), .slice none 0 0, .int .i64 0, .int .i64 0] 24 (0, 0)) (by exact BK340.out) k_ hk_)⟩)) (below_size HB.out)); have n1_ := Aside0.mk (blk_below (g := gb338) (o := .cells #[.int .i64 a2_0, .int .i64 a2_1, .string a2_2, .slice A2_3 l2_3.length c2_3, .int .i64 a2_4, .int .i64 a2_5] 24 (0, 0)) (by exact BK338.out) hb); have n2_ := Aside0.mk (blk_below (g := gb339) (o := .cells #[.int .i64 a3_0, .int .i64 a3_1, .string a3_2, .slice A3_3 l3_3.length c3_3, .int .i64 a3_4, .int .i64 a3_5] 24 (0, 0)) (by exact BK339.out) hb); have n3_ := Aside0.mk (blk_below (g := gb340) (o := .cells #[.int .i64 0, .int .i64 0, .string (⟨#[]⟩ : ByteArray), .slice none 0 0, .int .i64 0, .int .i64 0] 24 (0, 0)) (by exact BK340.out) hb); have n4_ := Aside0.mk (below_step HB.out hb); clear BK338; clear BK339; clear BK340; clear HB; have HO346 := n0_; have BK338 := n1_; have BK339 := n2_; have BK340 := n3_; have HB := n4_; clear n0_ n1_ n2_ n3_ n4_; (try clear hb); (try clear ho0); have hnb16 := NB340_339.out; have hnc16 := NB339_340.out; have hcz17_0 : w15.cell? ⟨gb340, 0, none⟩ = some (.int .i64 0) := (blk_cell BK340.out 0).trans rfl; have hcz17_1 : w15.cell? ⟨gb340, 1, none⟩ = some (.int .i64 0) := (blk_cell BK340.out 1).trans rfl; have hcz17_2 : w15.cell? ⟨gb340, 2, none⟩ = some (.string (⟨#[]⟩ : ByteArray)) := (blk_cell BK340.out 2).trans rfl; have hcz17_3 : w15.cell? ⟨gb340, 3, none⟩ = some (.slice none 0 0) := (blk_cell BK340.out 3).trans rfl; have hcz17_4 : w15.cell? ⟨gb340, 4, none⟩ = some (.int .i64 0) := (blk_cell BK340.out 4).trans rfl; have hcz17_5 : w15.cell? ⟨gb340, 5, none⟩ = some (.int .i64 0) := (blk_cell BK340.out 5).trans rfl; have hfz17_0 := blk_frozen BK340.out 0; have hfz17_1 := blk_frozen BK340.out 1; have hfz17_2 := blk_frozen BK340.out 2; have hfz17_3 := blk_frozen BK340.out 3; have hfz17_4 := blk_frozen BK340.out 4; have hfz17_5 := blk_frozen BK340.out 5; obtain ⟨Ao18, co18, eo18⟩ := Kd.V_slice HO346.out; subst eo18; have hcz19_0 : w15.cell? ⟨gb339, 0, none⟩ = some (.int .i64 a3_0) := (blk_cell BK339.out 0).trans rfl; have hcz19_1 : w15.cell? ⟨gb339, 1, none⟩ = some (.int .i64 a3_1) := (blk_cell BK339.out 1).trans rfl; have hcz19_2 : w15.cell? ⟨gb339, 2, none⟩ = some (.string a3_2) := (blk_cell BK339.out 2).trans rfl; have hcz19_3 : w15.cell? ⟨gb339, 3, none⟩ = some (.slice A3_3 l3_3.length c3_3) := (blk_cell BK339.out 3).trans rfl; have hcz19_4 : w15.cell? ⟨gb339, 4, none⟩ = some (.int .i64 a3_4) := (blk_cell BK339.out 4).trans rfl; have hcz19_5 : w15.cell? ⟨gb339, 5, none⟩ = some (.int .i64 a3_5) := (blk_cell BK339.out 5).trans rfl; have hfz19_0 := blk_frozen BK339.out 0; have hfz19_1 := blk_frozen BK339.out 1; have hfz19_2 := blk_frozen BK339.out 2; have hfz19_3 := blk_frozen BK339.out 3; have hfz19_4 := blk_frozen BK339.out 4; have hfz19_5 := blk_frozen BK339.out 5) | (go_at_call 32; (with_reducible refine (term_Same.calls k a3_0 a3_1 a3_2 _ _ l3_3 a3_4 a3_5 t341 t342 t343 _ _ t344 t347 t348 t350 _ ?side1 ?side2 ?side3 ?side4 A8.out).mono ?_); (case side1 => exact Kd.C_below HR3_3.out (by repeat (with_reducible first | exact HB.out | refine below_set ?_ GE340.out))); (case side2 => exact HC3_3.out); (case side3 => refine (Kd.V_reads' (e := 24) (base := w.heap.size) (ok := fun k_ => (k_ ≠ gb338 ∧ (k_ ≠ gb339 ∧ k_ ≠ gb340))) (n := t344.length) (c := co18) ?_).2.2; exact (by exact (Kd.V_mono (Kd.V_far (p := ⟨gb340, 5, none⟩) (Kd.V_far (p := ⟨gb340, 4, none⟩) (Kd.V_far (p := ⟨gb340, 3, none⟩) (Kd.V_far (p := ⟨gb340, 2, none⟩) (Kd.V_far (p := ⟨gb340, 1, none⟩) (Kd.V_far (p := ⟨gb340, 0, none⟩) (Kd.V_mono HO346.out (fun k_ hk => (⟨hk, hk.2.2⟩ : _ ∧ k_ ≠ gb340))) (fun _ hk => hk.2) (.int .i64 t341)) (fun _ hk => hk.2) (.int .i64 t342)) (fun _ hk => hk.2) (.string t343)) (fun _ hk => hk.2) (.slice Ao18 t344.length co18)) (fun _ hk => hk.2) (.int .i64 t347)) (fun _ hk => hk.2) (.int .i64 t348)) (fun _ h_ => h_.1)))); (case side4 => exact (Kd.V_reads' HO346.out).2.1); rintro e w20 ⟨rfl, hb⟩; have n0_ := Aside0.mk (Kd.V_below (by exact (Kd.V_mono (Kd.V_far (p := ⟨gb340, 5, none⟩) (Kd.V_far (p := ⟨gb340, 4, none⟩) (Kd.V_far (p := ⟨gb340, 3, none⟩) (Kd.V_far (p := ⟨gb340, 2, none⟩) (Kd.V_far (p := ⟨gb340, 1, none⟩) (Kd.V_far (p := ⟨gb340, 0, none⟩) (Kd.V_mono HO346.out (fun k_ hk => (⟨hk, hk.2.2⟩ : _ ∧ k_ ≠ gb340))) (fun _ hk => hk.2) (.int .i64 t341)) (fun _ hk => hk.2) (.int .i64 t342)) (fun _ hk => hk.2) (.string t343)) (fun _ hk => hk.2) (.slice Ao18 t344.length co18)) (fun _ hk => hk.2) (.int .i64 t347)) (fun _ hk => hk.2) (.int .i64 t348)) (fun _ h_ => h_.1))) hb); have n1_ := Aside0.mk (blk_below (g := gb338) (o := .cells #[.int .i64 a2_0, .int .i64 a2_1, .string a2_2, .slice A2_3 l2_3.length c2_3, .int .i64 a2_4, .int .i64 a2_5] 24 (0, 0)) (by refine blk_far ?_ NB338_340.out _; refine blk_far ?_ NB338_340.out _; refine blk_far ?_ NB338_340.out _; refine blk_far ?_ NB338_340.out _; refine blk_far ?_ NB338_340.out _; refine blk_far ?_ NB338_340.out _; exact BK338.out) hb); have n2_ := Aside0.mk (blk_below (g := gb339) (o := .cells #[.int .i64 a3_0, .int .i64 a3_1, .string a3_2, .slice A3_3 l3_3.length c3_3, .int .i64 a3_4, .int .i64 a3_5] 24 (0, 0)) (by refine blk_far ?_ NB339_340.out _; refine blk_far ?_ NB339_340.out _; refine blk_far ?_ NB339_340.out _; refine blk_far ?_ NB339_340.out _; refine blk_far ?_ NB339_340.out _; refine blk_far ?_ NB339_340.out _; exact BK339.out) hb); have n3_ := Aside0.mk (blk_below (g := gb340) (o := .cells #[.int .i64 t341, .int .i64 t342, .string t343, .slice Ao18 t344.length co18, .int .i64 t347, .int .i64 t348] 24 (0, 0)) (by refine blk_put (cs := #[.int .i64 t341, .int .i64 t342, .string t343, .slice Ao18 t344.length co18, .int .i64 t347, .int .i64 0]) ?_ 5 _ rfl; refine blk_put (cs := #[.int .i64 t341, .int .i64 t342, .string t343, .slice Ao18 t344.length co18, .int .i64 0, .int .i64 0]) ?_ 4 _ rfl; refine blk_put (cs := #[.int .i64 t341, .int .i64 t342, .string t343, .slice none 0 0, .int .i64 0, .int .i64 0]) ?_ 3 _ rfl; refine blk_put (cs := #[.int .i64 t341, .int .i64 t342, .string (⟨#[]⟩ : ByteArray), .slice none 0 0, .int .i64 0, .int .i64 0]) ?_ 2 _ rfl; refine blk_put (cs := #[.int .i64 t341, .int .i64 0, .string (⟨#[]⟩ : ByteArray), .slice none 0 0, .int .i64 0, .int .i64 0]) ?_ 1 _ rfl; refine blk_put (cs := #[.int .i64 0, .int .i64 0, .string (⟨#[]⟩ : ByteArray), .slice none 0 0, .int .i64 0, .int .i64 0]) ?_ 0 _ rfl; exact BK340.out) hb); have n4_ := Aside0.mk (below_step (by repeat (with_reducible first | exact HB.out | refine below_set ?_ GE340.out)) hb); clear HO346; clear BK338; clear BK339; clear BK340; clear HB; have HO346 := n0_; have BK338 := n1_; have BK339 := n2_; have BK340 := n3_; have HB := n4_; clear n0_ n1_ n2_ n3_ n4_; (try clear hb); (skip)))
    go_ret
    exact ⟨by (rfl), HB.out⟩
  rw [if_neg c5] at H
  have c5b0 : (a0 == 50) = false := beq_eq_false_iff_ne.mpr c5
  have c5b1 : (a0 != 50) = true := bne_iff_ne.mpr c5
  have HC31 := Aside0.mk H
  clear H
  go_enter Try.func18, Try.ntmps18
  go_upto_region 5 with (first | ((with_reducible refine gate_dst (N := 6) rfl ?_); (try (refine gate_guard (by rfl) ?_; dsimp only)); refine box_event ?hg (N := 6) ?hd (cs := #[.int .i64 a2_0, .int .i64 a2_1, .string a2_2, .slice A2_3 l2_3.length c2_3, .int .i64 a2_4, .int .i64 a2_5]) (t := 24) ?hr ?_; (case hd => rfl); (case hg => rfl); (case hr => (go_simp; done)); intro gb338 hg w32 hbox hb; have n0_ := Aside0.mk (below_step HB.out hb); have n1_ := Aside0.mk (hbox); have n2_ := Aside0.mk ((by rw [hg]; exact (below_size HB.out) : w.heap.size ≤ gb338)); have n3_ := Aside0.mk ((by rw [hg]; exact (below_size HB.out) : w.heap.size ≤ gb338)); clear HB; have HB := n0_; have BK338 := n1_; have GW338 := n2_; have GE338 := n3_; clear n0_ n1_ n2_ n3_; clear hb hbox hg) | ((with_reducible refine gate_dst (N := 7) rfl ?_); (try (refine gate_guard (by rfl) ?_; dsimp only)); refine box_event ?hg (N := 7) ?hd (cs := #[.int .i64 a3_0, .int .i64 a3_1, .string a3_2, .slice A3_3 l3_3.length c3_3, .int .i64 a3_4, .int .i64 a3_5]) (t := 24) ?hr ?_; (case hd => rfl); (case hg => rfl); (case hr => (go_simp; done)); intro gb339 hg w33 hbox hb; have n0_ := Aside0.mk (blk_below (g := gb338) (o := .cells #[.int .i64 a2_0, .int .i64 a2_1, .string a2_2, .slice A2_3 l2_3.length c2_3, .int .i64 a2_4, .int .i64 a2_5] 24 (0, 0)) (by exact BK338.out) hb); have n1_ := Aside0.mk (below_step HB.out hb); have n2_ := Aside0.mk (hbox); have n3_ := Aside0.mk ((by rw [hg]; exact (below_size HB.out) : w.heap.size ≤ gb339)); have n4_ := Aside0.mk ((by rw [hg]; exact (below_size HB.out) : w.heap.size ≤ gb339)); have n5_ := Aside0.mk ((by rw [hg]; exact Nat.ne_of_lt (blk_lt (g := gb338) (o := .cells #[.int .i64 a2_0, .int .i64 a2_1, .string a2_2, .slice A2_3 l2_3.length c2_3, .int .i64 a2_4, .int .i64 a2_5] 24 (0, 0)) (by exact BK338.out)) : gb338 ≠ gb339)); have n6_ := Aside0.mk ((by rw [hg]; exact Nat.ne_of_gt (blk_lt (g := gb338) (o := .cells #[.int .i64 a2_0, .int .i64 a2_1, .string a2_2, .slice A2_3 l2_3.length c2_3, .int .i64 a2_4, .int .i64 a2_5] 24 (0, 0)) (by exact BK338.out)) : gb339 ≠ gb338)); clear BK338; clear HB; have BK338 := n0_; have HB := n1_; have BK339 := n2_; have GW339 := n3_; have GE339 := n4_; have NB338_339 := n5_; have NB339_338 := n6_; clear n0_ n1_ n2_ n3_ n4_ n5_ n6_; clear hb hbox hg) | ((with_reducible refine gate_dst (N := 9) rfl ?_); (try (refine gate_guard (by rfl) ?_; dsimp only)); refine box_event ?hg (N := 9) ?hd (cs := #[.int .i64 0, .int .i64 0, .string (⟨#[]⟩ : ByteArray), .slice none 0 0, .int .i64 0, .int .i64 0]) (t := 24) ?hr ?_; (case hd => rfl); (case hg => rfl); (case hr => (go_simp; done)); intro gb340 hg w34 hbox hb; have n0_ := Aside0.mk (blk_below (g := gb338) (o := .cells #[.int .i64 a2_0, .int .i64 a2_1, .string a2_2, .slice A2_3 l2_3.length c2_3, .int .i64 a2_4, .int .i64 a2_5] 24 (0, 0)) (by exact BK338.out) hb); have n1_ := Aside0.mk (blk_below (g := gb339) (o := .cells #[.int .i64 a3_0, .int .i64 a3_1, .string a3_2, .slice A3_3 l3_3.length c3_3, .int .i64 a3_4, .int .i64 a3_5] 24 (0, 0)) (by exact BK339.out) hb); have n2_ := Aside0.mk (below_step HB.out hb); have n3_ := Aside0.mk (hbox); have n4_ := Aside0.mk ((by rw [hg]; exact (below_size HB.out) : w.heap.size ≤ gb340)); have n5_ := Aside0.mk ((by rw [hg]; exact (below_size HB.out) : w.heap.size ≤ gb340)); have n6_ := Aside0.mk ((by rw [hg]; exact Nat.ne_of_lt (blk_lt (g := gb338) (o := .cells #[.int .i64 a2_0, .int .i64 a2_1, .string a2_2, .slice A2_3 l2_3.length c2_3, .int .i64 a2_4, .int .i64 a2_5] 24 (0, 0)) (by exact BK338.out)) : gb338 ≠ gb340)); have n7_ := Aside0.mk ((by rw [hg]; exact Nat.ne_of_gt (blk_lt (g := gb338) (o := .cells #[.int .i64 a2_0, .int .i64 a2_1, .string a2_2, .slice A2_3 l2_3.length c2_3, .int .i64 a2_4, .int .i64 a2_5] 24 (0, 0)) (by exact BK338.out)) : gb340 ≠ gb338)); have n8_ := Aside0.mk ((by rw [hg]; exact Nat.ne_of_lt (blk_lt (g := gb339) (o := .cells #[.int .i64 a3_0, .int .i64 a3_1, .string a3_2, .slice A3_3 l3_3.length c3_3, .int .i64 a3_4, .int .i64 a3_5] 24 (0, 0)) (by exact BK339.out)) : gb339 ≠ gb340)); have n9_ := Aside0.mk ((by rw [hg]; exact Nat.ne_of_gt (blk_lt (g := gb339) (o := .cells #[.int .i64 a3_0, .int .i64 a3_1, .string a3_2, .slice A3_3 l3_3.length c3_3, .int .i64 a3_4, .int .i64 a3_5] 24 (0, 0)) (by exact BK339.out)) : gb340 ≠ gb339)); clear BK338; clear BK339; clear HB; have BK338 := n0_; have BK339 := n1_; have HB := n2_; have BK340 := n3_; have GW340 := n4_; have GE340 := n5_; have NB338_340 := n6_; have NB340_338 := n7_; have NB339_340 := n8_; have NB340_339 := n9_; clear n0_ n1_ n2_ n3_ n4_ n5_ n6_ n7_ n8_ n9_; clear hb hbox hg))
  (skip)
  go_cut [20] (fun v20 wc => ∃ (kq : Nat) (x20_30 : Bool), v20 = .bool x20_30 ∧ Aside0 (decls_Holds.j0 kq l1 false x20_30 a2_0 a2_1 a2_2 l2_3 a2_4 a2_5 a3_0 a3_1 a3_2 l3_3 a3_4 a3_5 0 0 (⟨#[]⟩ : ByteArray) 0 0 = some r) ∧ Aside0 (kq ≤ k) ∧ Aside0 (wc.heap[gb338]? = some (.cells #[.int .i64 a2_0, .int .i64 a2_1, .string a2_2, (.slice A2_3 l2_3.length c2_3), .int .i64 a2_4, .int .i64 a2_5] 24 (0, 0))) ∧ Aside0 (wc.heap[gb339]? = some (.cells #[.int .i64 a3_0, .int .i64 a3_1, .string a3_2, (.slice A3_3 l3_3.length c3_3), .int .i64 a3_4, .int .i64 a3_5] 24 (0, 0))) ∧ Aside0 (wc.heap[gb340]? = some (.cells #[.int .i64 0, .int .i64 0, .string (⟨#[]⟩ : ByteArray), (.slice none 0 0), .int .i64 0, .int .i64 0] 24 (0, 0))) ∧ Aside0 (Below w.heap.size w wc))
  case first =>
    have H := HC31.out
    clear HC31
    by_cases c35 : a0 = 51
    rotate_left
    · rw [if_neg c35] at H
      have c35b0 : (a0 == 51) = false := beq_eq_false_iff_ne.mpr c35
      have c35b1 : (a0 != 51) = true := bne_iff_ne.mpr c35
      (skip)
      have H' := Aside0.mk H
      clear H
      go_wp2
      go_meet
      case rel => exact ⟨_, (false), (by (rfl)), H', ⟨by (omega)⟩, ⟨by exact BK338.out⟩, ⟨by exact BK339.out⟩, ⟨by exact BK340.out⟩, ⟨HB.out⟩⟩
    rw [if_pos c35] at H
    have c35b0 : (a0 == 51) = true := beq_iff_eq.mpr c35
    have c35b1 : (a0 != 51) = false := bne_eq_false_iff_eq.mpr c35
    clear c35
    (skip)
    have H' := Aside0.mk H
    clear H
    go_wp2
    go_meet
    case rel => exact ⟨_, (((l1.length : Int) == 1)), (by (rfl)), H', ⟨by (omega)⟩, ⟨by exact BK338.out⟩, ⟨by exact BK339.out⟩, ⟨by exact BK340.out⟩, ⟨HB.out⟩⟩
  clear HC31
  try clear c5
  try clear c5b0
  try clear c5b1
  obtain ⟨kq, x20_30, rfl, HA, HJ30, BK338, BK339, BK340, HB⟩ := hcut
  rcases kq with _ | kj30
  · exact absurd HA.out (by simp [decls_Holds.j0])
  have H := HA.out
  clear HA
  simp only [decls_Holds.j0] at H
  by_cases c36 : x20_30 = true
  rotate_left
  · replace c36 := Bool.eq_false_iff.mpr c36
    subst c36
    have H1 : (if false = true then ((term_Same.f kj30 a3_0 a3_1 a3_2 l3_3 a3_4 a3_5 0 0 (⟨#[]⟩ : ByteArray) ([] : List (S24)) 0 0).bind fun t362 => (some t362)) else (some false)) = some r := by rw [if_neg (show ¬ (false = true) by decide)] at H; exact H
    clear H
    have H := H1
    clear H1
    by_cases c65 : false = true
    · exact absurd c65 (by decide)
    replace c65 := Bool.eq_false_iff.mpr c65
    clear c65
    have H1 : (some false) = some r := by rw [if_neg (show ¬ (false = true) by decide)] at H; exact H
    clear H
    have H := H1
    clear H1
    obtain rfl := Option.some.inj H
    go_wp2
    go_ret
    exact ⟨by (rfl), HB.out⟩

  subst c36
  have H1 : (if 0 < (l1.length : Int) then ((decls_Drop.f kj30 a2_0 a2_1 a2_2 l2_3 a2_4 a2_5 (rd l1 0)).bind fun bt352 => (if bt352.2.2.2.2.2.2 = true then ((term_Same.f kj30 a3_0 a3_1 a3_2 l3_3 a3_4 a3_5 bt352.1 bt352.2.1 bt352.2.2.1 bt352.2.2.2.1 bt352.2.2.2.2.1 bt352.2.2.2.2.2.1).bind fun t361 => (some t361)) else (some false))) else (none)) = some r := by rw [if_pos rfl] at H; exact H
  clear H
  have H := H1
  clear H1
  by_cases c37 : 0 < (l1.length : Int)
  rotate_left
  · rw [if_neg c37] at H
    exact absurd H (by simp)
  rw [if_pos c37] at H
  have c37b0 : decide (0 < (l1.length : Int)) = true := decide_eq_true c37
  have c37b1 : decide (0 < l1.length) = true := decide_eq_true (by omega)
  clear c37
  replace H := Option.bind_eq_some_iff.mp H
  obtain ⟨⟨t352, t353, t354, t355, t358, t359, t360⟩, A380, H⟩ := H
  replace H : (if t360 = true then ((term_Same.f kj30 a3_0 a3_1 a3_2 l3_3 a3_4 a3_5 t352 t353 t354 t355 t358 t359).bind fun t361 => (some t361)) else (some false)) = some r := H
  have A38 := Aside0.mk A380
  clear A380
  by_cases c39 : t360 = true
  rotate_left
  · replace c39 := Bool.eq_false_iff.mpr c39
    subst c39
    have H1 : (some false) = some r := by rw [if_neg (show ¬ (false = true) by decide)] at H; exact H
    clear H
    have H := H1
    clear H1
    obtain rfl := Option.some.inj H
    try go_wp2
    have n0_ := Aside0.mk (blk_drew BK338.out)
    have n1_ := Aside0.mk (blk_drew BK339.out)
    have n2_ := Aside0.mk (blk_drew BK340.out)
    have n3_ := Aside0.mk (below_drew1 HB.out)
    clear BK338
    clear BK339
    clear BK340
    clear HB
    have BK338 := n0_
    have BK339 := n1_
    have BK340 := n2_
    have HB := n3_
    clear n0_ n1_ n2_ n3_
    have p351 : 0 ≤ (0 : Int) := (by omega)
    have q351 : 0 < (l1.length : Int) := of_decide_eq_true (by (with_reducible assumption))
    obtain ⟨ad351, e351, hx351_0⟩ := Kd.at_int HR1.out 0 p351 q351
    have hw351_0 := hx351_0
    (try rw [show (0 : Int).toNat = 0 from rfl] at hw351_0)
    (skip)
    (try rw [Addr.add_zero'] at hw351_0)
    cases e351
    have qi351 : (0 < l1.length) = True := eq_true (by omega)
    (try rw [show (0 : Int).toNat = 0 from rfl] at hx351_0)
    (try rw [Addr.add_zero'] at hx351_0)
    replace hx351_0 := pw_cell_below HB.out hx351_0
    replace p351 := eq_true p351
    replace q351 := eq_true q351
    refine start_ (n := 10) (S := fun w' => w'.cell? ⟨gb338, 0, none⟩ = some (.int .i64 a2_0) ∧ w'.cell? ⟨gb338, 1, none⟩ = some (.int .i64 a2_1) ∧ w'.cell? ⟨gb338, 2, none⟩ = some (.string a2_2) ∧ w'.cell? ⟨gb338, 3, none⟩ = some (.slice A2_3 l2_3.length c2_3) ∧ w'.cell? ⟨gb338, 4, none⟩ = some (.int .i64 a2_4) ∧ w'.cell? ⟨gb338, 5, none⟩ = some (.int .i64 a2_5) ∧ w'.cell? ad351 = some (.int .i64 (rd l1 0))) (ds := []) (bl 10 0) (by kernel_rfl) rfl rfl ⟨(blk_cell BK338.out 0).trans rfl, (blk_cell BK338.out 1).trans rfl, (blk_cell BK338.out 2).trans rfl, (blk_cell BK338.out 3).trans rfl, (blk_cell BK338.out 4).trans rfl, (blk_cell BK338.out 5).trans rfl, (pw_cell_below HB.out hw351_0)⟩ (fun hHeld => ?_); refine with_tabW decls_Holds.tab6 decls_Holds.bits6 (fun HT_ HW_ => ?_)
    generalize wc.drew = w56 at BK338 BK339 BK340 HB hx351_0 hHeld ⊢
    refine pure_ (i := 1) (N := some 30) (v := ?_) (a' := ?_) (bl 10 2) rfl rfl (any_of HT_.out (by kernel_rfl)) (fun _ _ _ h => h) (Or.inl ⟨by rfl, ?_⟩) ?_ ?_
    rotate_left
    · intro w'; go_simp; with_reducible rfl
    rotate_left
    · simp only [Act.put, sa_, sz_, ss_, i64_w, i32_w]; rfl
    refine pure_ (i := 2) (N := some 31) (v := ?_) (a' := ?_) (bl 10 6) rfl rfl (any_of HT_.out (by kernel_rfl)) (fun _ _ _ h => h) (Or.inl ⟨by rfl, ?_⟩) ?_ ?_
    rotate_left
    · intro w'; go_simp; with_reducible rfl
    rotate_left
    · simp only [Act.put, sa_, sz_, ss_, i64_w, i32_w]; rfl
    refine take_ (i := 0) (N := some 29) (v := ?_) (a' := ?_) (bl 10 7) rfl rfl (take_ofW HT_.out HW_.out (by kernel_rfl)) (fun _ _ _ h => h) (Or.inl ⟨by rfl, ?_⟩) hHeld ?_ ?_
    rotate_left
    · rintro w' ⟨s0, s1, s2, s3, s4, s5, s6⟩
      go_simp
      with_reducible rfl
    rotate_left
    · simp only [Act.put, sa_, sz_, ss_, i64_w, i32_w]; rfl
    refine take_ (i := 3) (N := some 32) (v := ?_) (a' := ?_) (bl 10 15) rfl rfl (take_ofW HT_.out HW_.out (by kernel_rfl)) (fun _ _ _ h => h) (Or.inl ⟨by rfl, ?_⟩) hHeld ?_ ?_
    rotate_left
    · rintro w' ⟨s0, s1, s2, s3, s4, s5, s6⟩
      go_simp
      with_reducible rfl
    rotate_left
    · simp only [Act.put, sa_, sz_, ss_, i64_w, i32_w]; rfl
    refine one_ (i := 4) (N := some 33) (bl 10 31) rfl rfl (one_of HT_.out (by kernel_rfl)) (by decide) (fun K hK => ?_)
    refine goes_ Try.func9 (by kernel_rfl) rfl #[.agg #[.int .i64 a2_0, .int .i64 a2_1, .string a2_2, .slice A2_3 l2_3.length c2_3, .int .i64 a2_4, .int .i64 a2_5], .int .i64 (rd l1 0)] (by rfl) rfl rfl (by (try simp only [List.map_toArray, List.map_cons, List.map_nil]); (rfl)) ?_
    with_reducible refine (decls_Drop.calls kj30 a2_0 a2_1 a2_2 _ _ l2_3 a2_4 a2_5 (rd l1 0) t352 t353 t354 t355 t358 t359 false _ ?side1 ?side2 A38.out).mono ?_
    (case side1 => exact Kd.C_below HR2_3.out HB.out)
    (case side2 => exact HC2_3.out)
    rintro e w57 ⟨v356, rfl, ho0, hb⟩
    refine ⟨_, rfl, ?_⟩
    have n0_ := Aside0.mk (Kd.V_lower (Kd.V_mono (ok' := fun k_ => k_ ≠ gb338 ∧ k_ ≠ gb339 ∧ k_ ≠ gb340) ho0 (fun k_ hk_ => ⟨(Kd.freshB (g := gb338) (o := .cells #[.int .i64 a2_0, .int .i64 a2_1, .string a2_2, .slice A2_3 l2_3.length c2_3, .int .i64 a2_4, .int .i64 a2_5] 24 (0, 0)) (by exact BK338.out) k_ hk_), (Kd.freshB (g := gb339) (o := .cells #[.int .i64 a3_0, .int .i64 a3_1, .string a3_2, .slice A3_3 l3_3.length c3_3, .int .i64 a3_4, .int .i64 a3_5] 24 (0, 0)) (by exact BK339.out) k_ hk_), (Kd.freshB (g := gb340) (o := .cells #[.int .i64 0, .int .i64 0, .string (⟨#[]⟩ : ByteArray), .slice none 0 0, .int .i64 0, .int .i64 0] 24 (0, 0)) (by exact BK340.out) k_ hk_)⟩)) (below_size HB.out))
    have n1_ := Aside0.mk (blk_below (g := gb338) (o := .cells #[.int .i64 a2_0, .int .i64 a2_1, .string a2_2, .slice A2_3 l2_3.length c2_3, .int .i64 a2_4, .int .i64 a2_5] 24 (0, 0)) (by exact BK338.out) hb)
    have n2_ := Aside0.mk (blk_below (g := gb339) (o := .cells #[.int .i64 a3_0, .int .i64 a3_1, .string a3_2, .slice A3_3 l3_3.length c3_3, .int .i64 a3_4, .int .i64 a3_5] 24 (0, 0)) (by exact BK339.out) hb)
    have n3_ := Aside0.mk (blk_below (g := gb340) (o := .cells #[.int .i64 0, .int .i64 0, .string (⟨#[]⟩ : ByteArray), .slice none 0 0, .int .i64 0, .int .i64 0] 24 (0, 0)) (by exact BK340.out) hb)
    have n4_ := Aside0.mk (below_step HB.out hb)
    clear BK338
    clear BK339
    clear BK340
    clear HB
    have HO357 := n0_
    have BK338 := n1_
    have BK339 := n2_
    have BK340 := n3_
    have HB := n4_
    clear n0_ n1_ n2_ n3_ n4_
    (try clear hb)
    (skip)
    (skip)
    (skip)
    (try clear ho0)
    obtain ⟨Ao61, co61, eo61⟩ := Kd.V_slice HO357.out
    (subst eo61)
    refine hK.out _ _ ⟨(blk_cell BK338.out 0).trans rfl, (blk_cell BK338.out 1).trans rfl, (blk_cell BK338.out 2).trans rfl, (blk_cell BK338.out 3).trans rfl, (blk_cell BK338.out 4).trans rfl, (blk_cell BK338.out 5).trans rfl, (pw_cell_below HB.out hw351_0)⟩ (fun hHeld => ?_)
    clear hK K
    refine norm_ (a' := ?_) ?_ ?_
    rotate_left
    · show Act.put _ (some 33) _ = _
      simp only [Act.put, sa_, sz_, ss_, i64_w, i32_w]
      rfl
    refine pure_ (i := 5) (N := some 28) (v := ?_) (a' := ?_) (bl 10 63) rfl rfl (any_of HT_.out (by kernel_rfl)) (fun _ _ _ h => h) (Or.inl ⟨by rfl, ?_⟩) ?_ ?_
    rotate_left
    · intro w'; go_simp; with_reducible rfl
    rotate_left
    · simp only [Act.put, sa_, sz_, ss_, i64_w, i32_w]; rfl
    refine pure_ (i := 6) (N := some 34) (v := ?_) (a' := ?_) (bl 10 127) rfl rfl (any_of HT_.out (by kernel_rfl)) (fun _ _ _ h => h) (Or.inl ⟨by rfl, ?_⟩) ?_ ?_
    rotate_left
    · intro w'; go_simp; with_reducible rfl
    rotate_left
    · simp only [Act.put, sa_, sz_, ss_, i64_w, i32_w]; rfl
    refine pure_ (i := 7) (N := some 35) (v := ?_) (a' := ?_) (bl 10 255) rfl rfl (any_of HT_.out (by kernel_rfl)) (fun _ _ _ h => h) (Or.inl ⟨by rfl, ?_⟩) ?_ ?_
    rotate_left
    · intro w'; go_simp; with_reducible rfl
    rotate_left
    · simp only [Act.put, sa_, sz_, ss_, i64_w, i32_w]; rfl
    refine one_ (i := 8) (N := none) (bl 10 511) rfl rfl (one_of HT_.out (by kernel_rfl)) (by decide) (fun K hK => ?_)
    have hs58 : w57.cell? ⟨gb340, 0, none⟩ = some (.int .i64 0) := (blk_cell BK340.out 0).trans rfl
    have hfs58 := blk_frozen BK340.out 0
    have hns58_0 := NB338_340.out
    have hns58_1 := NB339_340.out
    have hms58_0 := NB340_338.out
    have hms58_1 := NB340_339.out
    have hs59 : w57.cell? ⟨gb340, 1, none⟩ = some (.int .i64 0) := (blk_cell BK340.out 1).trans rfl
    have hfs59 := blk_frozen BK340.out 1
    have hns59_0 := NB338_340.out
    have hns59_1 := NB339_340.out
    have hms59_0 := NB340_338.out
    have hms59_1 := NB340_339.out
    have hs60 : w57.cell? ⟨gb340, 2, none⟩ = some (.string (⟨#[]⟩ : ByteArray)) := (blk_cell BK340.out 2).trans rfl
    have hfs60 := blk_frozen BK340.out 2
    have hns60_0 := NB338_340.out
    have hns60_1 := NB339_340.out
    have hms60_0 := NB340_338.out
    have hms60_1 := NB340_339.out
    have hs62 : w57.cell? ⟨gb340, 3, none⟩ = some (.slice none 0 0) := (blk_cell BK340.out 3).trans rfl
    have hfs62 := blk_frozen BK340.out 3
    have hns62_0 := NB338_340.out
    have hns62_1 := NB339_340.out
    have hms62_0 := NB340_338.out
    have hms62_1 := NB340_339.out
    have hs63 : w57.cell? ⟨gb340, 4, none⟩ = some (.int .i64 0) := (blk_cell BK340.out 4).trans rfl
    have hfs63 := blk_frozen BK340.out 4
    have hns63_0 := NB338_340.out
    have hns63_1 := NB339_340.out
    have hms63_0 := NB340_338.out
    have hms63_1 := NB340_339.out
    have hs64 : w57.cell? ⟨gb340, 5, none⟩ = some (.int .i64 0) := (blk_cell BK340.out 5).trans rfl
    have hfs64 := blk_frozen BK340.out 5
    have hns64_0 := NB338_340.out
    have hns64_1 := NB339_340.out
    have hms64_0 := NB340_338.out
    have hms64_1 := NB340_339.out
    refine skip_ (w1 := ?_) (by rfl) rfl ?_ ?_
    rotate_left
    · go_simp
      rfl
    refine hK.out _ _ ⟨((cell_far (p := ⟨gb340, _, none⟩) NB338_340.out _).trans (((cell_far (p := ⟨gb340, _, none⟩) NB338_340.out _).trans (((cell_far (p := ⟨gb340, _, none⟩) NB338_340.out _).trans (((cell_far (p := ⟨gb340, _, none⟩) NB338_340.out _).trans (((cell_far (p := ⟨gb340, _, none⟩) NB338_340.out _).trans (((cell_far (p := ⟨gb340, _, none⟩) NB338_340.out _).trans (hHeld.1)))))))))))), ((cell_far (p := ⟨gb340, _, none⟩) NB338_340.out _).trans (((cell_far (p := ⟨gb340, _, none⟩) NB338_340.out _).trans (((cell_far (p := ⟨gb340, _, none⟩) NB338_340.out _).trans (((cell_far (p := ⟨gb340, _, none⟩) NB338_340.out _).trans (((cell_far (p := ⟨gb340, _, none⟩) NB338_340.out _).trans (((cell_far (p := ⟨gb340, _, none⟩) NB338_340.out _).trans (hHeld.2.1)))))))))))), ((cell_far (p := ⟨gb340, _, none⟩) NB338_340.out _).trans (((cell_far (p := ⟨gb340, _, none⟩) NB338_340.out _).trans (((cell_far (p := ⟨gb340, _, none⟩) NB338_340.out _).trans (((cell_far (p := ⟨gb340, _, none⟩) NB338_340.out _).trans (((cell_far (p := ⟨gb340, _, none⟩) NB338_340.out _).trans (((cell_far (p := ⟨gb340, _, none⟩) NB338_340.out _).trans (hHeld.2.2.1)))))))))))), ((cell_far (p := ⟨gb340, _, none⟩) NB338_340.out _).trans (((cell_far (p := ⟨gb340, _, none⟩) NB338_340.out _).trans (((cell_far (p := ⟨gb340, _, none⟩) NB338_340.out _).trans (((cell_far (p := ⟨gb340, _, none⟩) NB338_340.out _).trans (((cell_far (p := ⟨gb340, _, none⟩) NB338_340.out _).trans (((cell_far (p := ⟨gb340, _, none⟩) NB338_340.out _).trans (hHeld.2.2.2.1)))))))))))), ((cell_far (p := ⟨gb340, _, none⟩) NB338_340.out _).trans (((cell_far (p := ⟨gb340, _, none⟩) NB338_340.out _).trans (((cell_far (p := ⟨gb340, _, none⟩) NB338_340.out _).trans (((cell_far (p := ⟨gb340, _, none⟩) NB338_340.out _).trans (((cell_far (p := ⟨gb340, _, none⟩) NB338_340.out _).trans (((cell_far (p := ⟨gb340, _, none⟩) NB338_340.out _).trans (hHeld.2.2.2.2.1)))))))))))), ((cell_far (p := ⟨gb340, _, none⟩) NB338_340.out _).trans (((cell_far (p := ⟨gb340, _, none⟩) NB338_340.out _).trans (((cell_far (p := ⟨gb340, _, none⟩) NB338_340.out _).trans (((cell_far (p := ⟨gb340, _, none⟩) NB338_340.out _).trans (((cell_far (p := ⟨gb340, _, none⟩) NB338_340.out _).trans (((cell_far (p := ⟨gb340, _, none⟩) NB338_340.out _).trans (hHeld.2.2.2.2.2.1)))))))))))), ((cell_far (p := ⟨gb340, _, none⟩) (by (exact Nat.ne_of_lt (Nat.lt_of_lt_of_le (by have := World.block_lt_of_cell? _ _ hw351_0; (exact this)) GW340.out))) _).trans (((cell_far (p := ⟨gb340, _, none⟩) (by (exact Nat.ne_of_lt (Nat.lt_of_lt_of_le (by have := World.block_lt_of_cell? _ _ hw351_0; (exact this)) GW340.out))) _).trans (((cell_far (p := ⟨gb340, _, none⟩) (by (exact Nat.ne_of_lt (Nat.lt_of_lt_of_le (by have := World.block_lt_of_cell? _ _ hw351_0; (exact this)) GW340.out))) _).trans (((cell_far (p := ⟨gb340, _, none⟩) (by (exact Nat.ne_of_lt (Nat.lt_of_lt_of_le (by have := World.block_lt_of_cell? _ _ hw351_0; (exact this)) GW340.out))) _).trans (((cell_far (p := ⟨gb340, _, none⟩) (by (exact Nat.ne_of_lt (Nat.lt_of_lt_of_le (by have := World.block_lt_of_cell? _ _ hw351_0; (exact this)) GW340.out))) _).trans (((cell_far (p := ⟨gb340, _, none⟩) (by (exact Nat.ne_of_lt (Nat.lt_of_lt_of_le (by have := World.block_lt_of_cell? _ _ hw351_0; (exact this)) GW340.out))) _).trans (hHeld.2.2.2.2.2.2))))))))))))⟩ (fun hHeld => ?_)
    clear hK K
    refine pure_ (i := 9) (N := some 10) (v := ?_) (a' := ?_) (bl 10 1023) rfl rfl (any_of HT_.out (by kernel_rfl)) (fun _ _ _ h => h) (Or.inl ⟨by rfl, ?_⟩) ?_ ?_
    rotate_left
    · intro w'; go_simp; with_reducible rfl
    rotate_left
    · simp only [Act.put, sa_, sz_, ss_, i64_w, i32_w]; rfl
    refine done_ (done_of HT_.out (by kernel_rfl)) ?_
    try go_wp2
    go_ret
    exact ⟨by (rfl), by repeat (with_reducible first | exact HB.out | refine below_set ?_ GE340.out)⟩
  subst c39
  have H1 : ((term_Same.f kj30 a3_0 a3_1 a3_2 l3_3 a3_4 a3_5 t352 t353 t354 t355 t358 t359).bind fun t361 => (some t361)) = some r := by rw [if_pos rfl] at H; exact H
  clear H
  have H := H1
  clear H1
  replace H := Option.bind_eq_some_iff.mp H
  obtain ⟨t361, A400, H⟩ := H
  replace H : (some t361) = some r := H
  have A40 := Aside0.mk A400
  clear A400
  obtain rfl := Option.some.inj H
  try go_wp2
  have n0_ := Aside0.mk (blk_drew BK338.out)
  have n1_ := Aside0.mk (blk_drew BK339.out)
  have n2_ := Aside0.mk (blk_drew BK340.out)
  have n3_ := Aside0.mk (below_drew1 HB.out)
  clear BK338
  clear BK339
  clear BK340
  clear HB
  have BK338 := n0_
  have BK339 := n1_
  have BK340 := n2_
  have HB := n3_
  clear n0_ n1_ n2_ n3_
  have p351 : 0 ≤ (0 : Int) := (by omega)
  have q351 : 0 < (l1.length : Int) := of_decide_eq_true (by (with_reducible assumption))
  obtain ⟨ad351, e351, hx351_0⟩ := Kd.at_int HR1.out 0 p351 q351
  have hw351_0 := hx351_0
  (try rw [show (0 : Int).toNat = 0 from rfl] at hw351_0)
  (skip)
  (try rw [Addr.add_zero'] at hw351_0)
  cases e351
  have qi351 : (0 < l1.length) = True := eq_true (by omega)
  (try rw [show (0 : Int).toNat = 0 from rfl] at hx351_0)
  (try rw [Addr.add_zero'] at hx351_0)
  replace hx351_0 := pw_cell_below HB.out hx351_0
  replace p351 := eq_true p351
  replace q351 := eq_true q351
  refine start_ (n := 10) (S := fun w' => w'.cell? ⟨gb338, 0, none⟩ = some (.int .i64 a2_0) ∧ w'.cell? ⟨gb338, 1, none⟩ = some (.int .i64 a2_1) ∧ w'.cell? ⟨gb338, 2, none⟩ = some (.string a2_2) ∧ w'.cell? ⟨gb338, 3, none⟩ = some (.slice A2_3 l2_3.length c2_3) ∧ w'.cell? ⟨gb338, 4, none⟩ = some (.int .i64 a2_4) ∧ w'.cell? ⟨gb338, 5, none⟩ = some (.int .i64 a2_5) ∧ w'.cell? ad351 = some (.int .i64 (rd l1 0))) (ds := []) (bl 10 0) (by kernel_rfl) rfl rfl ⟨(blk_cell BK338.out 0).trans rfl, (blk_cell BK338.out 1).trans rfl, (blk_cell BK338.out 2).trans rfl, (blk_cell BK338.out 3).trans rfl, (blk_cell BK338.out 4).trans rfl, (blk_cell BK338.out 5).trans rfl, (pw_cell_below HB.out hw351_0)⟩ (fun hHeld => ?_); refine with_tabW decls_Holds.tab6 decls_Holds.bits6 (fun HT_ HW_ => ?_)
  generalize wc.drew = w41 at BK338 BK339 BK340 HB hx351_0 hHeld ⊢
  refine pure_ (i := 1) (N := some 30) (v := ?_) (a' := ?_) (bl 10 2) rfl rfl (any_of HT_.out (by kernel_rfl)) (fun _ _ _ h => h) (Or.inl ⟨by rfl, ?_⟩) ?_ ?_
  rotate_left
  · intro w'; go_simp; with_reducible rfl
  rotate_left
  · simp only [Act.put, sa_, sz_, ss_, i64_w, i32_w]; rfl
  refine pure_ (i := 2) (N := some 31) (v := ?_) (a' := ?_) (bl 10 6) rfl rfl (any_of HT_.out (by kernel_rfl)) (fun _ _ _ h => h) (Or.inl ⟨by rfl, ?_⟩) ?_ ?_
  rotate_left
  · intro w'; go_simp; with_reducible rfl
  rotate_left
  · simp only [Act.put, sa_, sz_, ss_, i64_w, i32_w]; rfl
  refine take_ (i := 0) (N := some 29) (v := ?_) (a' := ?_) (bl 10 7) rfl rfl (take_ofW HT_.out HW_.out (by kernel_rfl)) (fun _ _ _ h => h) (Or.inl ⟨by rfl, ?_⟩) hHeld ?_ ?_
  rotate_left
  · rintro w' ⟨s0, s1, s2, s3, s4, s5, s6⟩
    go_simp
    with_reducible rfl
  rotate_left
  · simp only [Act.put, sa_, sz_, ss_, i64_w, i32_w]; rfl
  refine take_ (i := 3) (N := some 32) (v := ?_) (a' := ?_) (bl 10 15) rfl rfl (take_ofW HT_.out HW_.out (by kernel_rfl)) (fun _ _ _ h => h) (Or.inl ⟨by rfl, ?_⟩) hHeld ?_ ?_
  rotate_left
  · rintro w' ⟨s0, s1, s2, s3, s4, s5, s6⟩
    go_simp
    with_reducible rfl
  rotate_left
  · simp only [Act.put, sa_, sz_, ss_, i64_w, i32_w]; rfl
  refine one_ (i := 4) (N := some 33) (bl 10 31) rfl rfl (one_of HT_.out (by kernel_rfl)) (by decide) (fun K hK => ?_)
  refine goes_ Try.func9 (by kernel_rfl) rfl #[.agg #[.int .i64 a2_0, .int .i64 a2_1, .string a2_2, .slice A2_3 l2_3.length c2_3, .int .i64 a2_4, .int .i64 a2_5], .int .i64 (rd l1 0)] (by rfl) rfl rfl (by (try simp only [List.map_toArray, List.map_cons, List.map_nil]); (rfl)) ?_
  with_reducible refine (decls_Drop.calls kj30 a2_0 a2_1 a2_2 _ _ l2_3 a2_4 a2_5 (rd l1 0) t352 t353 t354 t355 t358 t359 true _ ?side1 ?side2 A38.out).mono ?_
  (case side1 => exact Kd.C_below HR2_3.out HB.out)
  (case side2 => exact HC2_3.out)
  rintro e w42 ⟨v356, rfl, ho0, hb⟩
  refine ⟨_, rfl, ?_⟩
  have n0_ := Aside0.mk (Kd.V_lower (Kd.V_mono (ok' := fun k_ => k_ ≠ gb338 ∧ k_ ≠ gb339 ∧ k_ ≠ gb340) ho0 (fun k_ hk_ => ⟨(Kd.freshB (g := gb338) (o := .cells #[.int .i64 a2_0, .int .i64 a2_1, .string a2_2, .slice A2_3 l2_3.length c2_3, .int .i64 a2_4, .int .i64 a2_5] 24 (0, 0)) (by exact BK338.out) k_ hk_), (Kd.freshB (g := gb339) (o := .cells #[.int .i64 a3_0, .int .i64 a3_1, .string a3_2, .slice A3_3 l3_3.length c3_3, .int .i64 a3_4, .int .i64 a3_5] 24 (0, 0)) (by exact BK339.out) k_ hk_), (Kd.freshB (g := gb340) (o := .cells #[.int .i64 0, .int .i64 0, .string (⟨#[]⟩ : ByteArray), .slice none 0 0, .int .i64 0, .int .i64 0] 24 (0, 0)) (by exact BK340.out) k_ hk_)⟩)) (below_size HB.out))
  have n1_ := Aside0.mk (blk_below (g := gb338) (o := .cells #[.int .i64 a2_0, .int .i64 a2_1, .string a2_2, .slice A2_3 l2_3.length c2_3, .int .i64 a2_4, .int .i64 a2_5] 24 (0, 0)) (by exact BK338.out) hb)
  have n2_ := Aside0.mk (blk_below (g := gb339) (o := .cells #[.int .i64 a3_0, .int .i64 a3_1, .string a3_2, .slice A3_3 l3_3.length c3_3, .int .i64 a3_4, .int .i64 a3_5] 24 (0, 0)) (by exact BK339.out) hb)
  have n3_ := Aside0.mk (blk_below (g := gb340) (o := .cells #[.int .i64 0, .int .i64 0, .string (⟨#[]⟩ : ByteArray), .slice none 0 0, .int .i64 0, .int .i64 0] 24 (0, 0)) (by exact BK340.out) hb)
  have n4_ := Aside0.mk (below_step HB.out hb)
  clear BK338
  clear BK339
  clear BK340
  clear HB
  have HO357 := n0_
  have BK338 := n1_
  have BK339 := n2_
  have BK340 := n3_
  have HB := n4_
  clear n0_ n1_ n2_ n3_ n4_
  (try clear hb)
  (skip)
  (skip)
  (skip)
  (try clear ho0)
  obtain ⟨Ao46, co46, eo46⟩ := Kd.V_slice HO357.out
  (subst eo46)
  refine hK.out _ _ ⟨(blk_cell BK338.out 0).trans rfl, (blk_cell BK338.out 1).trans rfl, (blk_cell BK338.out 2).trans rfl, (blk_cell BK338.out 3).trans rfl, (blk_cell BK338.out 4).trans rfl, (blk_cell BK338.out 5).trans rfl, (pw_cell_below HB.out hw351_0)⟩ (fun hHeld => ?_)
  clear hK K
  refine norm_ (a' := ?_) ?_ ?_
  rotate_left
  · show Act.put _ (some 33) _ = _
    simp only [Act.put, sa_, sz_, ss_, i64_w, i32_w]
    rfl
  refine pure_ (i := 5) (N := some 28) (v := ?_) (a' := ?_) (bl 10 63) rfl rfl (any_of HT_.out (by kernel_rfl)) (fun _ _ _ h => h) (Or.inl ⟨by rfl, ?_⟩) ?_ ?_
  rotate_left
  · intro w'; go_simp; with_reducible rfl
  rotate_left
  · simp only [Act.put, sa_, sz_, ss_, i64_w, i32_w]; rfl
  refine pure_ (i := 6) (N := some 34) (v := ?_) (a' := ?_) (bl 10 127) rfl rfl (any_of HT_.out (by kernel_rfl)) (fun _ _ _ h => h) (Or.inl ⟨by rfl, ?_⟩) ?_ ?_
  rotate_left
  · intro w'; go_simp; with_reducible rfl
  rotate_left
  · simp only [Act.put, sa_, sz_, ss_, i64_w, i32_w]; rfl
  refine pure_ (i := 7) (N := some 35) (v := ?_) (a' := ?_) (bl 10 255) rfl rfl (any_of HT_.out (by kernel_rfl)) (fun _ _ _ h => h) (Or.inl ⟨by rfl, ?_⟩) ?_ ?_
  rotate_left
  · intro w'; go_simp; with_reducible rfl
  rotate_left
  · simp only [Act.put, sa_, sz_, ss_, i64_w, i32_w]; rfl
  refine one_ (i := 8) (N := none) (bl 10 511) rfl rfl (one_of HT_.out (by kernel_rfl)) (by decide) (fun K hK => ?_)
  have hs43 : w42.cell? ⟨gb340, 0, none⟩ = some (.int .i64 0) := (blk_cell BK340.out 0).trans rfl
  have hfs43 := blk_frozen BK340.out 0
  have hns43_0 := NB338_340.out
  have hns43_1 := NB339_340.out
  have hms43_0 := NB340_338.out
  have hms43_1 := NB340_339.out
  have hs44 : w42.cell? ⟨gb340, 1, none⟩ = some (.int .i64 0) := (blk_cell BK340.out 1).trans rfl
  have hfs44 := blk_frozen BK340.out 1
  have hns44_0 := NB338_340.out
  have hns44_1 := NB339_340.out
  have hms44_0 := NB340_338.out
  have hms44_1 := NB340_339.out
  have hs45 : w42.cell? ⟨gb340, 2, none⟩ = some (.string (⟨#[]⟩ : ByteArray)) := (blk_cell BK340.out 2).trans rfl
  have hfs45 := blk_frozen BK340.out 2
  have hns45_0 := NB338_340.out
  have hns45_1 := NB339_340.out
  have hms45_0 := NB340_338.out
  have hms45_1 := NB340_339.out
  have hs47 : w42.cell? ⟨gb340, 3, none⟩ = some (.slice none 0 0) := (blk_cell BK340.out 3).trans rfl
  have hfs47 := blk_frozen BK340.out 3
  have hns47_0 := NB338_340.out
  have hns47_1 := NB339_340.out
  have hms47_0 := NB340_338.out
  have hms47_1 := NB340_339.out
  have hs48 : w42.cell? ⟨gb340, 4, none⟩ = some (.int .i64 0) := (blk_cell BK340.out 4).trans rfl
  have hfs48 := blk_frozen BK340.out 4
  have hns48_0 := NB338_340.out
  have hns48_1 := NB339_340.out
  have hms48_0 := NB340_338.out
  have hms48_1 := NB340_339.out
  have hs49 : w42.cell? ⟨gb340, 5, none⟩ = some (.int .i64 0) := (blk_cell BK340.out 5).trans rfl
  have hfs49 := blk_frozen BK340.out 5
  have hns49_0 := NB338_340.out
  have hns49_1 := NB339_340.out
  have hms49_0 := NB340_338.out
  have hms49_1 := NB340_339.out
  refine skip_ (w1 := ?_) (by rfl) rfl ?_ ?_
  rotate_left
  · go_simp
    rfl
  refine hK.out _ _ ⟨((cell_far (p := ⟨gb340, _, none⟩) NB338_340.out _).trans (((cell_far (p := ⟨gb340, _, none⟩) NB338_340.out _).trans (((cell_far (p := ⟨gb340, _, none⟩) NB338_340.out _).trans (((cell_far (p := ⟨gb340, _, none⟩) NB338_340.out _).trans (((cell_far (p := ⟨gb340, _, none⟩) NB338_340.out _).trans (((cell_far (p := ⟨gb340, _, none⟩) NB338_340.out _).trans (hHeld.1)))))))))))), ((cell_far (p := ⟨gb340, _, none⟩) NB338_340.out _).trans (((cell_far (p := ⟨gb340, _, none⟩) NB338_340.out _).trans (((cell_far (p := ⟨gb340, _, none⟩) NB338_340.out _).trans (((cell_far (p := ⟨gb340, _, none⟩) NB338_340.out _).trans (((cell_far (p := ⟨gb340, _, none⟩) NB338_340.out _).trans (((cell_far (p := ⟨gb340, _, none⟩) NB338_340.out _).trans (hHeld.2.1)))))))))))), ((cell_far (p := ⟨gb340, _, none⟩) NB338_340.out _).trans (((cell_far (p := ⟨gb340, _, none⟩) NB338_340.out _).trans (((cell_far (p := ⟨gb340, _, none⟩) NB338_340.out _).trans (((cell_far (p := ⟨gb340, _, none⟩) NB338_340.out _).trans (((cell_far (p := ⟨gb340, _, none⟩) NB338_340.out _).trans (((cell_far (p := ⟨gb340, _, none⟩) NB338_340.out _).trans (hHeld.2.2.1)))))))))))), ((cell_far (p := ⟨gb340, _, none⟩) NB338_340.out _).trans (((cell_far (p := ⟨gb340, _, none⟩) NB338_340.out _).trans (((cell_far (p := ⟨gb340, _, none⟩) NB338_340.out _).trans (((cell_far (p := ⟨gb340, _, none⟩) NB338_340.out _).trans (((cell_far (p := ⟨gb340, _, none⟩) NB338_340.out _).trans (((cell_far (p := ⟨gb340, _, none⟩) NB338_340.out _).trans (hHeld.2.2.2.1)))))))))))), ((cell_far (p := ⟨gb340, _, none⟩) NB338_340.out _).trans (((cell_far (p := ⟨gb340, _, none⟩) NB338_340.out _).trans (((cell_far (p := ⟨gb340, _, none⟩) NB338_340.out _).trans (((cell_far (p := ⟨gb340, _, none⟩) NB338_340.out _).trans (((cell_far (p := ⟨gb340, _, none⟩) NB338_340.out _).trans (((cell_far (p := ⟨gb340, _, none⟩) NB338_340.out _).trans (hHeld.2.2.2.2.1)))))))))))), ((cell_far (p := ⟨gb340, _, none⟩) NB338_340.out _).trans (((cell_far (p := ⟨gb340, _, none⟩) NB338_340.out _).trans (((cell_far (p := ⟨gb340, _, none⟩) NB338_340.out _).trans (((cell_far (p := ⟨gb340, _, none⟩) NB338_340.out _).trans (((cell_far (p := ⟨gb340, _, none⟩) NB338_340.out _).trans (((cell_far (p := ⟨gb340, _, none⟩) NB338_340.out _).trans (hHeld.2.2.2.2.2.1)))))))))))), ((cell_far (p := ⟨gb340, _, none⟩) (by (exact Nat.ne_of_lt (Nat.lt_of_lt_of_le (by have := World.block_lt_of_cell? _ _ hw351_0; (exact this)) GW340.out))) _).trans (((cell_far (p := ⟨gb340, _, none⟩) (by (exact Nat.ne_of_lt (Nat.lt_of_lt_of_le (by have := World.block_lt_of_cell? _ _ hw351_0; (exact this)) GW340.out))) _).trans (((cell_far (p := ⟨gb340, _, none⟩) (by (exact Nat.ne_of_lt (Nat.lt_of_lt_of_le (by have := World.block_lt_of_cell? _ _ hw351_0; (exact this)) GW340.out))) _).trans (((cell_far (p := ⟨gb340, _, none⟩) (by (exact Nat.ne_of_lt (Nat.lt_of_lt_of_le (by have := World.block_lt_of_cell? _ _ hw351_0; (exact this)) GW340.out))) _).trans (((cell_far (p := ⟨gb340, _, none⟩) (by (exact Nat.ne_of_lt (Nat.lt_of_lt_of_le (by have := World.block_lt_of_cell? _ _ hw351_0; (exact this)) GW340.out))) _).trans (((cell_far (p := ⟨gb340, _, none⟩) (by (exact Nat.ne_of_lt (Nat.lt_of_lt_of_le (by have := World.block_lt_of_cell? _ _ hw351_0; (exact this)) GW340.out))) _).trans (hHeld.2.2.2.2.2.2))))))))))))⟩ (fun hHeld => ?_)
  clear hK K
  refine pure_ (i := 9) (N := some 10) (v := ?_) (a' := ?_) (bl 10 1023) rfl rfl (any_of HT_.out (by kernel_rfl)) (fun _ _ _ h => h) (Or.inl ⟨by rfl, ?_⟩) ?_ ?_
  rotate_left
  · intro w'; go_simp; with_reducible rfl
  rotate_left
  · simp only [Act.put, sa_, sz_, ss_, i64_w, i32_w]; rfl
  refine done_ (done_of HT_.out (by kernel_rfl)) ?_
  have hnb50 := NB339_338.out
  have hnc50 := NB338_339.out
  have hnb51 := NB339_340.out
  have hnc51 := NB340_339.out
  have hcz52_0 : w42.cell? ⟨gb339, 0, none⟩ = some (.int .i64 a3_0) := (blk_cell BK339.out 0).trans rfl
  have hcz52_1 : w42.cell? ⟨gb339, 1, none⟩ = some (.int .i64 a3_1) := (blk_cell BK339.out 1).trans rfl
  have hcz52_2 : w42.cell? ⟨gb339, 2, none⟩ = some (.string a3_2) := (blk_cell BK339.out 2).trans rfl
  have hcz52_3 : w42.cell? ⟨gb339, 3, none⟩ = some (.slice A3_3 l3_3.length c3_3) := (blk_cell BK339.out 3).trans rfl
  have hcz52_4 : w42.cell? ⟨gb339, 4, none⟩ = some (.int .i64 a3_4) := (blk_cell BK339.out 4).trans rfl
  have hcz52_5 : w42.cell? ⟨gb339, 5, none⟩ = some (.int .i64 a3_5) := (blk_cell BK339.out 5).trans rfl
  have hfz52_0 := blk_frozen BK339.out 0
  have hfz52_1 := blk_frozen BK339.out 1
  have hfz52_2 := blk_frozen BK339.out 2
  have hfz52_3 := blk_frozen BK339.out 3
  have hfz52_4 := blk_frozen BK339.out 4
  have hfz52_5 := blk_frozen BK339.out 5
  have hnb53 := NB340_338.out
  have hnc53 := NB338_340.out
  have hcz54_0 : w42.cell? ⟨gb340, 0, none⟩ = some (.int .i64 0) := (blk_cell BK340.out 0).trans rfl
  have hcz54_1 : w42.cell? ⟨gb340, 1, none⟩ = some (.int .i64 0) := (blk_cell BK340.out 1).trans rfl
  have hcz54_2 : w42.cell? ⟨gb340, 2, none⟩ = some (.string (⟨#[]⟩ : ByteArray)) := (blk_cell BK340.out 2).trans rfl
  have hcz54_3 : w42.cell? ⟨gb340, 3, none⟩ = some (.slice none 0 0) := (blk_cell BK340.out 3).trans rfl
  have hcz54_4 : w42.cell? ⟨gb340, 4, none⟩ = some (.int .i64 0) := (blk_cell BK340.out 4).trans rfl
  have hcz54_5 : w42.cell? ⟨gb340, 5, none⟩ = some (.int .i64 0) := (blk_cell BK340.out 5).trans rfl
  have hfz54_0 := blk_frozen BK340.out 0
  have hfz54_1 := blk_frozen BK340.out 1
  have hfz54_2 := blk_frozen BK340.out 2
  have hfz54_3 := blk_frozen BK340.out 3
  have hfz54_4 := blk_frozen BK340.out 4
  have hfz54_5 := blk_frozen BK340.out 5
  try go_wp2_with (((go_at_call 32; (with_reducible refine (term_Same.calls kj30 a3_0 a3_1 a3_2 _ _ l3_3 a3_4 a3_5 t352 t353 t354 _ _ t355 t358 t359 t361 _ ?side1 ?side2 ?side3 ?side4 A40.out).mono ?_); (case side1 => exact Kd.C_below HR3_3.out (by repeat (with_reducible first | exact HB.out | refine below_set ?_ GE340.out))); (case side2 => exact HC3_3.out); (case side3 => refine (Kd.V_reads' (e := 24) (base := w.heap.size) (ok := fun k_ => (k_ ≠ gb338 ∧ (k_ ≠ gb339 ∧ k_ ≠ gb340))) (n := t355.length) (c := co46) ?_).2.2; exact (by exact (Kd.V_mono (Kd.V_far (p := ⟨gb340, 5, none⟩) (Kd.V_far (p := ⟨gb340, 4, none⟩) (Kd.V_far (p := ⟨gb340, 3, none⟩) (Kd.V_far (p := ⟨gb340, 2, none⟩) (Kd.V_far (p := ⟨gb340, 1, none⟩) (Kd.V_far (p := ⟨gb340, 0, none⟩) (Kd.V_mono HO357.out (fun k_ hk => (⟨hk, hk.2.2⟩ : _ ∧ k_ ≠ gb340))) (fun _ hk => hk.2) (.int .i64 t352)) (fun _ hk => hk.2) (.int .i64 t353)) (fun _ hk => hk.2) (.string t354)) (fun _ hk => hk.2) (.slice Ao46 t355.length co46)) (fun _ hk => hk.2) (.int .i64 t358)) (fun _ hk => hk.2) (.int .i64 t359)) (fun _ h_ => h_.1)))); (case side4 => exact (Kd.V_reads' HO357.out).2.1); rintro e w55 ⟨rfl, hb⟩; have n0_ := Aside0.mk (Kd.V_below (by exact (Kd.V_mono (Kd.V_far (p := ⟨gb340, 5, none⟩) (Kd.V_far (p := ⟨gb340, 4, none⟩) (Kd.V_far (p := ⟨gb340, 3, none⟩) (Kd.V_far (p := ⟨gb340, 2, none⟩) (Kd.V_far (p := ⟨gb340, 1, none⟩) (Kd.V_far (p := ⟨gb340, 0, none⟩) (Kd.V_mono HO357.out (fun k_ hk => (⟨hk, hk.2.2⟩ : _ ∧ k_ ≠ gb340))) (fun _ hk => hk.2) (.int .i64 t352)) (fun _ hk => hk.2) (.int .i64 t353)) (fun _ hk => hk.2) (.string t354)) (fun _ hk => hk.2) (.slice Ao46 t355.length co46)) (fun _ hk => hk.2) (.int .i64 t358)) (fun _ hk => hk.2) (.int .i64 t359)) (fun _ h_ => h_.1))) hb); have n1_ := Aside0.mk (blk_below (g := gb338) (o := .cells #[.int .i64 a2_0, .int .i64 a2_1, .string a2_2, .slice A2_3 l2_3.length c2_3, .int .i64 a2_4, .int .i64 a2_5] 24 (0, 0)) (by refine blk_far ?_ NB338_340.out _; refine blk_far ?_ NB338_340.out _; refine blk_far ?_ NB338_340.out _; refine blk_far ?_ NB338_340.out _; refine blk_far ?_ NB338_340.out _; refine blk_far ?_ NB338_340.out _; exact BK338.out) hb); have n2_ := Aside0.mk (blk_below (g := gb339) (o := .cells #[.int .i64 a3_0, .int .i64 a3_1, .string a3_2, .slice A3_3 l3_3.length c3_3, .int .i64 a3_4, .int .i64 a3_5] 24 (0, 0)) (by refine blk_far ?_ NB339_340.out _; refine blk_far ?_ NB339_340.out _; refine blk_far ?_ NB339_340.out _; refine blk_far ?_ NB339_340.out _; refine blk_far ?_ NB339_340.out _; refine blk_far ?_ NB339_340.out _; exact BK339.out) hb); have n3_ := Aside0.mk (blk_below (g := gb340) (o := .cells #[.int .i64 t352, .int .i64 t353, .string t354, .slice Ao46 t355.length co46, .int .i64 t358, .int .i64 t359] 24 (0, 0)) (by refine blk_put (cs := #[.int .i64 t352, .int .i64 t353, .string t354, .slice Ao46 t355.length co46, .int .i64 t358, .int .i64 0]) ?_ 5 _ rfl; refine blk_put (cs := #[.int .i64 t352, .int .i64 t353, .string t354, .slice Ao46 t355.length co46, .int .i64 0, .int .i64 0]) ?_ 4 _ rfl; refine blk_put (cs := #[.int .i64 t352, .int .i64 t353, .string t354, .slice none 0 0, .int .i64 0, .int .i64 0]) ?_ 3 _ rfl; refine blk_put (cs := #[.int .i64 t352, .int .i64 t353, .string (⟨#[]⟩ : ByteArray), .slice none 0 0, .int .i64 0, .int .i64 0]) ?_ 2 _ rfl; refine blk_put (cs := #[.int .i64 t352, .int .i64 0, .string (⟨#[]⟩ : ByteArray), .slice none 0 0, .int .i64 0, .int .i64 0]) ?_ 1 _ rfl; refine blk_put (cs := #[.int .i64 0, .int .i64 0, .string (⟨#[]⟩ : ByteArray), .slice none 0 0, .int .i64 0, .int .i64 0]) ?_ 0 _ rfl; exact BK340.out) hb); have n4_ := Aside0.mk (below_step (by repeat (with_reducible first | exact HB.out | refine below_set ?_ GE340.out)) hb); clear HO357; clear BK338; clear BK339; clear BK340; clear HB; have HO357 := n0_; have BK338 := n1_; have BK339 := n2_; have BK340 := n3_; have HB := n4_; clear n0_ n1_ n2_ n3_ n4_; (try clear hb); (skip))))
  go_ret
  exact ⟨by (rfl), HB.out⟩
end Go.Proofs.Ytgjmidpoebnieaa.PDm
