-- PRINTED by print.py (a twelfth state) out of the translation. Not trusted: Lean checks it.
import Derived.Test.YtppeaofdohghgaaPFcx0
import Derived.Test.YtppeaofdohghgaaPFcx4
namespace Go.Proofs.Ytppeaofdohghgaa.PFc
open Go.RowKit Go.Proofs.YtppeaofdohghgaaW.PrintWords Go.Proofs.YtppeaofdohghgaaW.PrintLast Go.Proofs.YtppeaofdohghgaaW.PrintMore
attribute [local go_sem] max2_int min2_int max_two min_two max_three min_three max_four min_four   -- for this text's walks alone
set_option linter.unusedVariables false
set_option linter.unusedSimpArgs false

/-! ### face_Names: function 30 (given) -/
/-! #### the first element of which something holds -/
def face_find.idx {α : Type} (pred : α → Bool) : List α → Nat → Int
  | [], _ => -1
  | x :: xs, i => if pred x = true then (i : Int) else face_find.idx pred xs (i + 1)
theorem face_find.idx_spec {α : Type} (pred : α → Bool) : ∀ (l : List α) (i : Nat), (face_find.idx pred l i = -1 ∧ l.find? pred = none) ∨ ∃ (j : Nat) (h : j < l.length), face_find.idx pred l i = ((i + j : Nat) : Int) ∧ l.find? pred = some l[j]
  | [], i => .inl ⟨rfl, rfl⟩
  | x :: xs, i => by
    by_cases hx : pred x = true
    · exact .inr ⟨0, by simp, by simp [face_find.idx, hx], by simp [hx]⟩
    · rcases face_find.idx_spec pred xs (i + 1) with ⟨h1, h2⟩ | ⟨j, h, h1, h2⟩
      · exact .inl ⟨by simp [face_find.idx, hx, h1], by simp [hx]; simpa using h2⟩
      · exact .inr ⟨j + 1, by simp; omega, by simp [face_find.idx, hx, h1]; omega, by simp [hx, h2]⟩
set_option maxHeartbeats 4000000 in
set_option maxRecDepth 100000 in
theorem face_find.index (G : Nat) (caps : Array Value) (pred : S56 → Bool) (w : World) (A : Option Addr) (c : Nat) (l : List S56) (hC : Kd.C k56 w A l.length l)
    (hE : ∀ (x : Value) (W : World), (callFunc G (#[x] ++ caps)).run Try.prog W = .ok (.enter G (#[x] ++ caps)) W)
    (hF : ∀ (x : S56) (W : World), Below w.heap.size w W → Calls Try.prog G (#[.agg #[.int .i64 x.f0, .int .i64 x.f1]] ++ caps) W fun e W' => e = .returned (.bool (pred x)) ∧ Below W.heap.size W W') :
    Calls Try.prog 52 #[.slice A l.length c, .func (.func G) #[] caps] w fun e w' => e = .returned (.int .i64 (face_find.idx pred l 0)) ∧ Below w.heap.size w w' := by
  have hu := Try.underlying56
  have HC := Aside0.mk hC
  have HF := Aside0.mk hF
  clear hC hF
  go_enter Try.func52, Try.ntmps52
  go_wp2
  go_loopg [8] l.length (fun q v8 w' => ∃ j : Nat, v8 = .int .i64 (j : Int) ∧ j + q = l.length ∧ Aside0 (face_find.idx pred (l.drop j) j = face_find.idx pred l 0) ∧ Aside0 (Below w.heap.size w w'))
  case atStart => exact ⟨0, rfl, by omega, ⟨rfl⟩, ⟨Below.refl _ _⟩⟩
  case round =>
    obtain ⟨j, rfl, hjq, HI, HB⟩ := hrel
    cases gk with
    | zero =>
      obtain rfl : j = l.length := by omega
      have hd : decide ((l.length : Int) < (l.length : Int)) = false := by simp
      have h1 := HI.out
      rw [List.drop_length] at h1
      have H1 := Aside0.mk (show face_find.idx pred l 0 = -1 from h1.symm)
      clear h1 HI
      go_wp2
      go_ret
      exact ⟨by rw [H1.out]; rfl, HB.out⟩
    | succ q =>
      have hjn : j < l.length := by omega
      have hd : decide ((j : Int) < (l.length : Int)) = true := decide_eq_true (by omega)
      have p0 : 0 ≤ (j : Int) := by omega
      have p1 : (j : Int) < (l.length : Int) := by omega
      have h1 := HI.out
      rw [List.drop_eq_getElem_cons hjn, face_find.idx] at h1
      have hmax := HC.out.2.1
      obtain ⟨ad, e0, m0, m1⟩ := at_T56 (Kd.C_below HC.out HB.out) (j : Int) p0 p1
      have hX : rd_T56 l (j : Int) = l[j] := by unfold rd_T56; simp [List.getD_eq_getElem?_getD, List.getElem?_eq_getElem hjn]
      rw [hX] at m0 m1
      generalize l[j] = X at *
      subst e0
      rw [Int.toNat_natCast] at m0 m1
      have hw : IntKind.i64.wrap ((j : Int) + 1) = ((j + 1 : Nat) : Int) := by
        rw [i64_w]
        unfold Go.RowKit.wrap64
        omega
      clear hX hmax HI
      cases hp : pred X with
      | true =>
        rw [hp, if_pos rfl] at h1
        have H1 := Aside0.mk h1
        clear h1
        go_wp2_with ((with_reducible refine (HF.out X _ (by with_reducible repeat (first | exact HB.out | apply below_alloc | apply below_drew))).mono ?_); rintro e w5 ⟨rfl, hb5⟩; (have HB5 : Aside0 (Below w.heap.size w w5) := ⟨below_step (by with_reducible repeat (first | exact HB.out | apply below_alloc | apply below_drew)) hb5⟩); clear hb5)
        go_ret
        exact ⟨by rw [← H1.out]; rfl, HB5.out⟩
      | false =>
        rw [hp, if_neg (by decide)] at h1
        have H1 := Aside0.mk h1
        clear h1
        go_wp2_with ((with_reducible refine (HF.out X _ (by with_reducible repeat (first | exact HB.out | apply below_alloc | apply below_drew))).mono ?_); rintro e w5 ⟨rfl, hb5⟩; (have HB5 : Aside0 (Below w.heap.size w w5) := ⟨below_step (by with_reducible repeat (first | exact HB.out | apply below_alloc | apply below_drew)) hb5⟩); clear hb5)
        go_roundg q
        case measure => omega
        case rel => exact ⟨j + 1, rfl, by omega, H1, HB5⟩
set_option maxHeartbeats 4000000 in
set_option maxRecDepth 100000 in
theorem face_find.indexF (G : Nat) (caps : Array Value) (pred : S54 → Bool) (w : World) (A : Option Addr) (c : Nat) (l : List S54) (hC : Kd.C k54 w A l.length l)
    (hE : ∀ (x : Value) (W : World), (callFunc G (#[x] ++ caps)).run Try.prog W = .ok (.enter G (#[x] ++ caps)) W)
    (hF : ∀ (x : S54) (A1 A5 : Option Addr) (c1 c5 : Nat) (W : World), Below w.heap.size w W → Calls Try.prog G (#[.agg #[.string x.f0, .slice A1 x.f1.length c1, .int .i64 x.f2.f0, .int .i64 x.f2.f1, .string x.f2.f2, .slice A5 x.f2.f3.length c5, .int .i64 x.f2.f4, .int .i64 x.f2.f5, .int .i64 x.f3]] ++ caps) W fun e W' => e = .returned (.bool (pred x)) ∧ Below W.heap.size W W') :
    Calls Try.prog 53 #[.slice A l.length c, .func (.func G) #[] caps] w fun e w' => e = .returned (.int .i64 (face_find.idx pred l 0)) ∧ Below w.heap.size w w' := by
  have hu := Try.underlying54
  have HC := Aside0.mk hC
  have HF := Aside0.mk hF
  clear hC hF
  go_enter Try.func53, Try.ntmps53
  go_wp2
  go_loopg [8] l.length (fun q v8 w' => ∃ j : Nat, v8 = .int .i64 (j : Int) ∧ j + q = l.length ∧ Aside0 (face_find.idx pred (l.drop j) j = face_find.idx pred l 0) ∧ Aside0 (Below w.heap.size w w'))
  case atStart => exact ⟨0, rfl, by omega, ⟨rfl⟩, ⟨Below.refl _ _⟩⟩
  case round =>
    obtain ⟨j, rfl, hjq, HI, HB⟩ := hrel
    cases gk with
    | zero =>
      obtain rfl : j = l.length := by omega
      have hd : decide ((l.length : Int) < (l.length : Int)) = false := by simp
      have h1 := HI.out
      rw [List.drop_length] at h1
      have H1 := Aside0.mk (show face_find.idx pred l 0 = -1 from h1.symm)
      clear h1 HI
      go_wp2
      go_ret
      exact ⟨by rw [H1.out]; rfl, HB.out⟩
    | succ q =>
      have hjn : j < l.length := by omega
      have hd : decide ((j : Int) < (l.length : Int)) = true := decide_eq_true (by omega)
      have p0 : 0 ≤ (j : Int) := by omega
      have p1 : (j : Int) < (l.length : Int) := by omega
      have h1 := HI.out
      rw [List.drop_eq_getElem_cons hjn, face_find.idx] at h1
      have hmax := HC.out.2.1
      obtain ⟨ad, A1, c1, A5, c5, e0, m0, m1, m2, m3, m4, m5, m6, m7, m8, _⟩ := at_T54 (Kd.C_below HC.out HB.out) (j : Int) p0 p1
      have hX : rd_T54 l (j : Int) = l[j] := by unfold rd_T54; simp [List.getD_eq_getElem?_getD, List.getElem?_eq_getElem hjn]
      rw [hX] at m0 m1 m2 m3 m4 m5 m6 m7 m8
      generalize l[j] = X at *
      subst e0
      rw [Int.toNat_natCast] at m0 m1 m2 m3 m4 m5 m6 m7 m8
      have hw : IntKind.i64.wrap ((j : Int) + 1) = ((j + 1 : Nat) : Int) := by
        rw [i64_w]
        unfold Go.RowKit.wrap64
        omega
      clear hX hmax HI
      cases hp : pred X with
      | true =>
        rw [hp, if_pos rfl] at h1
        have H1 := Aside0.mk h1
        clear h1
        go_wp2_with ((with_reducible refine (HF.out X A1 A5 c1 c5 _ (by with_reducible repeat (first | exact HB.out | apply below_alloc | apply below_drew))).mono ?_); rintro e w5 ⟨rfl, hb5⟩; (have HB5 : Aside0 (Below w.heap.size w w5) := ⟨below_step (by with_reducible repeat (first | exact HB.out | apply below_alloc | apply below_drew)) hb5⟩); clear hb5)
        go_ret
        exact ⟨by rw [← H1.out]; rfl, HB5.out⟩
      | false =>
        rw [hp, if_neg (by decide)] at h1
        have H1 := Aside0.mk h1
        clear h1
        go_wp2_with ((with_reducible refine (HF.out X A1 A5 c1 c5 _ (by with_reducible repeat (first | exact HB.out | apply below_alloc | apply below_drew))).mono ?_); rintro e w5 ⟨rfl, hb5⟩; (have HB5 : Aside0 (Below w.heap.size w w5) := ⟨below_step (by with_reducible repeat (first | exact HB.out | apply below_alloc | apply below_drew)) hb5⟩); clear hb5)
        go_roundg q
        case measure => omega
        case rel => exact ⟨j + 1, rfl, by omega, H1, HB5⟩

set_option maxHeartbeats 4000000 in
set_option maxRecDepth 100000 in
theorem face_find.calls (G : Nat) (caps : Array Value) (pred : S56 → Bool) (w : World) (A : Option Addr) (c : Nat) (l : List S56) (hC : Kd.C k56 w A l.length l)
    (hE : ∀ (x : Value) (W : World), (callFunc G (#[x] ++ caps)).run Try.prog W = .ok (.enter G (#[x] ++ caps)) W)
    (hF : ∀ (x : S56) (W : World), Below w.heap.size w W → Calls Try.prog G (#[.agg #[.int .i64 x.f0, .int .i64 x.f1]] ++ caps) W fun e W' => e = .returned (.bool (pred x)) ∧ Below W.heap.size W W') :
    Calls Try.prog 42 #[.slice A l.length c, .func (.func G) #[] caps] w fun e w' => e = .returned (.tuple #[.agg #[.int .i64 ((l.find? pred).getD z56).f0, .int .i64 ((l.find? pred).getD z56).f1], .bool (l.find? pred).isSome]) ∧ Below w.heap.size w w' := by
  have hu := Try.underlying56
  have HC := Aside0.mk hC
  have HF := Aside0.mk hF
  have HE := Aside0.mk hE
  clear hC hF hE
  have hA : ∀ o : Obj, Below w.heap.size w (w.alloc o) := fun o => below_alloc (Below.refl _ _) o
  rcases face_find.idx_spec pred l 0 with ⟨h1, h2⟩ | ⟨j, hj, h1, h2⟩
  · rw [h2]
    have H1 := Aside0.mk h1
    clear h1 h2
    go_enter Try.func42, Try.ntmps42
    go_wp2_with (go_at_call 52; (with_reducible refine (face_find.index G caps pred _ A c l (Kd.C_below HC.out (hA _)) HE.out (fun x W hW => HF.out x W (below_step (hA _) hW))).mono ?_); rintro e w5 ⟨rfl, hb5⟩; rw [H1.out]; (have HB5 := Aside0.mk hb5); (have g4 := blk_below (blk_new w (.cells #[.int .i64 0, .int .i64 0] 56)) hb5); (have y0 : w5.cell? ⟨w.heap.size, 0, none⟩ = some (.int .i64 0) := (blk_cell g4 0).trans rfl); (have y1 : w5.cell? ⟨w.heap.size, 1, none⟩ = some (.int .i64 0) := (blk_cell g4 1).trans rfl); (have f0 := blk_frozen g4 0); (have f1 := blk_frozen g4 1); (have G4 := Aside0.mk g4); clear hb5 g4)
    refine bodyPost_ret (results_ct rfl _ _ w.heap.size 56 #[.int .i64 0, .int .i64 0] (0, 0) _ rfl (blk_put (blk_put G4.out 0 _ rfl) 1 _ rfl) Try.underlying56 rfl (by kernel_rfl)) rfl ?_
    exact ⟨rfl, below_set (below_set (below_step (hA _) HB5.out) (Nat.le_refl _)) (Nat.le_refl _)⟩
  · rw [h2]
    rw [Nat.zero_add] at h1
    have H1 := Aside0.mk h1
    have hd : decide ((j : Int) < 0) = false := decide_eq_false (by omega)
    have p0 : 0 ≤ (j : Int) := by omega
    have p1 : (j : Int) < (l.length : Int) := by omega
    obtain ⟨ad, e0, m0, m1⟩ := at_T56 HC.out (j : Int) p0 p1
    have hX : rd_T56 l (j : Int) = l[j] := by unfold rd_T56; simp [List.getD_eq_getElem?_getD, List.getElem?_eq_getElem hj]
    rw [hX] at m0 m1
    generalize l[j] = X at *
    subst e0
    rw [Int.toNat_natCast] at m0 m1
    have M0 := Aside0.mk m0
    have M1 := Aside0.mk m1
    clear h1 h2 hX m0 m1
    go_enter Try.func42, Try.ntmps42
    go_wp2_with (go_at_call 52; (with_reducible refine (face_find.index G caps pred _ (some ad) c l (Kd.C_below HC.out (hA _)) HE.out (fun x W hW => HF.out x W (below_step (hA _) hW))).mono ?_); rintro e w5 ⟨rfl, hb5⟩; rw [H1.out]; (have HB5 := Aside0.mk hb5); (have HQ5 := Aside0.mk (below_step (hA _) hb5)); (have q0 := pw_cell_below HQ5.out M0.out); (have q1 := pw_cell_below HQ5.out M1.out); (have g4 := blk_below (blk_new w (.cells #[.int .i64 0, .int .i64 0] 56)) hb5); (have y0 : w5.cell? ⟨w.heap.size, 0, none⟩ = some (.int .i64 0) := (blk_cell g4 0).trans rfl); (have y1 : w5.cell? ⟨w.heap.size, 1, none⟩ = some (.int .i64 0) := (blk_cell g4 1).trans rfl); (have f0 := blk_frozen g4 0); (have f1 := blk_frozen g4 1); (have G4 := Aside0.mk g4); clear hb5 g4)
    refine bodyPost_ret (results_ct rfl _ _ w.heap.size 56 #[.int .i64 X.f0, .int .i64 X.f1] (0, 0) _ rfl (blk_put (blk_put G4.out 0 _ rfl) 1 _ rfl) Try.underlying56 rfl (by kernel_rfl)) rfl ?_
    exact ⟨rfl, below_set (below_set HQ5.out (Nat.le_refl _)) (Nat.le_refl _)⟩
theorem face_find.below_row {w W : World} {B g : Nat} (h : Below B w W) (hg : B ≤ g) (cs : Array Value) : Below B w (W.setRow g cs) :=
  h.trans ⟨rfl, rfl, rfl, by simp, fun k hk => setRow_other _ _ _ _ (by omega)⟩
/-- a whole struct stored: the world behind it by what it is good for -/
theorem face_find.put_row {P : Program} {ops : Array Oper} {rest : List Oper} {o : Oper} {a : Act} {w0 W : World} {Q : Exit → Act → World → Prop} (B : Nat) (hgd : o.guard = none) (ty : TypeId) (x y : Operand) (ho : o.op = .store ty x y)
    (g : Nat) (cells : Array Value) (hx : a.eval x = .pointer (some ⟨g, 0, none⟩)) (hy : a.eval y = .agg cells)
    (t : TypeId) (old : Array Value) (hg : W.heap[g]? = some (.cells old t (0, 0))) (hi : (P.info? ty).map (·.size) = some cells.size)
    (hold : old.size = cells.size) (h1 : cells.all (·.oneCell') = true) (HB : Below B w0 W) (hle : B ≤ g)
    (h : ∀ w2, w2.heap[g]? = some (.cells cells t (0, 0)) → (∀ k, k ≠ g → w2.heap[k]? = W.heap[k]?) → w2.heap.size = W.heap.size → Below B w0 w2 → wpList P ops Q rest (a.put o.dst undef) w2) : wpList P ops Q (o :: rest) a W :=
  wpList_store_row hgd ty x y ho g cells hx hy t old hg hi hold h1
    (h _ (setRow_heap _ _ _ _ _ _ hg) (fun k hk => setRow_other _ _ _ _ hk) (by simp) (face_find.below_row HB hle _))
theorem face_at.one (x : S54) (A1 A5 : Option Addr) (c1 c5 : Nat) (g : Nat) (d : Int) (W : World) (h : W.cell? ⟨g, 0, none⟩ = some (.int .i64 d)) (hg : g < W.heap.size) :
    Calls Try.prog 54 (#[.agg #[.string x.f0, .slice A1 x.f1.length c1, .int .i64 x.f2.f0, .int .i64 x.f2.f1, .string x.f2.f2, .slice A5 x.f2.f3.length c5, .int .i64 x.f2.f4, .int .i64 x.f2.f5, .int .i64 x.f3]] ++ #[.pointer (some ⟨g, 0, none⟩)]) W fun e W' => e = .returned (.bool (x.f3 == d)) ∧ Below W.heap.size W W' := by
  have hu := Try.underlying54
  have h2 : ∀ o : Obj, (W.alloc o).cell? ⟨g, 0, none⟩ = some (.int .i64 d) := fun o => pw_cell_below (below_alloc (Below.refl _ _) o) h
  simp only [List.append_toArray]
  go_enter Try.func54, Try.ntmps54
  go_wp2
  go_ret
  exact ⟨rfl, below_alloc (Below.refl _ _) _⟩
theorem face_at.goes (z : Value) (c : Value) (w : World) : (callFunc 54 (#[z] ++ #[c])).run Try.prog w = .ok (.enter 54 (#[z] ++ #[c])) w := by go_simp
set_option maxHeartbeats 4000000 in
set_option maxRecDepth 100000 in
theorem face_at.calls (d : Int) (w : World) (A : Option Addr) (c : Nat) (l : List S54) (hC : Kd.C k54 w A l.length l) :
    Calls Try.prog 44 #[.slice A l.length c, .int .i64 d] w fun e w' => ∃ A1 c1 A5 c5, e = .returned (.tuple #[.agg #[.string ((l.find? (fun f => f.f3 == d)).getD z54).f0, .slice A1 ((l.find? (fun f => f.f3 == d)).getD z54).f1.length c1, .int .i64 ((l.find? (fun f => f.f3 == d)).getD z54).f2.f0, .int .i64 ((l.find? (fun f => f.f3 == d)).getD z54).f2.f1, .string ((l.find? (fun f => f.f3 == d)).getD z54).f2.f2, .slice A5 ((l.find? (fun f => f.f3 == d)).getD z54).f2.f3.length c5, .int .i64 ((l.find? (fun f => f.f3 == d)).getD z54).f2.f4, .int .i64 ((l.find? (fun f => f.f3 == d)).getD z54).f2.f5, .int .i64 ((l.find? (fun f => f.f3 == d)).getD z54).f3], .bool (l.find? (fun f => f.f3 == d)).isSome]) ∧ ((l.find? (fun f => f.f3 == d)).getD z54).f1.length ≤ c1 ∧ Kd.C k24 w' A1 ((l.find? (fun f => f.f3 == d)).getD z54).f1.length ((l.find? (fun f => f.f3 == d)).getD z54).f1 ∧ ((l.find? (fun f => f.f3 == d)).getD z54).f2.f3.length ≤ c5 ∧ Kd.C k24 w' A5 ((l.find? (fun f => f.f3 == d)).getD z54).f2.f3.length ((l.find? (fun f => f.f3 == d)).getD z54).f2.f3 ∧ Below w.heap.size w w' := by
  have hu := Try.underlying54
  have HC := Aside0.mk hC
  clear hC
  have HCL : Aside0 (∀ (z : Value) (c : Value) (w : World), (callFunc 54 (#[z] ++ #[c])).run Try.prog w = .ok (.enter 54 (#[z] ++ #[c])) w) := ⟨face_at.goes⟩
  obtain ⟨pred, hpred⟩ : ∃ pred : S54 → Bool, pred = fun f => f.f3 == d := ⟨_, rfl⟩
  have HPR := Aside0.mk hpred
  rw [← hpred]
  clear hpred
  have hA : ∀ o1 o2 : Obj, Below w.heap.size w ((w.alloc o1).alloc o2) := fun _ _ => below_alloc (below_alloc (Below.refl _ _) _) _
  have hI : ∀ o2 : Obj, Calls Try.prog 53 #[.slice A l.length c, .func (.func 54) #[] #[.pointer (some ⟨w.heap.size, 0, none⟩)]] ((w.alloc (.cells #[.int .i64 d] 3)).alloc o2) fun e w' => e = .returned (.int .i64 (face_find.idx pred l 0)) ∧ Below ((w.alloc (.cells #[.int .i64 d] 3)).alloc o2).heap.size ((w.alloc (.cells #[.int .i64 d] 3)).alloc o2) w' := fun o2 => by
    refine face_find.indexF 54 #[.pointer (some ⟨w.heap.size, 0, none⟩)] pred _ A c l (Kd.C_below HC.out (hA _ _)) (fun x W => face_at.goes x _ W) (fun x A1 A5 c1 c5 W hW => ?_)
    rw [HPR.out]
    refine face_at.one x A1 A5 c1 c5 w.heap.size d W ?_ ?_
    · exact (blk_cell (blk_below (blk_alloc (blk_new w (.cells #[.int .i64 d] 3)) o2) hW) 0).trans rfl
    · have := hW.size; simp at this; omega
  have HI := Aside0.mk hI
  clear hI
  rcases face_find.idx_spec pred l 0 with ⟨h1, h2⟩ | ⟨j, hj, h1, h2⟩
  · rw [h2]
    have H1 := Aside0.mk h1
    clear h1 h2
    go_enter Try.func44, Try.ntmps44
    go_wp2_with (first | (go_at_call 53; (with_reducible refine (HI.out _).mono ?_); rintro e w5 ⟨rfl, hb5⟩; rw [H1.out]; (have HQ5 := Aside0.mk (below_step (hA _ _) hb5)); (have G4 : Aside0 (w5.heap[w.heap.size + 1]? = some (.cells #[.string (⟨#[]⟩ : ByteArray), .slice none 0 0, .int .i64 0, .int .i64 0, .string (⟨#[]⟩ : ByteArray), .slice none 0 0, .int .i64 0, .int .i64 0, .int .i64 0] 54 (0, 0))) := ⟨by have h := blk_below (blk_new (w.alloc (.cells #[.int .i64 d] 3)) (.cells #[.string (⟨#[]⟩ : ByteArray), .slice none 0 0, .int .i64 0, .int .i64 0, .string (⟨#[]⟩ : ByteArray), .slice none 0 0, .int .i64 0, .int .i64 0, .int .i64 0] 54)) hb5; rwa [show (w.alloc (.cells #[.int .i64 d] 3)).heap.size = w.heap.size + 1 by simp] at h⟩); clear hb5) | (refine face_find.put_row (w0 := w) w.heap.size rfl 54 (.tmp 4) (.tmp 12) rfl (w.heap.size + 1) #[.string (⟨#[]⟩ : ByteArray), .slice none 0 0, .int .i64 0, .int .i64 0, .string (⟨#[]⟩ : ByteArray), .slice none 0 0, .int .i64 0, .int .i64 0, .int .i64 0] rfl rfl 54 _ G4.out (by kernel_rfl) rfl (by simp [Value.oneCell']) HQ5.out (by omega) ?_; intro W3 hg3 ho3 hz3 hb3; (have HG3 := Aside0.mk hg3); (have HB3 := Aside0.mk hb3); clear hg3 ho3 hz3 hb3))
    refine bodyPost_ret (results_ct rfl _ _ (w.heap.size + 1) 54 #[.string (⟨#[]⟩ : ByteArray), .slice none 0 0, .int .i64 0, .int .i64 0, .string (⟨#[]⟩ : ByteArray), .slice none 0 0, .int .i64 0, .int .i64 0, .int .i64 0] (0, 0) _ rfl HG3.out Try.underlying54 rfl (by kernel_rfl)) rfl ?_
    exact ⟨none, 0, none, 0, rfl, Nat.le_refl _, Kd.C_nil _ _, Nat.le_refl _, Kd.C_nil _ _, HB3.out⟩
  · rw [h2]
    rw [Nat.zero_add] at h1
    have H1 := Aside0.mk h1
    have hd : decide ((j : Int) < 0) = false := decide_eq_false (by omega)
    have p0 : 0 ≤ (j : Int) := by omega
    have p1 : (j : Int) < (l.length : Int) := by omega
    obtain ⟨ad, A1, c1, A5, c5, e0, m0, m1, m2, m3, m4, m5, m6, m7, m8, hl1, hc1, hl5, hc5⟩ := at_T54 HC.out (j : Int) p0 p1
    have hX : rd_T54 l (j : Int) = l[j] := by unfold rd_T54; simp [List.getD_eq_getElem?_getD, List.getElem?_eq_getElem hj]
    rw [hX] at m0 m1 m2 m3 m4 m5 m6 m7 m8 hl1 hc1 hl5 hc5
    generalize l[j] = X at *
    subst e0
    rw [Int.toNat_natCast] at m0 m1 m2 m3 m4 m5 m6 m7 m8
    have MM := Aside0.mk (And.intro m0 (And.intro m1 (And.intro m2 (And.intro m3 (And.intro m4 (And.intro m5 (And.intro m6 (And.intro m7 m8))))))))
    have HL1 := Aside0.mk hl1
    have HC1 := Aside0.mk hc1
    have HL5 := Aside0.mk hl5
    have HC5 := Aside0.mk hc5
    clear h1 h2 hX m0 m1 m2 m3 m4 m5 m6 m7 m8 hl1 hc1 hl5 hc5
    go_enter Try.func44, Try.ntmps44
    go_wp2_with (first | (go_at_call 53; (with_reducible refine (HI.out _).mono ?_); rintro e w5 ⟨rfl, hb5⟩; rw [H1.out]; (have HQ5 := Aside0.mk (below_step (hA _ _) hb5)); (have q0 := pw_cell_below HQ5.out MM.out.1); (have q1 := pw_cell_below HQ5.out MM.out.2.1); (have q2 := pw_cell_below HQ5.out MM.out.2.2.1); (have q3 := pw_cell_below HQ5.out MM.out.2.2.2.1); (have q4 := pw_cell_below HQ5.out MM.out.2.2.2.2.1); (have q5 := pw_cell_below HQ5.out MM.out.2.2.2.2.2.1); (have q6 := pw_cell_below HQ5.out MM.out.2.2.2.2.2.2.1); (have q7 := pw_cell_below HQ5.out MM.out.2.2.2.2.2.2.2.1); (have q8 := pw_cell_below HQ5.out MM.out.2.2.2.2.2.2.2.2); (have G4 : Aside0 (w5.heap[w.heap.size + 1]? = some (.cells #[.string (⟨#[]⟩ : ByteArray), .slice none 0 0, .int .i64 0, .int .i64 0, .string (⟨#[]⟩ : ByteArray), .slice none 0 0, .int .i64 0, .int .i64 0, .int .i64 0] 54 (0, 0))) := ⟨by have h := blk_below (blk_new (w.alloc (.cells #[.int .i64 d] 3)) (.cells #[.string (⟨#[]⟩ : ByteArray), .slice none 0 0, .int .i64 0, .int .i64 0, .string (⟨#[]⟩ : ByteArray), .slice none 0 0, .int .i64 0, .int .i64 0, .int .i64 0] 54)) hb5; rwa [show (w.alloc (.cells #[.int .i64 d] 3)).heap.size = w.heap.size + 1 by simp] at h⟩); clear hb5) | (refine face_find.put_row (w0 := w) w.heap.size rfl 54 (.tmp 4) (.tmp 16) rfl (w.heap.size + 1) #[.string X.f0, .slice A1 X.f1.length c1, .int .i64 X.f2.f0, .int .i64 X.f2.f1, .string X.f2.f2, .slice A5 X.f2.f3.length c5, .int .i64 X.f2.f4, .int .i64 X.f2.f5, .int .i64 X.f3] rfl rfl 54 _ G4.out (by kernel_rfl) rfl (by simp [Value.oneCell']) HQ5.out (by omega) ?_; intro W3 hg3 ho3 hz3 hb3; (have HG3 := Aside0.mk hg3); (have HB3 := Aside0.mk hb3); clear hg3 ho3 hz3 hb3))
    refine bodyPost_ret (results_ct rfl _ _ (w.heap.size + 1) 54 #[.string X.f0, .slice A1 X.f1.length c1, .int .i64 X.f2.f0, .int .i64 X.f2.f1, .string X.f2.f2, .slice A5 X.f2.f3.length c5, .int .i64 X.f2.f4, .int .i64 X.f2.f5, .int .i64 X.f3] (0, 0) _ rfl HG3.out Try.underlying54 rfl (by kernel_rfl)) rfl ?_
    exact ⟨A1, c1, A5, c5, rfl, HL1.out, Kd.C_below HC1.out HB3.out, HL5.out, Kd.C_below HC5.out HB3.out, HB3.out⟩
/-! #### have two faces the same types? -/
def face_alike.f (k : Nat) (a b : S54) : Option Bool := (if a.f1.length = b.f1.length then term_Same.eqs (fun x y => term_Same.f k x.f0 x.f1 x.f2 x.f3 x.f4 x.f5 y.f0 y.f1 y.f2 y.f3 y.f4 y.f5) a.f1 b.f1 else some false).bind fun c => if c = true then term_Same.f k a.f2.f0 a.f2.f1 a.f2.f2 a.f2.f3 a.f2.f4 a.f2.f5 b.f2.f0 b.f2.f1 b.f2.f2 b.f2.f3 b.f2.f4 b.f2.f5 else some false
theorem face_alike.mono (a b : S54) (k : Nat) : LeO (face_alike.f k a b) (face_alike.f (k + 1) a b) :=
  LeO.bind (LeO.ite (term_Same.eqs_mono (fun x y => term_Same.mono _ _ _ _ _ _ _ _ _ _ _ _ _) _ _) (LeO.refl _)) fun c => LeO.ite (term_Same.mono _ _ _ _ _ _ _ _ _ _ _ _ _) (LeO.refl _)
set_option maxHeartbeats 4000000 in
set_option maxRecDepth 100000 in
theorem face_alike.calls (k : Nat) (a b : S54) (A1 A5 B1 B5 : Option Addr) (c1 c5 d1 d5 : Nat) (r : Bool) (w : World) (ha1 : a.f1.length ≤ c1) (hA1 : Kd.C k24 w A1 a.f1.length a.f1) (ha5 : a.f2.f3.length ≤ c5) (hA5 : Kd.C k24 w A5 a.f2.f3.length a.f2.f3)
    (hb1 : b.f1.length ≤ d1) (hB1 : Kd.C k24 w B1 b.f1.length b.f1) (hb5 : b.f2.f3.length ≤ d5) (hB5 : Kd.C k24 w B5 b.f2.f3.length b.f2.f3) (h : face_alike.f k a b = some r) :
    Calls Try.prog 46 #[.agg #[.string a.f0, .slice A1 a.f1.length c1, .int .i64 a.f2.f0, .int .i64 a.f2.f1, .string a.f2.f2, .slice A5 a.f2.f3.length c5, .int .i64 a.f2.f4, .int .i64 a.f2.f5, .int .i64 a.f3], .agg #[.string b.f0, .slice B1 b.f1.length d1, .int .i64 b.f2.f0, .int .i64 b.f2.f1, .string b.f2.f2, .slice B5 b.f2.f3.length d5, .int .i64 b.f2.f4, .int .i64 b.f2.f5, .int .i64 b.f3]] w fun e w' => e = .returned (.bool r) ∧ Below w.heap.size w w' := by
  have hu := Try.underlying54
  have hu2 := Try.underlying24
  obtain ⟨c, hc, h⟩ := Option.bind_eq_some_iff.mp h
  have HA1 := Aside0.mk hA1
  have HA5 := Aside0.mk hA5
  have HB1 := Aside0.mk hB1
  have HB5 := Aside0.mk hB5
  have H1 := Aside0.mk (And.intro ha1 (And.intro ha5 (And.intro hb1 hb5)))
  have HC := Aside0.mk hc
  have H := Aside0.mk h
  clear hA1 hA5 hB1 hB5 ha1 ha5 hb1 hb5 hc h
  have HCL : Aside0 (∀ (x y : Value) (w : World), (callFunc 26 #[x, y]).run Try.prog w = .ok (.enter 26 #[x, y]) w) := ⟨term_Same.goes⟩
  have HEQ : Aside0 (∀ (W : World), Below w.heap.size w W → Calls Try.prog 41 #[.slice A1 a.f1.length c1, .slice B1 b.f1.length d1, .func (.func 26) #[] #[]] W fun e w' => e = .returned (.bool c) ∧ Below W.heap.size W w') := ⟨fun W hW => term_Same.equal 26 (fun x y => term_Same.f k x.f0 x.f1 x.f2 x.f3 x.f4 x.f5 y.f0 y.f1 y.f2 y.f3 y.f4 y.f5) term_Same.goes (fun x y A B c d r W hA hc hB hd hg => term_Same.calls k _ _ _ A c _ _ _ _ _ _ B d _ _ _ r W hA hc hB hd hg) A1 c1 a.f1 B1 d1 b.f1 c W (Kd.C_below HA1.out hW) H1.out.1 (Kd.C_below HB1.out hW) H1.out.2.2.1 HC.out⟩
  have hAA : ∀ o1 o2 : Obj, Below w.heap.size w ((w.alloc o1).alloc o2) := fun _ _ => below_alloc (below_alloc (Below.refl _ _) _) _
  cases c with
  | false =>
    obtain rfl := Option.some.inj ((if_neg (by decide)).symm.trans H.out)
    go_enter Try.func46, Try.ntmps46
    go_wp2_with (go_at_call 41; (with_reducible refine (HEQ.out _ (hAA _ _)).mono ?_); rintro e w5 ⟨rfl, hb5⟩; (have HX5 := Aside0.mk (below_step (hAA _ _) hb5)); clear hb5)
    go_ret
    exact ⟨rfl, HX5.out⟩
  | true =>
    have h2 := (if_pos rfl).symm.trans H.out
    have H2 := Aside0.mk h2
    clear h2
    go_enter Try.func46, Try.ntmps46
    go_wp2_with (first | (go_at_call 41; (with_reducible refine (HEQ.out _ (hAA _ _)).mono ?_); rintro e w5 ⟨rfl, hb5⟩; (have HX5 := Aside0.mk (below_step (hAA _ _) hb5)); (have ka := blk_below (blk_alloc (blk_new w (.cells #[.string a.f0, .slice A1 a.f1.length c1, .int .i64 a.f2.f0, .int .i64 a.f2.f1, .string a.f2.f2, .slice A5 a.f2.f3.length c5, .int .i64 a.f2.f4, .int .i64 a.f2.f5, .int .i64 a.f3] 54)) (.cells #[.string b.f0, .slice B1 b.f1.length d1, .int .i64 b.f2.f0, .int .i64 b.f2.f1, .string b.f2.f2, .slice B5 b.f2.f3.length d5, .int .i64 b.f2.f4, .int .i64 b.f2.f5, .int .i64 b.f3] 54)) hb5); (have kb := blk_below (blk_new (w.alloc (.cells #[.string a.f0, .slice A1 a.f1.length c1, .int .i64 a.f2.f0, .int .i64 a.f2.f1, .string a.f2.f2, .slice A5 a.f2.f3.length c5, .int .i64 a.f2.f4, .int .i64 a.f2.f5, .int .i64 a.f3] 54)) (.cells #[.string b.f0, .slice B1 b.f1.length d1, .int .i64 b.f2.f0, .int .i64 b.f2.f1, .string b.f2.f2, .slice B5 b.f2.f3.length d5, .int .i64 b.f2.f4, .int .i64 b.f2.f5, .int .i64 b.f3] 54)) hb5); (rw [show (w.alloc (.cells #[.string a.f0, .slice A1 a.f1.length c1, .int .i64 a.f2.f0, .int .i64 a.f2.f1, .string a.f2.f2, .slice A5 a.f2.f3.length c5, .int .i64 a.f2.f4, .int .i64 a.f2.f5, .int .i64 a.f3] 54)).heap.size = w.heap.size + 1 by simp] at kb); (have xa2 : w5.cell? ⟨w.heap.size, 2, none⟩ = some (.int .i64 a.f2.f0) := (blk_cell ka 2).trans rfl); (have xb2 : w5.cell? ⟨w.heap.size + 1, 2, none⟩ = some (.int .i64 b.f2.f0) := (blk_cell kb 2).trans rfl); (have xa3 : w5.cell? ⟨w.heap.size, 3, none⟩ = some (.int .i64 a.f2.f1) := (blk_cell ka 3).trans rfl); (have xb3 : w5.cell? ⟨w.heap.size + 1, 3, none⟩ = some (.int .i64 b.f2.f1) := (blk_cell kb 3).trans rfl); (have xa4 : w5.cell? ⟨w.heap.size, 4, none⟩ = some (.string a.f2.f2) := (blk_cell ka 4).trans rfl); (have xb4 : w5.cell? ⟨w.heap.size + 1, 4, none⟩ = some (.string b.f2.f2) := (blk_cell kb 4).trans rfl); (have xa5 : w5.cell? ⟨w.heap.size, 5, none⟩ = some (.slice A5 a.f2.f3.length c5) := (blk_cell ka 5).trans rfl); (have xb5 : w5.cell? ⟨w.heap.size + 1, 5, none⟩ = some (.slice B5 b.f2.f3.length d5) := (blk_cell kb 5).trans rfl); (have xa6 : w5.cell? ⟨w.heap.size, 6, none⟩ = some (.int .i64 a.f2.f4) := (blk_cell ka 6).trans rfl); (have xb6 : w5.cell? ⟨w.heap.size + 1, 6, none⟩ = some (.int .i64 b.f2.f4) := (blk_cell kb 6).trans rfl); (have xa7 : w5.cell? ⟨w.heap.size, 7, none⟩ = some (.int .i64 a.f2.f5) := (blk_cell ka 7).trans rfl); (have xb7 : w5.cell? ⟨w.heap.size + 1, 7, none⟩ = some (.int .i64 b.f2.f5) := (blk_cell kb 7).trans rfl); clear ka kb; clear hb5) | (go_at_call 26; (with_reducible refine (term_Same.calls k a.f2.f0 a.f2.f1 a.f2.f2 A5 c5 a.f2.f3 a.f2.f4 a.f2.f5 b.f2.f0 b.f2.f1 b.f2.f2 B5 d5 b.f2.f3 b.f2.f4 b.f2.f5 r _ (Kd.C_below HA5.out HX5.out) H1.out.2.1 (Kd.C_below HB5.out HX5.out) H1.out.2.2.2 H2.out).mono ?_); rintro e w6 ⟨rfl, hb6⟩; (have HX6 := Aside0.mk (below_step HX5.out hb6)); clear hb6))
    go_ret
    exact ⟨rfl, HX6.out⟩
theorem face_Names.c1 (x : S56) (g : Nat) (d : Int) (W : World) (h : W.cell? ⟨g, 8, none⟩ = some (.int .i64 d)) :
    Calls Try.prog 43 (#[.agg #[.int .i64 x.f0, .int .i64 x.f1]] ++ #[.pointer (some ⟨g, 0, none⟩)]) W fun e W' => e = .returned (.bool (x.f0 == d)) ∧ Below W.heap.size W W' := by
  have hu := Try.underlying56
  have hu2 := Try.underlying54
  have h2 : ∀ o : Obj, (W.alloc o).cell? ⟨g, 8, none⟩ = some (.int .i64 d) := fun o => pw_cell_below (below_alloc (Below.refl _ _) o) h
  simp only [List.append_toArray]
  go_enter Try.func43, Try.ntmps43
  go_wp2
  go_ret
  exact ⟨rfl, below_alloc (Below.refl _ _) _⟩
theorem face_Names.goes1 (z : Value) (c : Value) (w : World) : (callFunc 43 (#[z] ++ #[c])).run Try.prog w = .ok (.enter 43 (#[z] ++ #[c])) w := by go_simp
theorem face_Names.find1 (g : Nat) (d : Int) (W : World) (A : Option Addr) (c : Nat) (l : List S56) (hC : Kd.C k56 W A l.length l) (h : W.cell? ⟨g, 8, none⟩ = some (.int .i64 d)) :
    Calls Try.prog 42 #[.slice A l.length c, .func (.func 43) #[] #[.pointer (some ⟨g, 0, none⟩)]] W fun e w' => e = .returned (.tuple #[.agg #[.int .i64 ((l.find? (fun x => x.f0 == d)).getD z56).f0, .int .i64 ((l.find? (fun x => x.f0 == d)).getD z56).f1], .bool (l.find? (fun x => x.f0 == d)).isSome]) ∧ Below W.heap.size W w' :=
  face_find.calls 43 #[.pointer (some ⟨g, 0, none⟩)] (fun x => x.f0 == d) W A c l hC (fun x W => face_Names.goes1 x _ W) (fun x W' hW => face_Names.c1 x g d W' (pw_cell_below hW h))
theorem face_Names.c2 (x : S56) (g : Nat) (d : Int) (W : World) (h : W.cell? ⟨g, 1, none⟩ = some (.int .i64 d)) :
    Calls Try.prog 45 (#[.agg #[.int .i64 x.f0, .int .i64 x.f1]] ++ #[.pointer (some ⟨g, 0, none⟩)]) W fun e W' => e = .returned (.bool (x.f1 == d)) ∧ Below W.heap.size W W' := by
  have hu := Try.underlying56
  have hu2 := Try.underlying54
  have h2 : ∀ o : Obj, (W.alloc o).cell? ⟨g, 1, none⟩ = some (.int .i64 d) := fun o => pw_cell_below (below_alloc (Below.refl _ _) o) h
  simp only [List.append_toArray]
  go_enter Try.func45, Try.ntmps45
  go_wp2
  go_ret
  exact ⟨rfl, below_alloc (Below.refl _ _) _⟩
theorem face_Names.goes2 (z : Value) (c : Value) (w : World) : (callFunc 45 (#[z] ++ #[c])).run Try.prog w = .ok (.enter 45 (#[z] ++ #[c])) w := by go_simp
theorem face_Names.find2 (g : Nat) (d : Int) (W : World) (A : Option Addr) (c : Nat) (l : List S56) (hC : Kd.C k56 W A l.length l) (h : W.cell? ⟨g, 1, none⟩ = some (.int .i64 d)) :
    Calls Try.prog 42 #[.slice A l.length c, .func (.func 45) #[] #[.pointer (some ⟨g, 0, none⟩)]] W fun e w' => e = .returned (.tuple #[.agg #[.int .i64 ((l.find? (fun x => x.f1 == d)).getD z56).f0, .int .i64 ((l.find? (fun x => x.f1 == d)).getD z56).f1], .bool (l.find? (fun x => x.f1 == d)).isSome]) ∧ Below W.heap.size W w' :=
  face_find.calls 45 #[.pointer (some ⟨g, 0, none⟩)] (fun x => x.f1 == d) W A c l hC (fun x W => face_Names.goes2 x _ W) (fun x W' hW => face_Names.c2 x g d W' (pw_cell_below hW h))
theorem face_Names.c3 (x : S56) (g : Nat) (d : Int) (W : World) (h : W.cell? ⟨g, 8, none⟩ = some (.int .i64 d)) :
    Calls Try.prog 47 (#[.agg #[.int .i64 x.f0, .int .i64 x.f1]] ++ #[.pointer (some ⟨g, 0, none⟩)]) W fun e W' => e = .returned (.bool (x.f1 == d)) ∧ Below W.heap.size W W' := by
  have hu := Try.underlying56
  have hu2 := Try.underlying54
  have h2 : ∀ o : Obj, (W.alloc o).cell? ⟨g, 8, none⟩ = some (.int .i64 d) := fun o => pw_cell_below (below_alloc (Below.refl _ _) o) h
  simp only [List.append_toArray]
  go_enter Try.func47, Try.ntmps47
  go_wp2
  go_ret
  exact ⟨rfl, below_alloc (Below.refl _ _) _⟩
theorem face_Names.goes3 (z : Value) (c : Value) (w : World) : (callFunc 47 (#[z] ++ #[c])).run Try.prog w = .ok (.enter 47 (#[z] ++ #[c])) w := by go_simp
theorem face_Names.find3 (g : Nat) (d : Int) (W : World) (A : Option Addr) (c : Nat) (l : List S56) (hC : Kd.C k56 W A l.length l) (h : W.cell? ⟨g, 8, none⟩ = some (.int .i64 d)) :
    Calls Try.prog 42 #[.slice A l.length c, .func (.func 47) #[] #[.pointer (some ⟨g, 0, none⟩)]] W fun e w' => e = .returned (.tuple #[.agg #[.int .i64 ((l.find? (fun x => x.f1 == d)).getD z56).f0, .int .i64 ((l.find? (fun x => x.f1 == d)).getD z56).f1], .bool (l.find? (fun x => x.f1 == d)).isSome]) ∧ Below W.heap.size W w' :=
  face_find.calls 47 #[.pointer (some ⟨g, 0, none⟩)] (fun x => x.f1 == d) W A c l hC (fun x W => face_Names.goes3 x _ W) (fun x W' hW => face_Names.c3 x g d W' (pw_cell_below hW h))
theorem face_Names.c4 (x : S56) (g : Nat) (d : Int) (W : World) (h : W.cell? ⟨g, 0, none⟩ = some (.int .i64 d)) :
    Calls Try.prog 48 (#[.agg #[.int .i64 x.f0, .int .i64 x.f1]] ++ #[.pointer (some ⟨g, 0, none⟩)]) W fun e W' => e = .returned (.bool (x.f0 == d)) ∧ Below W.heap.size W W' := by
  have hu := Try.underlying56
  have hu2 := Try.underlying54
  have h2 : ∀ o : Obj, (W.alloc o).cell? ⟨g, 0, none⟩ = some (.int .i64 d) := fun o => pw_cell_below (below_alloc (Below.refl _ _) o) h
  simp only [List.append_toArray]
  go_enter Try.func48, Try.ntmps48
  go_wp2
  go_ret
  exact ⟨rfl, below_alloc (Below.refl _ _) _⟩
theorem face_Names.goes4 (z : Value) (c : Value) (w : World) : (callFunc 48 (#[z] ++ #[c])).run Try.prog w = .ok (.enter 48 (#[z] ++ #[c])) w := by go_simp
theorem face_Names.find4 (g : Nat) (d : Int) (W : World) (A : Option Addr) (c : Nat) (l : List S56) (hC : Kd.C k56 W A l.length l) (h : W.cell? ⟨g, 0, none⟩ = some (.int .i64 d)) :
    Calls Try.prog 42 #[.slice A l.length c, .func (.func 48) #[] #[.pointer (some ⟨g, 0, none⟩)]] W fun e w' => e = .returned (.tuple #[.agg #[.int .i64 ((l.find? (fun x => x.f0 == d)).getD z56).f0, .int .i64 ((l.find? (fun x => x.f0 == d)).getD z56).f1], .bool (l.find? (fun x => x.f0 == d)).isSome]) ∧ Below W.heap.size W w' :=
  face_find.calls 48 #[.pointer (some ⟨g, 0, none⟩)] (fun x => x.f0 == d) W A c l hC (fun x W => face_Names.goes4 x _ W) (fun x W' hW => face_Names.c4 x g d W' (pw_cell_below hW h))
/-- one face of the one side: how it is named, or that it does not go over -/
def face_Names.one (k : Nat) (q : List S54) (l : List S56) (f : S54) : Option (Option S58) :=
  match l.find? (fun x => x.f0 == f.f3) with
  | none => some none
  | some x => match q.find? (fun g => g.f3 == x.f1) with
    | none => some none
    | some g => (face_alike.f k f g).bind fun c => if c = true then (if ((l.find? (fun y => y.f1 == x.f1)).getD z56).f0 = f.f3 then some (some ⟨f.f0, g.f0⟩) else some none) else some none
/-- one face of the other side -/
def face_Names.two (k : Nat) (p : List S54) (l : List S56) (g : S54) : Option Bool :=
  match l.find? (fun x => x.f1 == g.f3) with
  | none => some false
  | some x => match p.find? (fun f => f.f3 == x.f0) with
    | none => some false
    | some f => (face_alike.f k f g).bind fun c => if c = true then (if ((l.find? (fun y => y.f0 == x.f0)).getD z56).f1 = g.f3 then some true else some false) else some false
def face_Names.l1 (k : Nat) (q : List S54) (l : List S56) : List S54 → List S58 → Option (Option (List S58))
  | [], out => some (some out)
  | f :: fs, out => if out.length < 1000000000000 then (face_Names.one k q l f).bind fun o => match o with
      | none => some none
      | some n => face_Names.l1 k q l fs (out ++ [n]) else none
def face_Names.l2 (k : Nat) (p : List S54) (l : List S56) : List S54 → Option Bool
  | [] => some true
  | g :: gs => (face_Names.two k p l g).bind fun c => if c = true then face_Names.l2 k p l gs else some false
def face_Names.fin (k : Nat) (p q : List S54) (l : List S56) (o : Option (List S58)) : Option (List S58 × Bool) :=
  match o with
  | none => some ([], false)
  | some out => (face_Names.l2 k p l q).bind fun c => if c = true then some (out, true) else some ([], false)
def face_Names.f (k : Nat) (p q : List S54) (l : List S56) : Option (List S58 × Bool) := (face_Names.l1 k q l p []).bind (face_Names.fin k p q l)
theorem face_Names.one_mono (k : Nat) (q : List S54) (l : List S56) (f : S54) : LeO (face_Names.one k q l f) (face_Names.one (k + 1) q l f) := by
  unfold face_Names.one
  split
  · exact LeO.refl _
  · split
    · exact LeO.refl _
    · exact LeO.bind (face_alike.mono _ _ _) fun c => LeO.refl _
theorem face_Names.two_mono (k : Nat) (p : List S54) (l : List S56) (f : S54) : LeO (face_Names.two k p l f) (face_Names.two (k + 1) p l f) := by
  unfold face_Names.two
  split
  · exact LeO.refl _
  · split
    · exact LeO.refl _
    · exact LeO.bind (face_alike.mono _ _ _) fun c => LeO.refl _
theorem face_Names.l1_mono (k : Nat) (q : List S54) (l : List S56) : ∀ p out, LeO (face_Names.l1 k q l p out) (face_Names.l1 (k + 1) q l p out)
  | [], out => LeO.refl _
  | f :: fs, out => LeO.ite (LeO.bind (face_Names.one_mono _ _ _ _) fun o => by
      cases o with
      | none => exact LeO.refl _
      | some n => exact face_Names.l1_mono k q l fs _) (LeO.refl _)
theorem face_Names.l2_mono (k : Nat) (p : List S54) (l : List S56) : ∀ q, LeO (face_Names.l2 k p l q) (face_Names.l2 (k + 1) p l q)
  | [] => LeO.refl _
  | g :: gs => LeO.bind (face_Names.two_mono _ _ _ _) fun c => LeO.ite (face_Names.l2_mono k p l gs) (LeO.refl _)
theorem face_Names.mono : ∀ a0 a1 a2 k, LeO (face_Names.f k a0 a1 a2) (face_Names.f (k + 1) a0 a1 a2) := fun p q l k => LeO.bind (face_Names.l1_mono _ _ _ _ _) fun o => by
  cases o with
  | none => exact LeO.refl _
  | some out => exact LeO.bind (face_Names.l2_mono _ _ _ _) fun c => LeO.refl _
set_option maxHeartbeats 8000000 in
set_option maxRecDepth 100000 in
theorem face_Names.calls (k : Nat) (A0 : Option Addr) (c0 : Nat) (p : List (S54)) (A1 : Option Addr) (c1 : Nat) (q : List (S54)) (A2 : Option Addr) (c2 : Nat) (l : List (S56)) (r1 : List (S58)) (r2 : Bool) (w : World) (hr0 : Kd.C k54 w A0 p.length p) (hc0 : p.length ≤ c0) (hr1 : Kd.C k54 w A1 q.length q) (hc1 : q.length ≤ c1) (hr2 : Kd.C k56 w A2 l.length l) (hc2 : l.length ≤ c2) (h : face_Names.f k p q l = some (r1, r2)) :
    Calls Try.prog 30 #[.slice A0 p.length c0, .slice A1 q.length c1, .slice A2 l.length c2] w fun e w' => ∃ v0_ : Value, e = .returned (.tuple #[v0_, .bool r2]) ∧ Kd.R k58 58 w' w.heap.size (fun _ => True) v0_ r1 ∧ Below w.heap.size w w' := by
  have hu := Try.underlying54
  have hu2 := Try.underlying56
  have hu3 := Try.underlying58
  have hu4 := Try.underlying24
  unfold face_Names.f at h
  have HCL1 : Aside0 (∀ (z : Value) (c : Value) (w : World), (callFunc 43 (#[z] ++ #[c])).run Try.prog w = .ok (.enter 43 (#[z] ++ #[c])) w) := ⟨face_Names.goes1⟩
  have HC0 := Aside0.mk hr0
  have HC1 := Aside0.mk hr1
  have HC2 := Aside0.mk hr2
  have H := Aside0.mk h
  clear hr0 hr1 hr2 h
  go_enter Try.func30, Try.ntmps30
  go_wp2
  go_loopg [25, 8] p.length (fun q_ v25 v8 w' => ∃ (j : Nat) (v : Value) (out : List S58), v25 = .int .i64 (j : Int) ∧ v = v8 ∧ j + q_ = p.length ∧ Aside0 ((face_Names.l1 k q l (p.drop j) out).bind (face_Names.fin k p q l) = some (r1, r2)) ∧ Aside0 (Kd.R k58 58 w' w.heap.size (fun _ => True) v out) ∧ Aside0 (out.length = j) ∧ Aside0 (Below w.heap.size w w'))
  case atStart => exact ⟨0, .slice none 0 0, [], rfl, rfl, by omega, H, ⟨Kd.R_nil _ _ _ _ _⟩, ⟨rfl⟩, ⟨Below.refl _ _⟩⟩
  case round =>
    clear H
    obtain ⟨j, v, out, rfl, rfl, hjq, HI, HR, HLEN, HB⟩ := hrel
    cases gk with
    | zero =>
      obtain rfl : j = p.length := by omega
      have hd : decide ((p.length : Int) < (p.length : Int)) = false := by simp
      have h1 := HI.out
      rw [List.drop_length] at h1
      simp only [face_Names.l1, Option.bind_some, face_Names.fin] at h1
      have HI2 := Aside0.mk h1
      clear h1 HI HLEN
      go_wp2
      go_loopg [76] q.length (fun q_ v76 w' => ∃ (j : Nat), v76 = .int .i64 (j : Int) ∧ j + q_ = q.length ∧ Aside0 (((face_Names.l2 k p l (q.drop j)).bind fun c => if c = true then some (out, true) else some ([], false)) = some (r1, r2)) ∧ Aside0 (Kd.R k58 58 w' w.heap.size (fun _ => True) v out) ∧ Aside0 (Below w.heap.size w w'))
      case atStart => exact ⟨0, rfl, by omega, HI2, HR, HB⟩
      case round =>
        clear HI2 HR HB hd hjq
        obtain ⟨j, rfl, hjq, HI, HR, HB⟩ := hrel
        cases gk with
        | zero =>
          obtain rfl : j = q.length := by omega
          have hd : decide ((q.length : Int) < (q.length : Int)) = false := by simp
          have h1 := HI.out
          rw [List.drop_length] at h1
          simp only [face_Names.l2, Option.bind_some, if_true] at h1
          obtain ⟨rfl, rfl⟩ := Prod.mk.inj (Option.some.inj h1)
          clear h1 HI
          go_wp2
          go_ret2
          exact ⟨v, rfl, HR.out, HB.out⟩
        | succ q_ =>
          have hjn : j < q.length := by omega
          have hd : decide ((j : Int) < (q.length : Int)) = true := decide_eq_true (by omega)
          have p0 : 0 ≤ (j : Int) := by omega
          have p1 : (j : Int) < (q.length : Int) := by omega
          have h1 := HI.out
          rw [List.drop_eq_getElem_cons hjn] at h1
          have hmax := HC1.out.2.1
          obtain ⟨ad, a1, e1, a5, e5, e0, m0, m1, m2, m3, m4, m5, m6, m7, m8, hl1, hc1, hl5, hc5⟩ := at_T54 (Kd.C_below HC1.out HB.out) (j : Int) p0 p1
          have hX : rd_T54 q (j : Int) = q[j] := by unfold rd_T54; simp [List.getD_eq_getElem?_getD, List.getElem?_eq_getElem hjn]
          rw [hX] at m0 m1 m2 m3 m4 m5 m6 m7 m8 hl1 hc1 hl5 hc5
          clear hX
          generalize q[j] = F at h1 m0 m1 m2 m3 m4 m5 m6 m7 m8 hl1 hc1 hl5 hc5
          obtain rfl : A1 = some ad := e0
          rw [Int.toNat_natCast] at m0 m1 m2 m3 m4 m5 m6 m7 m8
          have hw : IntKind.i64.wrap ((j : Int) + 1) = ((j + 1 : Nat) : Int) := by
            rw [i64_w]
            unfold Go.RowKit.wrap64
            omega
          have HL1 := Aside0.mk hl1
          have HC1F := Aside0.mk hc1
          have HL5 := Aside0.mk hl5
          have HC5F := Aside0.mk hc5
          have H1 := Aside0.mk h1
          have HBW := HB
          have HB0 : Aside0 (Below wr.heap.size wr wr) := ⟨Below.refl _ _⟩
          clear h1 hl1 hc1 hl5 hc5 hmax HI
          go_upto_region 17 with (fail)
          obtain ⟨W1, hW1⟩ : ∃ W1 : World, W1 = wr.alloc (.cells #[.string F.f0, .slice a1 F.f1.length e1, .int .i64 F.f2.f0, .int .i64 F.f2.f1, .string F.f2.f2, .slice a5 F.f2.f3.length e5, .int .i64 F.f2.f4, .int .i64 F.f2.f5, .int .i64 F.f3] 54) := ⟨_, rfl⟩
          have hbn : Below wr.heap.size wr W1 := by rw [hW1]; exact below_alloc (Below.refl _ _) _
          have kn : W1.heap[wr.heap.size]? = some (.cells #[.string F.f0, .slice a1 F.f1.length e1, .int .i64 F.f2.f0, .int .i64 F.f2.f1, .string F.f2.f2, .slice a5 F.f2.f3.length e5, .int .i64 F.f2.f4, .int .i64 F.f2.f5, .int .i64 F.f3] 54 (0, 0)) := by rw [hW1]; exact blk_new _ _
          rw [← hW1]
          replace HBW := Aside0.mk (below_step HBW.out hbn); replace HB0 := Aside0.mk (below_step HB0.out hbn)
          have KF := Aside0.mk kn
          replace HC1F := Aside0.mk (Kd.C_below HC1F.out hbn)
          replace HC5F := Aside0.mk (Kd.C_below HC5F.out hbn)
          clear hW1 hbn kn m0 m1 m2 m3 m4 m5 m6 m7 m8
          obtain ⟨oX, hoX⟩ : ∃ o, o = (l.find? (fun x => x.f1 == F.f3)) := ⟨_, rfl⟩
          have HOX := Aside0.mk hoX
          clear hoX
          have c8 : W1.cell? ⟨wr.heap.size, 8, none⟩ = some (.int .i64 F.f3) := (blk_cell KF.out 8).trans rfl
          have HC8 := Aside0.mk c8
          clear c8
          go_upto_region 18 with (first | (go_at_call 42; (with_reducible refine (face_Names.find3 wr.heap.size F.f3 _ A2 c2 l (Kd.C_below HC2.out HBW.out) HC8.out).mono ?_); rintro e w5 ⟨rfl, hb5⟩; (have HX5 : Aside0 (Below W1.heap.size W1 w5) := ⟨below_step (by with_reducible repeat (first | exact HX9.out | exact HX8.out | exact HX7.out | exact HX6.out | exact HX5.out | exact HX4.out | exact HX3.out | exact HX2.out | exact HX1.out | exact Below.refl _ _ | apply below_alloc | apply below_drew)) hb5⟩); rw [← HOX.out]; clear hb5))
          obtain ⟨W2, hW2⟩ : ∃ W2 : World, W2 = w5.alloc (.cells #[.int .i64 (oX.getD z56).f0, .int .i64 (oX.getD z56).f1] 56) := ⟨_, rfl⟩
          have hbn : Below W1.heap.size W1 W2 := by rw [hW2]; exact below_alloc HX5.out _
          have kn : W2.heap[w5.heap.size]? = some (.cells #[.int .i64 (oX.getD z56).f0, .int .i64 (oX.getD z56).f1] 56 (0, 0)) := by rw [hW2]; exact blk_new _ _
          rw [← hW2]
          replace KF := Aside0.mk (blk_below KF.out hbn)
          replace HBW := Aside0.mk (below_step HBW.out hbn); replace HB0 := Aside0.mk (below_step HB0.out hbn)
          have KX := Aside0.mk kn
          replace HC1F := Aside0.mk (Kd.C_below HC1F.out hbn)
          replace HC5F := Aside0.mk (Kd.C_below HC5F.out hbn)
          clear hW2 hbn kn HX5 HC8
          have h2 := H1.out
          rw [face_Names.l2, face_Names.two, ← HOX.out] at h2
          clear H1 HOX
          cases oX with
          | none =>
            simp only [Option.bind_some, face_Names.fin, Bool.false_eq_true, if_false] at h2
            obtain ⟨rfl, rfl⟩ := Prod.mk.inj (Option.some.inj h2)
            clear h2
            go_wp2
            go_ret2
            exact ⟨.slice none 0 0, rfl, Kd.R_nil _ _ _ _ _, HBW.out⟩
          | some X =>
            simp only [Option.getD_some] at KX ⊢
            simp only at h2
            have H2 := Aside0.mk h2
            clear h2
            obtain ⟨oG, hoG⟩ : ∃ o, o = (p.find? (fun f => f.f3 == X.f0)) := ⟨_, rfl⟩
            have HOG := Aside0.mk hoG
            clear hoG
            have x0 : W2.cell? ⟨w5.heap.size, 0, none⟩ = some (.int .i64 X.f0) := (blk_cell KX.out 0).trans rfl
            go_upto_region 21 with (first | (go_at_call 44; (with_reducible refine (face_at.calls X.f0 _ A0 c0 p (Kd.C_below HC0.out HBW.out)).mono ?_); rintro e w6 ⟨b1, h1, b5, h5, rfl, hl1, hc1, hl5, hc5, hb6⟩; (have HX6 : Aside0 (Below W2.heap.size W2 w6) := ⟨below_step (by with_reducible repeat (first | exact HX9.out | exact HX8.out | exact HX7.out | exact HX6.out | exact HX5.out | exact HX4.out | exact HX3.out | exact HX2.out | exact HX1.out | exact Below.refl _ _ | apply below_alloc | apply below_drew)) hb6⟩); rw [← HOG.out] at hl1 hc1 hl5 hc5; rw [← HOG.out]; (have GL1 := Aside0.mk hl1); (have GC1 := Aside0.mk hc1); (have GL5 := Aside0.mk hl5); (have GC5 := Aside0.mk hc5); clear hl1 hc1 hl5 hc5; clear hb6))
            obtain ⟨W3, hW3⟩ : ∃ W3 : World, W3 = w6.alloc (.cells #[.string (oG.getD z54).f0, .slice b1 (oG.getD z54).f1.length h1, .int .i64 (oG.getD z54).f2.f0, .int .i64 (oG.getD z54).f2.f1, .string (oG.getD z54).f2.f2, .slice b5 (oG.getD z54).f2.f3.length h5, .int .i64 (oG.getD z54).f2.f4, .int .i64 (oG.getD z54).f2.f5, .int .i64 (oG.getD z54).f3] 54) := ⟨_, rfl⟩
            have hbn : Below W2.heap.size W2 W3 := by rw [hW3]; exact below_alloc HX6.out _
            have kn : W3.heap[w6.heap.size]? = some (.cells #[.string (oG.getD z54).f0, .slice b1 (oG.getD z54).f1.length h1, .int .i64 (oG.getD z54).f2.f0, .int .i64 (oG.getD z54).f2.f1, .string (oG.getD z54).f2.f2, .slice b5 (oG.getD z54).f2.f3.length h5, .int .i64 (oG.getD z54).f2.f4, .int .i64 (oG.getD z54).f2.f5, .int .i64 (oG.getD z54).f3] 54 (0, 0)) := by rw [hW3]; exact blk_new _ _
            rw [← hW3]
            replace KF := Aside0.mk (blk_below KF.out hbn)
            replace KX := Aside0.mk (blk_below KX.out hbn)
            replace HBW := Aside0.mk (below_step HBW.out hbn); replace HB0 := Aside0.mk (below_step HB0.out hbn)
            have KG := Aside0.mk kn
            replace HC1F := Aside0.mk (Kd.C_below HC1F.out hbn)
            replace HC5F := Aside0.mk (Kd.C_below HC5F.out hbn)
            replace GC1 := Aside0.mk (show Kd.C k24 W3 _ _ _ by rw [hW3]; exact Kd.C_below GC1.out (below_alloc (Below.refl _ _) _))
            replace GC5 := Aside0.mk (show Kd.C k24 W3 _ _ _ by rw [hW3]; exact Kd.C_below GC5.out (below_alloc (Below.refl _ _) _))
            clear hW3 hbn kn HX6 x0
            obtain ⟨Y, hoY⟩ : ∃ y, y = (l.find? (fun y => y.f0 == X.f0)).getD z56 := ⟨_, rfl⟩
            obtain ⟨bY, hbY⟩ : ∃ b, b = (l.find? (fun y => y.f0 == X.f0)).isSome := ⟨_, rfl⟩
            have HOY := Aside0.mk hoY
            have HBY := Aside0.mk hbY
            clear hoY hbY
            have c0 : W3.cell? ⟨w5.heap.size, 0, none⟩ = some (.int .i64 X.f0) := (blk_cell KX.out 0).trans rfl
            have HCB := Aside0.mk c0
            clear c0
            go_upto_region 22 with (first | (go_at_call 42; (with_reducible refine (face_Names.find4 w5.heap.size X.f0 _ A2 c2 l (Kd.C_below HC2.out HBW.out) HCB.out).mono ?_); rintro e w7 ⟨rfl, hb7⟩; (have HX7 : Aside0 (Below W3.heap.size W3 w7) := ⟨below_step (by with_reducible repeat (first | exact HX9.out | exact HX8.out | exact HX7.out | exact HX6.out | exact HX5.out | exact HX4.out | exact HX3.out | exact HX2.out | exact HX1.out | exact Below.refl _ _ | apply below_alloc | apply below_drew)) hb7⟩); rw [← HOY.out, ← HBY.out]; clear hb7))
            obtain ⟨W4, hW4⟩ : ∃ W4 : World, W4 = w7.alloc (.cells #[.int .i64 Y.f0, .int .i64 Y.f1] 56) := ⟨_, rfl⟩
            have hbn : Below W3.heap.size W3 W4 := by rw [hW4]; exact below_alloc HX7.out _
            have kn : W4.heap[w7.heap.size]? = some (.cells #[.int .i64 Y.f0, .int .i64 Y.f1] 56 (0, 0)) := by rw [hW4]; exact blk_new _ _
            rw [← hW4]
            replace KF := Aside0.mk (blk_below KF.out hbn)
            replace KX := Aside0.mk (blk_below KX.out hbn)
            replace KG := Aside0.mk (blk_below KG.out hbn)
            replace HBW := Aside0.mk (below_step HBW.out hbn); replace HB0 := Aside0.mk (below_step HB0.out hbn)
            have KY := Aside0.mk kn
            replace HC1F := Aside0.mk (Kd.C_below HC1F.out hbn)
            replace HC5F := Aside0.mk (Kd.C_below HC5F.out hbn)
            replace GC1 := Aside0.mk (Kd.C_below GC1.out hbn)
            replace GC5 := Aside0.mk (Kd.C_below GC5.out hbn)
            clear hW4 hbn kn HX7 HCB
            have h3 := H2.out
            rw [← HOG.out, ← HOY.out] at h3
            clear H2 HOG HOY HBY
            cases oG with
            | none =>
              simp only [Option.bind_some, face_Names.fin, Bool.false_eq_true, if_false] at h3
              obtain ⟨rfl, rfl⟩ := Prod.mk.inj (Option.some.inj h3)
              clear h3
              go_wp2
              go_ret2
              exact ⟨.slice none 0 0, rfl, Kd.R_nil _ _ _ _ _, HBW.out⟩
            | some G =>
              simp only [Option.getD_some] at KG GL1 GC1 GL5 GC5 ⊢
              simp only at h3
              have H3 := Aside0.mk h3
              clear h3
              have f0 : W4.cell? ⟨wr.heap.size, 0, none⟩ = some (.string F.f0) := (blk_cell KF.out 0).trans rfl
              have f1 : W4.cell? ⟨wr.heap.size, 1, none⟩ = some (.slice a1 F.f1.length e1) := (blk_cell KF.out 1).trans rfl
              have f2 : W4.cell? ⟨wr.heap.size, 2, none⟩ = some (.int .i64 F.f2.f0) := (blk_cell KF.out 2).trans rfl
              have f3 : W4.cell? ⟨wr.heap.size, 3, none⟩ = some (.int .i64 F.f2.f1) := (blk_cell KF.out 3).trans rfl
              have f4 : W4.cell? ⟨wr.heap.size, 4, none⟩ = some (.string F.f2.f2) := (blk_cell KF.out 4).trans rfl
              have f5 : W4.cell? ⟨wr.heap.size, 5, none⟩ = some (.slice a5 F.f2.f3.length e5) := (blk_cell KF.out 5).trans rfl
              have f6 : W4.cell? ⟨wr.heap.size, 6, none⟩ = some (.int .i64 F.f2.f4) := (blk_cell KF.out 6).trans rfl
              have f7 : W4.cell? ⟨wr.heap.size, 7, none⟩ = some (.int .i64 F.f2.f5) := (blk_cell KF.out 7).trans rfl
              have f8 : W4.cell? ⟨wr.heap.size, 8, none⟩ = some (.int .i64 F.f3) := (blk_cell KF.out 8).trans rfl
              have g0 : W4.cell? ⟨w6.heap.size, 0, none⟩ = some (.string G.f0) := (blk_cell KG.out 0).trans rfl
              have g1 : W4.cell? ⟨w6.heap.size, 1, none⟩ = some (.slice b1 G.f1.length h1) := (blk_cell KG.out 1).trans rfl
              have g2 : W4.cell? ⟨w6.heap.size, 2, none⟩ = some (.int .i64 G.f2.f0) := (blk_cell KG.out 2).trans rfl
              have g3 : W4.cell? ⟨w6.heap.size, 3, none⟩ = some (.int .i64 G.f2.f1) := (blk_cell KG.out 3).trans rfl
              have g4 : W4.cell? ⟨w6.heap.size, 4, none⟩ = some (.string G.f2.f2) := (blk_cell KG.out 4).trans rfl
              have g5 : W4.cell? ⟨w6.heap.size, 5, none⟩ = some (.slice b5 G.f2.f3.length h5) := (blk_cell KG.out 5).trans rfl
              have g6 : W4.cell? ⟨w6.heap.size, 6, none⟩ = some (.int .i64 G.f2.f4) := (blk_cell KG.out 6).trans rfl
              have g7 : W4.cell? ⟨w6.heap.size, 7, none⟩ = some (.int .i64 G.f2.f5) := (blk_cell KG.out 7).trans rfl
              have g8 : W4.cell? ⟨w6.heap.size, 8, none⟩ = some (.int .i64 G.f3) := (blk_cell KG.out 8).trans rfl
              obtain ⟨ca, hca⟩ : ∃ ca, face_alike.f k G F = some ca := by
                cases hx : face_alike.f k G F with
                | none => have h4 := H3.out; rw [hx] at h4; exact absurd h4 (by simp)
                | some ca => exact ⟨ca, rfl⟩
              have h4 := H3.out
              rw [hca] at h4
              simp only [Option.bind_some] at h4
              have HCA := Aside0.mk hca
              clear hca H3
              cases ca with
              | false =>
                simp only [Bool.false_eq_true, if_false, Option.bind_some, face_Names.fin] at h4
                obtain ⟨rfl, rfl⟩ := Prod.mk.inj (Option.some.inj h4)
                clear h4
                go_wp2_with (first | (go_at_call 46; (with_reducible refine (face_alike.calls k G F b1 b5 a1 a5 h1 h5 e1 e5 false _ GL1.out GC1.out GL5.out GC5.out HL1.out HC1F.out HL5.out HC5F.out HCA.out).mono ?_); rintro e w8 ⟨rfl, hb8⟩; (have HX8 : Aside0 (Below W4.heap.size W4 w8) := ⟨below_step (by with_reducible repeat (first | exact HX9.out | exact HX8.out | exact HX7.out | exact HX6.out | exact HX5.out | exact HX4.out | exact HX3.out | exact HX2.out | exact HX1.out | exact Below.refl _ _ | apply below_alloc | apply below_drew)) hb8⟩); (have u1 : w8.cell? ⟨w7.heap.size, 1, none⟩ = some (.int .i64 Y.f1) := (blk_cell (blk_below KY.out HX8.out) 1).trans rfl); (have s0 : w8.cell? ⟨wr.heap.size, 0, none⟩ = some (.string F.f0) := (blk_cell (blk_below KF.out HX8.out) 0).trans rfl); (have s8 : w8.cell? ⟨wr.heap.size, 8, none⟩ = some (.int .i64 F.f3) := (blk_cell (blk_below KF.out HX8.out) 8).trans rfl); (have t0 : w8.cell? ⟨w6.heap.size, 0, none⟩ = some (.string G.f0) := (blk_cell (blk_below KG.out HX8.out) 0).trans rfl); clear hb8))
                go_ret2
                exact ⟨.slice none 0 0, rfl, Kd.R_nil _ _ _ _ _, below_step HBW.out HX8.out⟩
              | true =>
                simp only [if_true] at h4
                by_cases hy : Y.f1 = F.f3
                case neg =>
                  rw [if_neg hy] at h4
                  simp only [Bool.false_eq_true, if_false, Option.bind_some, face_Names.fin] at h4
                  obtain ⟨rfl, rfl⟩ := Prod.mk.inj (Option.some.inj h4)
                  have hyb : (Y.f1 != F.f3) = true := by simpa using hy
                  clear h4 hy
                  go_wp2_with (first | (go_at_call 46; (with_reducible refine (face_alike.calls k G F b1 b5 a1 a5 h1 h5 e1 e5 true _ GL1.out GC1.out GL5.out GC5.out HL1.out HC1F.out HL5.out HC5F.out HCA.out).mono ?_); rintro e w8 ⟨rfl, hb8⟩; (have HX8 : Aside0 (Below W4.heap.size W4 w8) := ⟨below_step (by with_reducible repeat (first | exact HX9.out | exact HX8.out | exact HX7.out | exact HX6.out | exact HX5.out | exact HX4.out | exact HX3.out | exact HX2.out | exact HX1.out | exact Below.refl _ _ | apply below_alloc | apply below_drew)) hb8⟩); (have u1 : w8.cell? ⟨w7.heap.size, 1, none⟩ = some (.int .i64 Y.f1) := (blk_cell (blk_below KY.out HX8.out) 1).trans rfl); (have s0 : w8.cell? ⟨wr.heap.size, 0, none⟩ = some (.string F.f0) := (blk_cell (blk_below KF.out HX8.out) 0).trans rfl); (have s8 : w8.cell? ⟨wr.heap.size, 8, none⟩ = some (.int .i64 F.f3) := (blk_cell (blk_below KF.out HX8.out) 8).trans rfl); (have t0 : w8.cell? ⟨w6.heap.size, 0, none⟩ = some (.string G.f0) := (blk_cell (blk_below KG.out HX8.out) 0).trans rfl); clear hb8))
                  go_ret2
                  exact ⟨.slice none 0 0, rfl, Kd.R_nil _ _ _ _ _, below_step HBW.out HX8.out⟩
                rw [if_pos hy] at h4
                have hyb : (Y.f1 != F.f3) = false := by simpa using hy
                have H4 := Aside0.mk h4
                clear h4 hy
                go_wp2_with (first | (go_at_call 46; (with_reducible refine (face_alike.calls k G F b1 b5 a1 a5 h1 h5 e1 e5 true _ GL1.out GC1.out GL5.out GC5.out HL1.out HC1F.out HL5.out HC5F.out HCA.out).mono ?_); rintro e w8 ⟨rfl, hb8⟩; (have HX8 : Aside0 (Below W4.heap.size W4 w8) := ⟨below_step (by with_reducible repeat (first | exact HX9.out | exact HX8.out | exact HX7.out | exact HX6.out | exact HX5.out | exact HX4.out | exact HX3.out | exact HX2.out | exact HX1.out | exact Below.refl _ _ | apply below_alloc | apply below_drew)) hb8⟩); (have u1 : w8.cell? ⟨w7.heap.size, 1, none⟩ = some (.int .i64 Y.f1) := (blk_cell (blk_below KY.out HX8.out) 1).trans rfl); (have s0 : w8.cell? ⟨wr.heap.size, 0, none⟩ = some (.string F.f0) := (blk_cell (blk_below KF.out HX8.out) 0).trans rfl); (have s8 : w8.cell? ⟨wr.heap.size, 8, none⟩ = some (.int .i64 F.f3) := (blk_cell (blk_below KF.out HX8.out) 8).trans rfl); (have t0 : w8.cell? ⟨w6.heap.size, 0, none⟩ = some (.string G.f0) := (blk_cell (blk_below KG.out HX8.out) 0).trans rfl); clear hb8))
                go_roundg q_
                case measure => omega
                case rel => exact ⟨j + 1, rfl, by omega, ⟨by have h5 := H4.out; simp only [Option.bind_some, if_true] at h5; exact h5⟩, ⟨Kd.R_below HR.out (below_step HB0.out HX8.out)⟩, ⟨below_step HBW.out HX8.out⟩⟩
    | succ q_ =>
      have HP0 : Aside0 (p.length ≤ 9223372036854775807) := ⟨HC0.out.2.1⟩
      have hjn : j < p.length := by omega
      have hd : decide ((j : Int) < (p.length : Int)) = true := decide_eq_true (by omega)
      have p0 : 0 ≤ (j : Int) := by omega
      have p1 : (j : Int) < (p.length : Int) := by omega
      have h1 := HI.out
      rw [List.drop_eq_getElem_cons hjn] at h1
      have hmax := HC0.out.2.1
      obtain ⟨ad, a1, e1, a5, e5, e0, m0, m1, m2, m3, m4, m5, m6, m7, m8, hl1, hc1, hl5, hc5⟩ := at_T54 (Kd.C_below HC0.out HB.out) (j : Int) p0 p1
      have hX : rd_T54 p (j : Int) = p[j] := by unfold rd_T54; simp [List.getD_eq_getElem?_getD, List.getElem?_eq_getElem hjn]
      rw [hX] at m0 m1 m2 m3 m4 m5 m6 m7 m8 hl1 hc1 hl5 hc5
      clear hX
      generalize p[j] = F at h1 m0 m1 m2 m3 m4 m5 m6 m7 m8 hl1 hc1 hl5 hc5
      obtain rfl : A0 = some ad := e0
      rw [Int.toNat_natCast] at m0 m1 m2 m3 m4 m5 m6 m7 m8
      have hw : IntKind.i64.wrap ((j : Int) + 1) = ((j + 1 : Nat) : Int) := by
        rw [i64_w]
        unfold Go.RowKit.wrap64
        omega
      have HL1 := Aside0.mk hl1
      have HC1F := Aside0.mk hc1
      have HL5 := Aside0.mk hl5
      have HC5F := Aside0.mk hc5
      have H1 := Aside0.mk h1
      have HBW := HB
      have HB0 : Aside0 (Below wr.heap.size wr wr) := ⟨Below.refl _ _⟩
      clear h1 hl1 hc1 hl5 hc5 hmax HI
      go_upto_region 5 with (fail)
      obtain ⟨W1, hW1⟩ : ∃ W1 : World, W1 = wr.alloc (.cells #[.string F.f0, .slice a1 F.f1.length e1, .int .i64 F.f2.f0, .int .i64 F.f2.f1, .string F.f2.f2, .slice a5 F.f2.f3.length e5, .int .i64 F.f2.f4, .int .i64 F.f2.f5, .int .i64 F.f3] 54) := ⟨_, rfl⟩
      have hbn : Below wr.heap.size wr W1 := by rw [hW1]; exact below_alloc (Below.refl _ _) _
      have kn : W1.heap[wr.heap.size]? = some (.cells #[.string F.f0, .slice a1 F.f1.length e1, .int .i64 F.f2.f0, .int .i64 F.f2.f1, .string F.f2.f2, .slice a5 F.f2.f3.length e5, .int .i64 F.f2.f4, .int .i64 F.f2.f5, .int .i64 F.f3] 54 (0, 0)) := by rw [hW1]; exact blk_new _ _
      rw [← hW1]
      replace HBW := Aside0.mk (below_step HBW.out hbn); replace HB0 := Aside0.mk (below_step HB0.out hbn)
      have KF := Aside0.mk kn
      replace HC1F := Aside0.mk (Kd.C_below HC1F.out hbn)
      replace HC5F := Aside0.mk (Kd.C_below HC5F.out hbn)
      clear hW1 hbn kn m0 m1 m2 m3 m4 m5 m6 m7 m8
      obtain ⟨oX, hoX⟩ : ∃ o, o = (l.find? (fun x => x.f0 == F.f3)) := ⟨_, rfl⟩
      have HOX := Aside0.mk hoX
      clear hoX
      have c8 : W1.cell? ⟨wr.heap.size, 8, none⟩ = some (.int .i64 F.f3) := (blk_cell KF.out 8).trans rfl
      have HC8 := Aside0.mk c8
      clear c8
      go_upto_region 6 with (first | (go_at_call 42; (with_reducible refine (face_Names.find1 wr.heap.size F.f3 _ A2 c2 l (Kd.C_below HC2.out HBW.out) HC8.out).mono ?_); rintro e w5 ⟨rfl, hb5⟩; (have HX5 : Aside0 (Below W1.heap.size W1 w5) := ⟨below_step (by with_reducible repeat (first | exact HX9.out | exact HX8.out | exact HX7.out | exact HX6.out | exact HX5.out | exact HX4.out | exact HX3.out | exact HX2.out | exact HX1.out | exact Below.refl _ _ | apply below_alloc | apply below_drew)) hb5⟩); rw [← HOX.out]; clear hb5))
      obtain ⟨W2, hW2⟩ : ∃ W2 : World, W2 = w5.alloc (.cells #[.int .i64 (oX.getD z56).f0, .int .i64 (oX.getD z56).f1] 56) := ⟨_, rfl⟩
      have hbn : Below W1.heap.size W1 W2 := by rw [hW2]; exact below_alloc HX5.out _
      have kn : W2.heap[w5.heap.size]? = some (.cells #[.int .i64 (oX.getD z56).f0, .int .i64 (oX.getD z56).f1] 56 (0, 0)) := by rw [hW2]; exact blk_new _ _
      rw [← hW2]
      replace KF := Aside0.mk (blk_below KF.out hbn)
      replace HBW := Aside0.mk (below_step HBW.out hbn); replace HB0 := Aside0.mk (below_step HB0.out hbn)
      have KX := Aside0.mk kn
      replace HC1F := Aside0.mk (Kd.C_below HC1F.out hbn)
      replace HC5F := Aside0.mk (Kd.C_below HC5F.out hbn)
      clear hW2 hbn kn HX5 HC8
      have h2 := H1.out
      rw [face_Names.l1] at h2
      by_cases hlt : out.length < 1000000000000
      case neg => rw [if_neg hlt] at h2; exact absurd h2 (by simp)
      rw [if_pos hlt, face_Names.one, ← HOX.out] at h2
      have HLT := Aside0.mk hlt
      clear hlt
      clear H1 HOX
      cases oX with
      | none =>
        simp only [Option.bind_some, face_Names.fin, Bool.false_eq_true, if_false] at h2
        obtain ⟨rfl, rfl⟩ := Prod.mk.inj (Option.some.inj h2)
        clear h2
        go_wp2
        go_ret2
        exact ⟨.slice none 0 0, rfl, Kd.R_nil _ _ _ _ _, HBW.out⟩
      | some X =>
        simp only [Option.getD_some] at KX ⊢
        simp only at h2
        have H2 := Aside0.mk h2
        clear h2
        obtain ⟨oG, hoG⟩ : ∃ o, o = (q.find? (fun f => f.f3 == X.f1)) := ⟨_, rfl⟩
        have HOG := Aside0.mk hoG
        clear hoG
        have x1 : W2.cell? ⟨w5.heap.size, 1, none⟩ = some (.int .i64 X.f1) := (blk_cell KX.out 1).trans rfl
        go_upto_region 9 with (first | (go_at_call 44; (with_reducible refine (face_at.calls X.f1 _ A1 c1 q (Kd.C_below HC1.out HBW.out)).mono ?_); rintro e w6 ⟨b1, h1, b5, h5, rfl, hl1, hc1, hl5, hc5, hb6⟩; (have HX6 : Aside0 (Below W2.heap.size W2 w6) := ⟨below_step (by with_reducible repeat (first | exact HX9.out | exact HX8.out | exact HX7.out | exact HX6.out | exact HX5.out | exact HX4.out | exact HX3.out | exact HX2.out | exact HX1.out | exact Below.refl _ _ | apply below_alloc | apply below_drew)) hb6⟩); rw [← HOG.out] at hl1 hc1 hl5 hc5; rw [← HOG.out]; (have GL1 := Aside0.mk hl1); (have GC1 := Aside0.mk hc1); (have GL5 := Aside0.mk hl5); (have GC5 := Aside0.mk hc5); clear hl1 hc1 hl5 hc5; clear hb6))
        obtain ⟨W3, hW3⟩ : ∃ W3 : World, W3 = w6.alloc (.cells #[.string (oG.getD z54).f0, .slice b1 (oG.getD z54).f1.length h1, .int .i64 (oG.getD z54).f2.f0, .int .i64 (oG.getD z54).f2.f1, .string (oG.getD z54).f2.f2, .slice b5 (oG.getD z54).f2.f3.length h5, .int .i64 (oG.getD z54).f2.f4, .int .i64 (oG.getD z54).f2.f5, .int .i64 (oG.getD z54).f3] 54) := ⟨_, rfl⟩
        have hbn : Below W2.heap.size W2 W3 := by rw [hW3]; exact below_alloc HX6.out _
        have kn : W3.heap[w6.heap.size]? = some (.cells #[.string (oG.getD z54).f0, .slice b1 (oG.getD z54).f1.length h1, .int .i64 (oG.getD z54).f2.f0, .int .i64 (oG.getD z54).f2.f1, .string (oG.getD z54).f2.f2, .slice b5 (oG.getD z54).f2.f3.length h5, .int .i64 (oG.getD z54).f2.f4, .int .i64 (oG.getD z54).f2.f5, .int .i64 (oG.getD z54).f3] 54 (0, 0)) := by rw [hW3]; exact blk_new _ _
        rw [← hW3]
        replace KF := Aside0.mk (blk_below KF.out hbn)
        replace KX := Aside0.mk (blk_below KX.out hbn)
        replace HBW := Aside0.mk (below_step HBW.out hbn); replace HB0 := Aside0.mk (below_step HB0.out hbn)
        have KG := Aside0.mk kn
        replace HC1F := Aside0.mk (Kd.C_below HC1F.out hbn)
        replace HC5F := Aside0.mk (Kd.C_below HC5F.out hbn)
        replace GC1 := Aside0.mk (show Kd.C k24 W3 _ _ _ by rw [hW3]; exact Kd.C_below GC1.out (below_alloc (Below.refl _ _) _))
        replace GC5 := Aside0.mk (show Kd.C k24 W3 _ _ _ by rw [hW3]; exact Kd.C_below GC5.out (below_alloc (Below.refl _ _) _))
        clear hW3 hbn kn HX6 x1
        obtain ⟨Y, hoY⟩ : ∃ y, y = (l.find? (fun y => y.f1 == X.f1)).getD z56 := ⟨_, rfl⟩
        obtain ⟨bY, hbY⟩ : ∃ b, b = (l.find? (fun y => y.f1 == X.f1)).isSome := ⟨_, rfl⟩
        have HOY := Aside0.mk hoY
        have HBY := Aside0.mk hbY
        clear hoY hbY
        have c1 : W3.cell? ⟨w5.heap.size, 1, none⟩ = some (.int .i64 X.f1) := (blk_cell KX.out 1).trans rfl
        have HCB := Aside0.mk c1
        clear c1
        go_upto_region 10 with (first | (go_at_call 42; (with_reducible refine (face_Names.find2 w5.heap.size X.f1 _ A2 c2 l (Kd.C_below HC2.out HBW.out) HCB.out).mono ?_); rintro e w7 ⟨rfl, hb7⟩; (have HX7 : Aside0 (Below W3.heap.size W3 w7) := ⟨below_step (by with_reducible repeat (first | exact HX9.out | exact HX8.out | exact HX7.out | exact HX6.out | exact HX5.out | exact HX4.out | exact HX3.out | exact HX2.out | exact HX1.out | exact Below.refl _ _ | apply below_alloc | apply below_drew)) hb7⟩); rw [← HOY.out, ← HBY.out]; clear hb7))
        obtain ⟨W4, hW4⟩ : ∃ W4 : World, W4 = w7.alloc (.cells #[.int .i64 Y.f0, .int .i64 Y.f1] 56) := ⟨_, rfl⟩
        have hbn : Below W3.heap.size W3 W4 := by rw [hW4]; exact below_alloc HX7.out _
        have kn : W4.heap[w7.heap.size]? = some (.cells #[.int .i64 Y.f0, .int .i64 Y.f1] 56 (0, 0)) := by rw [hW4]; exact blk_new _ _
        rw [← hW4]
        replace KF := Aside0.mk (blk_below KF.out hbn)
        replace KX := Aside0.mk (blk_below KX.out hbn)
        replace KG := Aside0.mk (blk_below KG.out hbn)
        replace HBW := Aside0.mk (below_step HBW.out hbn); replace HB0 := Aside0.mk (below_step HB0.out hbn)
        have KY := Aside0.mk kn
        replace HC1F := Aside0.mk (Kd.C_below HC1F.out hbn)
        replace HC5F := Aside0.mk (Kd.C_below HC5F.out hbn)
        replace GC1 := Aside0.mk (Kd.C_below GC1.out hbn)
        replace GC5 := Aside0.mk (Kd.C_below GC5.out hbn)
        clear hW4 hbn kn HX7 HCB
        have h3 := H2.out
        rw [← HOG.out, ← HOY.out] at h3
        clear H2 HOG HOY HBY
        cases oG with
        | none =>
          simp only [Option.bind_some, face_Names.fin, Bool.false_eq_true, if_false] at h3
          obtain ⟨rfl, rfl⟩ := Prod.mk.inj (Option.some.inj h3)
          clear h3
          go_wp2
          go_ret2
          exact ⟨.slice none 0 0, rfl, Kd.R_nil _ _ _ _ _, HBW.out⟩
        | some G =>
          simp only [Option.getD_some] at KG GL1 GC1 GL5 GC5 ⊢
          simp only at h3
          have H3 := Aside0.mk h3
          clear h3
          have f0 : W4.cell? ⟨wr.heap.size, 0, none⟩ = some (.string F.f0) := (blk_cell KF.out 0).trans rfl
          have f1 : W4.cell? ⟨wr.heap.size, 1, none⟩ = some (.slice a1 F.f1.length e1) := (blk_cell KF.out 1).trans rfl
          have f2 : W4.cell? ⟨wr.heap.size, 2, none⟩ = some (.int .i64 F.f2.f0) := (blk_cell KF.out 2).trans rfl
          have f3 : W4.cell? ⟨wr.heap.size, 3, none⟩ = some (.int .i64 F.f2.f1) := (blk_cell KF.out 3).trans rfl
          have f4 : W4.cell? ⟨wr.heap.size, 4, none⟩ = some (.string F.f2.f2) := (blk_cell KF.out 4).trans rfl
          have f5 : W4.cell? ⟨wr.heap.size, 5, none⟩ = some (.slice a5 F.f2.f3.length e5) := (blk_cell KF.out 5).trans rfl
          have f6 : W4.cell? ⟨wr.heap.size, 6, none⟩ = some (.int .i64 F.f2.f4) := (blk_cell KF.out 6).trans rfl
          have f7 : W4.cell? ⟨wr.heap.size, 7, none⟩ = some (.int .i64 F.f2.f5) := (blk_cell KF.out 7).trans rfl
          have f8 : W4.cell? ⟨wr.heap.size, 8, none⟩ = some (.int .i64 F.f3) := (blk_cell KF.out 8).trans rfl
          have g0 : W4.cell? ⟨w6.heap.size, 0, none⟩ = some (.string G.f0) := (blk_cell KG.out 0).trans rfl
          have g1 : W4.cell? ⟨w6.heap.size, 1, none⟩ = some (.slice b1 G.f1.length h1) := (blk_cell KG.out 1).trans rfl
          have g2 : W4.cell? ⟨w6.heap.size, 2, none⟩ = some (.int .i64 G.f2.f0) := (blk_cell KG.out 2).trans rfl
          have g3 : W4.cell? ⟨w6.heap.size, 3, none⟩ = some (.int .i64 G.f2.f1) := (blk_cell KG.out 3).trans rfl
          have g4 : W4.cell? ⟨w6.heap.size, 4, none⟩ = some (.string G.f2.f2) := (blk_cell KG.out 4).trans rfl
          have g5 : W4.cell? ⟨w6.heap.size, 5, none⟩ = some (.slice b5 G.f2.f3.length h5) := (blk_cell KG.out 5).trans rfl
          have g6 : W4.cell? ⟨w6.heap.size, 6, none⟩ = some (.int .i64 G.f2.f4) := (blk_cell KG.out 6).trans rfl
          have g7 : W4.cell? ⟨w6.heap.size, 7, none⟩ = some (.int .i64 G.f2.f5) := (blk_cell KG.out 7).trans rfl
          have g8 : W4.cell? ⟨w6.heap.size, 8, none⟩ = some (.int .i64 G.f3) := (blk_cell KG.out 8).trans rfl
          obtain ⟨ca, hca⟩ : ∃ ca, face_alike.f k F G = some ca := by
            cases hx : face_alike.f k F G with
            | none => have h4 := H3.out; rw [hx] at h4; exact absurd h4 (by simp)
            | some ca => exact ⟨ca, rfl⟩
          have h4 := H3.out
          rw [hca] at h4
          simp only [Option.bind_some] at h4
          have HCA := Aside0.mk hca
          clear hca H3
          cases ca with
          | false =>
            simp only [Bool.false_eq_true, if_false, Option.bind_some, face_Names.fin] at h4
            obtain ⟨rfl, rfl⟩ := Prod.mk.inj (Option.some.inj h4)
            clear h4
            go_wp2_with (first | (go_at_call 46; (with_reducible refine (face_alike.calls k F G a1 a5 b1 b5 e1 e5 h1 h5 false _ HL1.out HC1F.out HL5.out HC5F.out GL1.out GC1.out GL5.out GC5.out HCA.out).mono ?_); rintro e w8 ⟨rfl, hb8⟩; (have HX8 : Aside0 (Below W4.heap.size W4 w8) := ⟨below_step (by with_reducible repeat (first | exact HX9.out | exact HX8.out | exact HX7.out | exact HX6.out | exact HX5.out | exact HX4.out | exact HX3.out | exact HX2.out | exact HX1.out | exact Below.refl _ _ | apply below_alloc | apply below_drew)) hb8⟩); (have u0 : w8.cell? ⟨w7.heap.size, 0, none⟩ = some (.int .i64 Y.f0) := (blk_cell (blk_below KY.out HX8.out) 0).trans rfl); (have s0 : w8.cell? ⟨wr.heap.size, 0, none⟩ = some (.string F.f0) := (blk_cell (blk_below KF.out HX8.out) 0).trans rfl); (have s8 : w8.cell? ⟨wr.heap.size, 8, none⟩ = some (.int .i64 F.f3) := (blk_cell (blk_below KF.out HX8.out) 8).trans rfl); (have t0 : w8.cell? ⟨w6.heap.size, 0, none⟩ = some (.string G.f0) := (blk_cell (blk_below KG.out HX8.out) 0).trans rfl); clear hb8))
            go_ret2
            exact ⟨.slice none 0 0, rfl, Kd.R_nil _ _ _ _ _, below_step HBW.out HX8.out⟩
          | true =>
            simp only [if_true] at h4
            by_cases hy : Y.f0 = F.f3
            case neg =>
              rw [if_neg hy] at h4
              simp only [Bool.false_eq_true, if_false, Option.bind_some, face_Names.fin] at h4
              obtain ⟨rfl, rfl⟩ := Prod.mk.inj (Option.some.inj h4)
              have hyb : (Y.f0 != F.f3) = true := by simpa using hy
              clear h4 hy
              go_wp2_with (first | (go_at_call 46; (with_reducible refine (face_alike.calls k F G a1 a5 b1 b5 e1 e5 h1 h5 true _ HL1.out HC1F.out HL5.out HC5F.out GL1.out GC1.out GL5.out GC5.out HCA.out).mono ?_); rintro e w8 ⟨rfl, hb8⟩; (have HX8 : Aside0 (Below W4.heap.size W4 w8) := ⟨below_step (by with_reducible repeat (first | exact HX9.out | exact HX8.out | exact HX7.out | exact HX6.out | exact HX5.out | exact HX4.out | exact HX3.out | exact HX2.out | exact HX1.out | exact Below.refl _ _ | apply below_alloc | apply below_drew)) hb8⟩); (have u0 : w8.cell? ⟨w7.heap.size, 0, none⟩ = some (.int .i64 Y.f0) := (blk_cell (blk_below KY.out HX8.out) 0).trans rfl); (have s0 : w8.cell? ⟨wr.heap.size, 0, none⟩ = some (.string F.f0) := (blk_cell (blk_below KF.out HX8.out) 0).trans rfl); (have s8 : w8.cell? ⟨wr.heap.size, 8, none⟩ = some (.int .i64 F.f3) := (blk_cell (blk_below KF.out HX8.out) 8).trans rfl); (have t0 : w8.cell? ⟨w6.heap.size, 0, none⟩ = some (.string G.f0) := (blk_cell (blk_below KG.out HX8.out) 0).trans rfl); clear hb8))
              go_ret2
              exact ⟨.slice none 0 0, rfl, Kd.R_nil _ _ _ _ _, below_step HBW.out HX8.out⟩
            rw [if_pos hy] at h4
            have hyb : (Y.f0 != F.f3) = false := by simpa using hy
            have H4 := Aside0.mk h4
            have HR4 : ∀ w8 : World, Below W4.heap.size W4 w8 → Kd.R k58 58 w8 w.heap.size (fun _ => True) v out := fun w8 hb => Kd.R_below HR.out (below_step HB0.out hb)
            have HS4 : ∀ w8 : World, Below W4.heap.size W4 w8 → w.heap.size ≤ w8.heap.size := fun w8 hb => (below_step HBW.out hb).size
            clear h4 hy
            go_wp2_with (first | (go_at_call 46; (with_reducible refine (face_alike.calls k F G a1 a5 b1 b5 e1 e5 h1 h5 true _ HL1.out HC1F.out HL5.out HC5F.out GL1.out GC1.out GL5.out GC5.out HCA.out).mono ?_); rintro e w8 ⟨rfl, hb8⟩; (have HX8 : Aside0 (Below W4.heap.size W4 w8) := ⟨below_step (by with_reducible repeat (first | exact HX9.out | exact HX8.out | exact HX7.out | exact HX6.out | exact HX5.out | exact HX4.out | exact HX3.out | exact HX2.out | exact HX1.out | exact Below.refl _ _ | apply below_alloc | apply below_drew)) hb8⟩); (have u0 : w8.cell? ⟨w7.heap.size, 0, none⟩ = some (.int .i64 Y.f0) := (blk_cell (blk_below KY.out HX8.out) 0).trans rfl); (have s0 : w8.cell? ⟨wr.heap.size, 0, none⟩ = some (.string F.f0) := (blk_cell (blk_below KF.out HX8.out) 0).trans rfl); (have s8 : w8.cell? ⟨wr.heap.size, 8, none⟩ = some (.int .i64 F.f3) := (blk_cell (blk_below KF.out HX8.out) 8).trans rfl); (have t0 : w8.cell? ⟨w6.heap.size, 0, none⟩ = some (.string G.f0) := (blk_cell (blk_below KG.out HX8.out) 0).trans rfl); clear hb8) | ((with_reducible refine gate_builtin (b := .append) (xs := #[.tmp 65, .tmp 71]) rfl ?_); at_builtin; refine Kd.R_append k58 (w0 := w8) w.heap.size rfl (.tmp 65) (.tmp 71) 47 58 (.agg #[(.string ⟨#[]⟩), (.string ⟨#[]⟩)]) 32 rfl Try.underlying47 info58 rfl (by decide) (by omega) v out (⟨F.f0, G.f0⟩ : S58) [.string F.f0, .string G.f0] (fun _ => True) (fun _ => False) rfl rfl (k58_mkM _ _ _ _) (fun _ hk => hk.elim) (fun _ _ => trivial) (HR4 _ HX8.out) (Below.refl _ _) (HS4 _ HX8.out) (by have := HLT.out; omega) ?_; intro v9 w9 hr9 hb9 hg9 hat9; (have HR9 := Aside0.mk hr9); (have HB9 := Aside0.mk hb9); clear hr9 hb9 hg9 hat9))
            go_roundg q_
            case measure => omega
            case rel => exact ⟨j + 1, v9, out ++ [⟨F.f0, G.f0⟩], rfl, rfl, by omega, ⟨by have h5 := H4.out; simp only [Option.bind_some] at h5; exact h5⟩, HR9, ⟨by have := HLEN.out; simp; omega⟩, ⟨(below_step HBW.out HX8.out).trans HB9.out⟩⟩

/-! ### notarylaw18_awake: function 29 -/
def notarylaw18_awake.f (k : Nat)  : Option (Bool) := (some (([(⟨(⟨#[102]⟩ : ByteArray), ([] : List (S24)), (⟨0, 0, (⟨#[]⟩ : ByteArray), ([] : List (S24)), 0, 0⟩ : S24), 3⟩ : S54)] : List (S54)) : List (S54))).bind fun y120 => ((face_Names.f k y120 y120 (([(⟨3, 3⟩ : S56)] : List (S56)))).bind fun bt126 => (if bt126.2 = true then (if (bt126.1.length : Int) = 1 then (if 0 < (bt126.1.length : Int) then (some (((rd_T58 bt126.1 0).f1).toList == ([102] : List UInt8))) else (none)) else (some false)) else (some false)))
theorem notarylaw18_awake.mono : ∀ k, LeO (notarylaw18_awake.f k ) (notarylaw18_awake.f (k + 1) ) := by
  intro  k
  unfold notarylaw18_awake.f
  repeat' first
      | (with_reducible exact face_Names.mono _ _ _ _)
      | (with_reducible exact LeO.refl _)
      | (with_reducible exact LeO.none _)
      | (with_reducible refine LeO.ite ?_ ?_)
      | (with_reducible refine LeO.bind ?_ (fun _ => ?_))
      | exact face_Names.mono _ _ _ _
      | exact LeO.none _
      | refine LeO.ite ?_ ?_
      | refine LeO.bind ?_ (fun _ => ?_)
set_option maxHeartbeats 8000000 in
set_option maxRecDepth 100000 in
theorem notarylaw18_awake.calls (k : Nat)  (r : Bool) (w : World) (h : notarylaw18_awake.f k  = some r) :
    Calls Try.prog 29 #[] w fun e w' => e = .returned (.bool r) ∧ Below w.heap.size w w' := by
  have hu54 := Try.underlying54
  have hu56 := Try.underlying56
  have HB := Aside0.mk (Below.refl w.heap.size w)
  have H : ((some (([(⟨(⟨#[102]⟩ : ByteArray), ([] : List (S24)), (⟨0, 0, (⟨#[]⟩ : ByteArray), ([] : List (S24)), 0, 0⟩ : S24), 3⟩ : S54)] : List (S54)) : List (S54))).bind fun y120 => ((face_Names.f k y120 y120 (([(⟨3, 3⟩ : S56)] : List (S56)))).bind fun bt126 => (if bt126.2 = true then (if (bt126.1.length : Int) = 1 then (if 0 < (bt126.1.length : Int) then (some (((rd_T58 bt126.1 0).f1).toList == ([102] : List UInt8))) else (none)) else (some false)) else (some false)))) = some r := h
  clear h
  obtain ⟨y120, hy120⟩ : ∃ y_ : List (S54), y_ = (([(⟨(⟨#[102]⟩ : ByteArray), ([] : List (S24)), (⟨0, 0, (⟨#[]⟩ : ByteArray), ([] : List (S24)), 0, 0⟩ : S24), 3⟩ : S54)] : List (S54))) := ⟨_, rfl⟩
  replace H : ((face_Names.f k y120 y120 (([(⟨3, 3⟩ : S56)] : List (S56)))).bind fun bt126 => (if bt126.2 = true then (if (bt126.1.length : Int) = 1 then (if 0 < (bt126.1.length : Int) then (some (((rd_T58 bt126.1 0).f1).toList == ([102] : List UInt8))) else (none)) else (some false)) else (some false))) = some r := by first | (rw [hy120]; with_reducible exact H) | (have H2_ := (Option.bind_some _ _).symm.trans H; rw [hy120]; with_reducible exact H2_) | (have H2_ := (Option.bind_some _ _).symm.trans H; with_reducible exact H2_) | with_reducible exact H | (rw [hy120]; exact H) | exact H
  have Ny120 := Aside0.mk hy120
  clear hy120
  obtain ⟨y123, hy123⟩ : ∃ y_ : List (S56), y_ = (([(⟨3, 3⟩ : S56)] : List (S56))) := ⟨_, rfl⟩
  replace H : ((face_Names.f k y120 y120 y123).bind fun bt126 => (if bt126.2 = true then (if (bt126.1.length : Int) = 1 then (if 0 < (bt126.1.length : Int) then (some (((rd_T58 bt126.1 0).f1).toList == ([102] : List UInt8))) else (none)) else (some false)) else (some false))) = some r := by first | (rw [hy123]; with_reducible exact H) | (have H2_ := (Option.bind_some _ _).symm.trans H; rw [hy123]; with_reducible exact H2_) | (have H2_ := (Option.bind_some _ _).symm.trans H; with_reducible exact H2_) | with_reducible exact H | (rw [hy123]; exact H) | exact H
  have Ny123 := Aside0.mk hy123
  clear hy123
  replace H := Option.bind_eq_some_iff.mp H
  obtain ⟨⟨t126, t127⟩, A10, H⟩ := H
  replace H : (if t127 = true then (if (t126.length : Int) = 1 then (if 0 < (t126.length : Int) then (some (((rd_T58 t126 0).f1).toList == ([102] : List UInt8))) else (none)) else (some false)) else (some false)) = some r := H
  have A1 := Aside0.mk A10
  clear A10
  by_cases c2 : t127 = true
  · subst c2
    have H1 : (if (t126.length : Int) = 1 then (if 0 < (t126.length : Int) then (some (((rd_T58 t126 0).f1).toList == ([102] : List UInt8))) else (none)) else (some false)) = some r := by rw [if_pos rfl] at H; exact H
    clear H
    have H := H1
    clear H1
    by_cases c3 : (t126.length : Int) = 1
    · rw [if_pos c3] at H
      have c3b0 : ((t126.length : Int) == 1) = true := beq_iff_eq.mpr c3
      have c3b1 : ((t126.length : Int) != 1) = false := bne_eq_false_iff_eq.mpr c3
      clear c3
      by_cases c4 : 0 < (t126.length : Int)
      · rw [if_pos c4] at H
        have c4b0 : decide (0 < (t126.length : Int)) = true := decide_eq_true c4
        have c4b1 : decide (0 < t126.length) = true := decide_eq_true (by omega)
        clear c4
        obtain rfl := Option.some.inj H
        go_enter Try.func29, Try.ntmps29
        go_wp2_with (first | ((with_reducible refine gate_dst (N := 5) rfl ?_); (try (refine gate_guard (by rfl) ?_; dsimp only)); refine Kd.R_lit k54 _ 54 ?hg (N := 5) ?hd (xs := ([(⟨(⟨#[102]⟩ : ByteArray), ([] : List (S24)), (⟨0, 0, (⟨#[]⟩ : ByteArray), ([] : List (S24)), 0, 0⟩ : S24), 3⟩ : S54)] : List (S54))) (inner := [.string (⟨#[102]⟩ : ByteArray), .slice none 0 0, .int .i64 0, .int .i64 0, .string (⟨#[]⟩ : ByteArray), .slice none 0 0, .int .i64 0, .int .i64 0, .int .i64 3]) (ok := fun _ => True) (okp := fun _ => True) ?hr ?hp (fun _ hk => hk) trivial (Below.refl _ _) (Nat.le_refl _) (by simp) ?_; (case hd => rfl); (case hg => rfl); (case hr => first | (go_simp; done) | (go_simp; rfl) | (go_simp; simp only [IntKind.wrap_u8, IntKind.wrap_u32, (fun x => Int.tmod_eq_emod_of_nonneg (Int.emod_nonneg x (by decide)) : ∀ x : Int, (x % 4294967296).tmod 256 = x % 4294967296 % 256), Int.emod_emod_of_dvd _ (show (256 : Int) ∣ 4294967296 by decide), Int.emod_emod]; done) | (go_simp; simp only [IntKind.wrap_u8, IntKind.wrap_u32, (fun x => Int.tmod_eq_emod_of_nonneg (Int.emod_nonneg x (by decide)) : ∀ x : Int, (x % 4294967296).tmod 256 = x % 4294967296 % 256), Int.emod_emod_of_dvd _ (show (256 : Int) ∣ 4294967296 by decide), Int.emod_emod]; rfl)); (case hp => exact (Reps.c9 (show Kd.M k54 _ _ _ (⟨(⟨#[102]⟩ : ByteArray), ([] : List (S24)), (⟨0, 0, (⟨#[]⟩ : ByteArray), ([] : List (S24)), 0, 0⟩ : S24), 3⟩ : S54) [.string (⟨#[102]⟩ : ByteArray), .slice none 0 0, .int .i64 0, .int .i64 0, .string (⟨#[]⟩ : ByteArray), .slice none 0 0, .int .i64 0, .int .i64 0, .int .i64 3] from (k54_mkM _ _ _ (⟨(⟨#[102]⟩ : ByteArray), ([] : List (S24)), (⟨0, 0, (⟨#[]⟩ : ByteArray), ([] : List (S24)), 0, 0⟩ : S24), 3⟩ : S54) (Kd.R_nil _ _ _ _ _) (Kd.R_nil _ _ _ _ _))) (Reps.none _ _))); intro v121 w5 ho6 hb hg_ hnew_; clear hg_ hnew_; (first | rw [← Ny120.out] at ho6 | (simp only [Int.reduceToNat] at ho6; rw [← Ny120.out] at ho6)); have n0_ := Aside0.mk (Kd.R_lower ho6 (below_size (by repeat (first | (with_reducible first | exact HB.out | apply below_alloc | apply pw_below_drewN | apply below_drew1) | exact HB.out)))); have n1_ := Aside0.mk (below_step (by repeat (first | (with_reducible first | exact HB.out | apply below_alloc | apply pw_below_drewN | apply below_drew1) | exact HB.out)) hb); clear HB; have HO122 := n0_; have HB := n1_; clear n0_ n1_; clear hb ho6) | ((with_reducible refine gate_dst (N := 10) rfl ?_); (try (refine gate_guard (by rfl) ?_; dsimp only)); refine Kd.R_lit k56 _ 56 ?hg (N := 10) ?hd (xs := ([(⟨3, 3⟩ : S56)] : List (S56))) (inner := [.int .i64 3, .int .i64 3]) (ok := fun _ => True) (okp := fun _ => True) ?hr ?hp (fun _ hk => hk) trivial (Below.refl _ _) (Nat.le_refl _) (by simp) ?_; (case hd => rfl); (case hg => rfl); (case hr => first | (go_simp; done) | (go_simp; rfl) | (go_simp; simp only [IntKind.wrap_u8, IntKind.wrap_u32, (fun x => Int.tmod_eq_emod_of_nonneg (Int.emod_nonneg x (by decide)) : ∀ x : Int, (x % 4294967296).tmod 256 = x % 4294967296 % 256), Int.emod_emod_of_dvd _ (show (256 : Int) ∣ 4294967296 by decide), Int.emod_emod]; done) | (go_simp; simp only [IntKind.wrap_u8, IntKind.wrap_u32, (fun x => Int.tmod_eq_emod_of_nonneg (Int.emod_nonneg x (by decide)) : ∀ x : Int, (x % 4294967296).tmod 256 = x % 4294967296 % 256), Int.emod_emod_of_dvd _ (show (256 : Int) ∣ 4294967296 by decide), Int.emod_emod]; rfl)); (case hp => exact (Reps.c2 (show Kd.M k56 _ _ _ (⟨3, 3⟩ : S56) [.int .i64 3, .int .i64 3] from (k56_mkM _ _ _ (⟨3, 3⟩ : S56) )) (Reps.none _ _))); intro v124 w7 ho8 hb hg_ hnew_; clear hg_ hnew_; (first | rw [← Ny123.out] at ho8 | (simp only [Int.reduceToNat] at ho8; rw [← Ny123.out] at ho8)); have n0_ := Aside0.mk (Kd.R_below (by (with_reducible repeat (first | apply Kd.R_alloc | apply Kd.R_drewN | apply Kd.R_drew)); exact HO122.out) hb); have n1_ := Aside0.mk (Kd.R_lower ho8 (below_size (by repeat (first | (with_reducible first | exact HB.out | apply below_alloc | apply pw_below_drewN | apply below_drew1) | exact HB.out)))); have n2_ := Aside0.mk (below_step (by repeat (first | (with_reducible first | exact HB.out | apply below_alloc | apply pw_below_drewN | apply below_drew1) | exact HB.out)) hb); clear HO122; clear HB; have HO122 := n0_; have HO125 := n1_; have HB := n2_; clear n0_ n1_ n2_; clear hb ho8; obtain ⟨Ao9, co9, eo9⟩ := Kd.R_slice HO122.out; subst eo9; obtain ⟨Ao10, co10, eo10⟩ := Kd.R_slice HO125.out; subst eo10) | ((with_reducible refine gate_callee (f := 30) rfl ?_); refine goesL_ (some 11) rfl rfl Try.func30 (by kernel_rfl) rfl #[.slice Ao9 y120.length co9, .slice Ao9 y120.length co9, .slice Ao10 y123.length co10] rfl (by (try simp only [List.map_toArray, List.map_cons, List.map_nil]); first | done | rfl | (simp only [List.length_drop, List.length_take]; rfl)) ?_; (with_reducible refine (face_Names.calls k _ _ y120 _ _ y120 _ _ y123 t126 true _ ?side1 ?side2 ?side3 ?side4 ?side5 ?side6 A1.out).mono ?_); (case side1 => repeat (first | exact (Kd.R_reads' HO122.out).2.2 | (with_reducible refine Kd.C_alloc ?_ _) | (with_reducible refine Kd.C_drewN ?_ _) | (with_reducible refine Kd.C_drew ?_))); (case side2 => exact (Kd.R_reads' HO122.out).2.1); (case side3 => repeat (first | exact (Kd.R_reads' HO122.out).2.2 | (with_reducible refine Kd.C_alloc ?_ _) | (with_reducible refine Kd.C_drewN ?_ _) | (with_reducible refine Kd.C_drew ?_))); (case side4 => exact (Kd.R_reads' HO122.out).2.1); (case side5 => repeat (first | exact (Kd.R_reads' HO125.out).2.2 | (with_reducible refine Kd.C_alloc ?_ _) | (with_reducible refine Kd.C_drewN ?_ _) | (with_reducible refine Kd.C_drew ?_))); (case side6 => exact (Kd.R_reads' HO125.out).2.1); rintro e w11 ⟨v128, rfl, ho0, hb⟩; refine ⟨_, rfl, ?_⟩; have n0_ := Aside0.mk (Kd.R_below (by (with_reducible repeat (first | apply Kd.R_alloc | apply Kd.R_drewN | apply Kd.R_drew)); exact HO122.out) hb); have n1_ := Aside0.mk (Kd.R_below (by (with_reducible repeat (first | apply Kd.R_alloc | apply Kd.R_drewN | apply Kd.R_drew)); exact HO125.out) hb); have n2_ := Aside0.mk (Kd.R_lower ho0 (below_size (by repeat (first | (with_reducible first | exact HB.out | apply below_alloc | apply pw_below_drewN | apply below_drew1) | exact HB.out)))); have n3_ := Aside0.mk (below_step (by repeat (first | (with_reducible first | exact HB.out | apply below_alloc | apply pw_below_drewN | apply below_drew1) | exact HB.out)) hb); clear HO122; clear HO125; clear HB; have HO122 := n0_; have HO125 := n1_; have HO129 := n2_; have HB := n3_; clear n0_ n1_ n2_ n3_; (try clear hb); (try clear hb2); (try clear hk); (try clear hi); (try clear ho0); obtain ⟨Ao12, co12, eo12⟩ := Kd.R_slice HO129.out; subst eo12; have p130 : 0 ≤ (0 : Int) := (by omega); have q130 : 0 < (t126.length : Int) := of_decide_eq_true (by first | (with_reducible assumption) | assumption); obtain ⟨ad130, e130, hx130_0, hx130_1⟩ := at_T58 (Kd.R_reads' HO129.out).2.2 0 p130 q130; cases e130; have qi130 : (0 < t126.length) = True := eq_true (by omega); (try rw [show ((0 : Int)).toNat = 0 from rfl] at hx130_0); (try rw [show 0 * 2 = 0 from rfl] at hx130_0); (try rw [Addr.add_zero'] at hx130_0); (try rw [show ((0 : Int)).toNat = 0 from rfl] at hx130_1); (try rw [show 0 * 2 = 0 from rfl] at hx130_1); (try rw [Addr.add_zero'] at hx130_1); replace p130 := eq_true p130; replace q130 := eq_true q130))
        go_ret
        exact ⟨by first | rfl | (simp [errW_none, errW_some] <;> rfl) | (simp [*, errW_none, errW_some] <;> rfl), by repeat (first | (with_reducible first | exact HB.out | apply below_alloc | apply pw_below_drewN | apply below_drew1) | exact HB.out)⟩
      · rw [if_neg c4] at H
        exact absurd H (by simp)
    · rw [if_neg c3] at H
      have c3b0 : ((t126.length : Int) == 1) = false := beq_eq_false_iff_ne.mpr c3
      have c3b1 : ((t126.length : Int) != 1) = true := bne_iff_ne.mpr c3
      obtain rfl := Option.some.inj H
      go_enter Try.func29, Try.ntmps29
      go_wp2_with (first | ((with_reducible refine gate_dst (N := 5) rfl ?_); (try (refine gate_guard (by rfl) ?_; dsimp only)); refine Kd.R_lit k54 _ 54 ?hg (N := 5) ?hd (xs := ([(⟨(⟨#[102]⟩ : ByteArray), ([] : List (S24)), (⟨0, 0, (⟨#[]⟩ : ByteArray), ([] : List (S24)), 0, 0⟩ : S24), 3⟩ : S54)] : List (S54))) (inner := [.string (⟨#[102]⟩ : ByteArray), .slice none 0 0, .int .i64 0, .int .i64 0, .string (⟨#[]⟩ : ByteArray), .slice none 0 0, .int .i64 0, .int .i64 0, .int .i64 3]) (ok := fun _ => True) (okp := fun _ => True) ?hr ?hp (fun _ hk => hk) trivial (Below.refl _ _) (Nat.le_refl _) (by simp) ?_; (case hd => rfl); (case hg => rfl); (case hr => first | (go_simp; done) | (go_simp; rfl) | (go_simp; simp only [IntKind.wrap_u8, IntKind.wrap_u32, (fun x => Int.tmod_eq_emod_of_nonneg (Int.emod_nonneg x (by decide)) : ∀ x : Int, (x % 4294967296).tmod 256 = x % 4294967296 % 256), Int.emod_emod_of_dvd _ (show (256 : Int) ∣ 4294967296 by decide), Int.emod_emod]; done) | (go_simp; simp only [IntKind.wrap_u8, IntKind.wrap_u32, (fun x => Int.tmod_eq_emod_of_nonneg (Int.emod_nonneg x (by decide)) : ∀ x : Int, (x % 4294967296).tmod 256 = x % 4294967296 % 256), Int.emod_emod_of_dvd _ (show (256 : Int) ∣ 4294967296 by decide), Int.emod_emod]; rfl)); (case hp => exact (Reps.c9 (show Kd.M k54 _ _ _ (⟨(⟨#[102]⟩ : ByteArray), ([] : List (S24)), (⟨0, 0, (⟨#[]⟩ : ByteArray), ([] : List (S24)), 0, 0⟩ : S24), 3⟩ : S54) [.string (⟨#[102]⟩ : ByteArray), .slice none 0 0, .int .i64 0, .int .i64 0, .string (⟨#[]⟩ : ByteArray), .slice none 0 0, .int .i64 0, .int .i64 0, .int .i64 3] from (k54_mkM _ _ _ (⟨(⟨#[102]⟩ : ByteArray), ([] : List (S24)), (⟨0, 0, (⟨#[]⟩ : ByteArray), ([] : List (S24)), 0, 0⟩ : S24), 3⟩ : S54) (Kd.R_nil _ _ _ _ _) (Kd.R_nil _ _ _ _ _))) (Reps.none _ _))); intro v121 w13 ho14 hb hg_ hnew_; clear hg_ hnew_; (first | rw [← Ny120.out] at ho14 | (simp only [Int.reduceToNat] at ho14; rw [← Ny120.out] at ho14)); have n0_ := Aside0.mk (Kd.R_lower ho14 (below_size (by repeat (first | (with_reducible first | exact HB.out | apply below_alloc | apply pw_below_drewN | apply below_drew1) | exact HB.out)))); have n1_ := Aside0.mk (below_step (by repeat (first | (with_reducible first | exact HB.out | apply below_alloc | apply pw_below_drewN | apply below_drew1) | exact HB.out)) hb); clear HB; have HO122 := n0_; have HB := n1_; clear n0_ n1_; clear hb ho14) | ((with_reducible refine gate_dst (N := 10) rfl ?_); (try (refine gate_guard (by rfl) ?_; dsimp only)); refine Kd.R_lit k56 _ 56 ?hg (N := 10) ?hd (xs := ([(⟨3, 3⟩ : S56)] : List (S56))) (inner := [.int .i64 3, .int .i64 3]) (ok := fun _ => True) (okp := fun _ => True) ?hr ?hp (fun _ hk => hk) trivial (Below.refl _ _) (Nat.le_refl _) (by simp) ?_; (case hd => rfl); (case hg => rfl); (case hr => first | (go_simp; done) | (go_simp; rfl) | (go_simp; simp only [IntKind.wrap_u8, IntKind.wrap_u32, (fun x => Int.tmod_eq_emod_of_nonneg (Int.emod_nonneg x (by decide)) : ∀ x : Int, (x % 4294967296).tmod 256 = x % 4294967296 % 256), Int.emod_emod_of_dvd _ (show (256 : Int) ∣ 4294967296 by decide), Int.emod_emod]; done) | (go_simp; simp only [IntKind.wrap_u8, IntKind.wrap_u32, (fun x => Int.tmod_eq_emod_of_nonneg (Int.emod_nonneg x (by decide)) : ∀ x : Int, (x % 4294967296).tmod 256 = x % 4294967296 % 256), Int.emod_emod_of_dvd _ (show (256 : Int) ∣ 4294967296 by decide), Int.emod_emod]; rfl)); (case hp => exact (Reps.c2 (show Kd.M k56 _ _ _ (⟨3, 3⟩ : S56) [.int .i64 3, .int .i64 3] from (k56_mkM _ _ _ (⟨3, 3⟩ : S56) )) (Reps.none _ _))); intro v124 w15 ho16 hb hg_ hnew_; clear hg_ hnew_; (first | rw [← Ny123.out] at ho16 | (simp only [Int.reduceToNat] at ho16; rw [← Ny123.out] at ho16)); have n0_ := Aside0.mk (Kd.R_below (by (with_reducible repeat (first | apply Kd.R_alloc | apply Kd.R_drewN | apply Kd.R_drew)); exact HO122.out) hb); have n1_ := Aside0.mk (Kd.R_lower ho16 (below_size (by repeat (first | (with_reducible first | exact HB.out | apply below_alloc | apply pw_below_drewN | apply below_drew1) | exact HB.out)))); have n2_ := Aside0.mk (below_step (by repeat (first | (with_reducible first | exact HB.out | apply below_alloc | apply pw_below_drewN | apply below_drew1) | exact HB.out)) hb); clear HO122; clear HB; have HO122 := n0_; have HO125 := n1_; have HB := n2_; clear n0_ n1_ n2_; clear hb ho16; obtain ⟨Ao17, co17, eo17⟩ := Kd.R_slice HO122.out; subst eo17; obtain ⟨Ao18, co18, eo18⟩ := Kd.R_slice HO125.out; subst eo18) | ((with_reducible refine gate_callee (f := 30) rfl ?_); refine goesL_ (some 11) rfl rfl Try.func30 (by kernel_rfl) rfl #[.slice Ao17 y120.length co17, .slice Ao17 y120.length co17, .slice Ao18 y123.length co18] rfl (by (try simp only [List.map_toArray, List.map_cons, List.map_nil]); first | done | rfl | (simp only [List.length_drop, List.length_take]; rfl)) ?_; (with_reducible refine (face_Names.calls k _ _ y120 _ _ y120 _ _ y123 t126 true _ ?side1 ?side2 ?side3 ?side4 ?side5 ?side6 A1.out).mono ?_); (case side1 => repeat (first | exact (Kd.R_reads' HO122.out).2.2 | (with_reducible refine Kd.C_alloc ?_ _) | (with_reducible refine Kd.C_drewN ?_ _) | (with_reducible refine Kd.C_drew ?_))); (case side2 => exact (Kd.R_reads' HO122.out).2.1); (case side3 => repeat (first | exact (Kd.R_reads' HO122.out).2.2 | (with_reducible refine Kd.C_alloc ?_ _) | (with_reducible refine Kd.C_drewN ?_ _) | (with_reducible refine Kd.C_drew ?_))); (case side4 => exact (Kd.R_reads' HO122.out).2.1); (case side5 => repeat (first | exact (Kd.R_reads' HO125.out).2.2 | (with_reducible refine Kd.C_alloc ?_ _) | (with_reducible refine Kd.C_drewN ?_ _) | (with_reducible refine Kd.C_drew ?_))); (case side6 => exact (Kd.R_reads' HO125.out).2.1); rintro e w19 ⟨v128, rfl, ho0, hb⟩; refine ⟨_, rfl, ?_⟩; have n0_ := Aside0.mk (Kd.R_below (by (with_reducible repeat (first | apply Kd.R_alloc | apply Kd.R_drewN | apply Kd.R_drew)); exact HO122.out) hb); have n1_ := Aside0.mk (Kd.R_below (by (with_reducible repeat (first | apply Kd.R_alloc | apply Kd.R_drewN | apply Kd.R_drew)); exact HO125.out) hb); have n2_ := Aside0.mk (Kd.R_lower ho0 (below_size (by repeat (first | (with_reducible first | exact HB.out | apply below_alloc | apply pw_below_drewN | apply below_drew1) | exact HB.out)))); have n3_ := Aside0.mk (below_step (by repeat (first | (with_reducible first | exact HB.out | apply below_alloc | apply pw_below_drewN | apply below_drew1) | exact HB.out)) hb); clear HO122; clear HO125; clear HB; have HO122 := n0_; have HO125 := n1_; have HO129 := n2_; have HB := n3_; clear n0_ n1_ n2_ n3_; (try clear hb); (try clear hb2); (try clear hk); (try clear hi); (try clear ho0); obtain ⟨Ao20, co20, eo20⟩ := Kd.R_slice HO129.out; subst eo20))
      go_ret
      exact ⟨by first | rfl | (simp [errW_none, errW_some] <;> rfl) | (simp [*, errW_none, errW_some] <;> rfl), by repeat (first | (with_reducible first | exact HB.out | apply below_alloc | apply pw_below_drewN | apply below_drew1) | exact HB.out)⟩
  · replace c2 := Bool.eq_false_iff.mpr c2
    subst c2
    have H1 : (some false) = some r := by rw [if_neg (show ¬ (false = true) by decide)] at H; exact H
    clear H
    have H := H1
    clear H1
    obtain rfl := Option.some.inj H
    go_enter Try.func29, Try.ntmps29
    go_wp2_with (first | ((with_reducible refine gate_dst (N := 5) rfl ?_); (try (refine gate_guard (by rfl) ?_; dsimp only)); refine Kd.R_lit k54 _ 54 ?hg (N := 5) ?hd (xs := ([(⟨(⟨#[102]⟩ : ByteArray), ([] : List (S24)), (⟨0, 0, (⟨#[]⟩ : ByteArray), ([] : List (S24)), 0, 0⟩ : S24), 3⟩ : S54)] : List (S54))) (inner := [.string (⟨#[102]⟩ : ByteArray), .slice none 0 0, .int .i64 0, .int .i64 0, .string (⟨#[]⟩ : ByteArray), .slice none 0 0, .int .i64 0, .int .i64 0, .int .i64 3]) (ok := fun _ => True) (okp := fun _ => True) ?hr ?hp (fun _ hk => hk) trivial (Below.refl _ _) (Nat.le_refl _) (by simp) ?_; (case hd => rfl); (case hg => rfl); (case hr => first | (go_simp; done) | (go_simp; rfl) | (go_simp; simp only [IntKind.wrap_u8, IntKind.wrap_u32, (fun x => Int.tmod_eq_emod_of_nonneg (Int.emod_nonneg x (by decide)) : ∀ x : Int, (x % 4294967296).tmod 256 = x % 4294967296 % 256), Int.emod_emod_of_dvd _ (show (256 : Int) ∣ 4294967296 by decide), Int.emod_emod]; done) | (go_simp; simp only [IntKind.wrap_u8, IntKind.wrap_u32, (fun x => Int.tmod_eq_emod_of_nonneg (Int.emod_nonneg x (by decide)) : ∀ x : Int, (x % 4294967296).tmod 256 = x % 4294967296 % 256), Int.emod_emod_of_dvd _ (show (256 : Int) ∣ 4294967296 by decide), Int.emod_emod]; rfl)); (case hp => exact (Reps.c9 (show Kd.M k54 _ _ _ (⟨(⟨#[102]⟩ : ByteArray), ([] : List (S24)), (⟨0, 0, (⟨#[]⟩ : ByteArray), ([] : List (S24)), 0, 0⟩ : S24), 3⟩ : S54) [.string (⟨#[102]⟩ : ByteArray), .slice none 0 0, .int .i64 0, .int .i64 0, .string (⟨#[]⟩ : ByteArray), .slice none 0 0, .int .i64 0, .int .i64 0, .int .i64 3] from (k54_mkM _ _ _ (⟨(⟨#[102]⟩ : ByteArray), ([] : List (S24)), (⟨0, 0, (⟨#[]⟩ : ByteArray), ([] : List (S24)), 0, 0⟩ : S24), 3⟩ : S54) (Kd.R_nil _ _ _ _ _) (Kd.R_nil _ _ _ _ _))) (Reps.none _ _))); intro v121 w21 ho22 hb hg_ hnew_; clear hg_ hnew_; (first | rw [← Ny120.out] at ho22 | (simp only [Int.reduceToNat] at ho22; rw [← Ny120.out] at ho22)); have n0_ := Aside0.mk (Kd.R_lower ho22 (below_size (by repeat (first | (with_reducible first | exact HB.out | apply below_alloc | apply pw_below_drewN | apply below_drew1) | exact HB.out)))); have n1_ := Aside0.mk (below_step (by repeat (first | (with_reducible first | exact HB.out | apply below_alloc | apply pw_below_drewN | apply below_drew1) | exact HB.out)) hb); clear HB; have HO122 := n0_; have HB := n1_; clear n0_ n1_; clear hb ho22) | ((with_reducible refine gate_dst (N := 10) rfl ?_); (try (refine gate_guard (by rfl) ?_; dsimp only)); refine Kd.R_lit k56 _ 56 ?hg (N := 10) ?hd (xs := ([(⟨3, 3⟩ : S56)] : List (S56))) (inner := [.int .i64 3, .int .i64 3]) (ok := fun _ => True) (okp := fun _ => True) ?hr ?hp (fun _ hk => hk) trivial (Below.refl _ _) (Nat.le_refl _) (by simp) ?_; (case hd => rfl); (case hg => rfl); (case hr => first | (go_simp; done) | (go_simp; rfl) | (go_simp; simp only [IntKind.wrap_u8, IntKind.wrap_u32, (fun x => Int.tmod_eq_emod_of_nonneg (Int.emod_nonneg x (by decide)) : ∀ x : Int, (x % 4294967296).tmod 256 = x % 4294967296 % 256), Int.emod_emod_of_dvd _ (show (256 : Int) ∣ 4294967296 by decide), Int.emod_emod]; done) | (go_simp; simp only [IntKind.wrap_u8, IntKind.wrap_u32, (fun x => Int.tmod_eq_emod_of_nonneg (Int.emod_nonneg x (by decide)) : ∀ x : Int, (x % 4294967296).tmod 256 = x % 4294967296 % 256), Int.emod_emod_of_dvd _ (show (256 : Int) ∣ 4294967296 by decide), Int.emod_emod]; rfl)); (case hp => exact (Reps.c2 (show Kd.M k56 _ _ _ (⟨3, 3⟩ : S56) [.int .i64 3, .int .i64 3] from (k56_mkM _ _ _ (⟨3, 3⟩ : S56) )) (Reps.none _ _))); intro v124 w23 ho24 hb hg_ hnew_; clear hg_ hnew_; (first | rw [← Ny123.out] at ho24 | (simp only [Int.reduceToNat] at ho24; rw [← Ny123.out] at ho24)); have n0_ := Aside0.mk (Kd.R_below (by (with_reducible repeat (first | apply Kd.R_alloc | apply Kd.R_drewN | apply Kd.R_drew)); exact HO122.out) hb); have n1_ := Aside0.mk (Kd.R_lower ho24 (below_size (by repeat (first | (with_reducible first | exact HB.out | apply below_alloc | apply pw_below_drewN | apply below_drew1) | exact HB.out)))); have n2_ := Aside0.mk (below_step (by repeat (first | (with_reducible first | exact HB.out | apply below_alloc | apply pw_below_drewN | apply below_drew1) | exact HB.out)) hb); clear HO122; clear HB; have HO122 := n0_; have HO125 := n1_; have HB := n2_; clear n0_ n1_ n2_; clear hb ho24; obtain ⟨Ao25, co25, eo25⟩ := Kd.R_slice HO122.out; subst eo25; obtain ⟨Ao26, co26, eo26⟩ := Kd.R_slice HO125.out; subst eo26) | ((with_reducible refine gate_callee (f := 30) rfl ?_); refine goesL_ (some 11) rfl rfl Try.func30 (by kernel_rfl) rfl #[.slice Ao25 y120.length co25, .slice Ao25 y120.length co25, .slice Ao26 y123.length co26] rfl (by (try simp only [List.map_toArray, List.map_cons, List.map_nil]); first | done | rfl | (simp only [List.length_drop, List.length_take]; rfl)) ?_; (with_reducible refine (face_Names.calls k _ _ y120 _ _ y120 _ _ y123 t126 false _ ?side1 ?side2 ?side3 ?side4 ?side5 ?side6 A1.out).mono ?_); (case side1 => repeat (first | exact (Kd.R_reads' HO122.out).2.2 | (with_reducible refine Kd.C_alloc ?_ _) | (with_reducible refine Kd.C_drewN ?_ _) | (with_reducible refine Kd.C_drew ?_))); (case side2 => exact (Kd.R_reads' HO122.out).2.1); (case side3 => repeat (first | exact (Kd.R_reads' HO122.out).2.2 | (with_reducible refine Kd.C_alloc ?_ _) | (with_reducible refine Kd.C_drewN ?_ _) | (with_reducible refine Kd.C_drew ?_))); (case side4 => exact (Kd.R_reads' HO122.out).2.1); (case side5 => repeat (first | exact (Kd.R_reads' HO125.out).2.2 | (with_reducible refine Kd.C_alloc ?_ _) | (with_reducible refine Kd.C_drewN ?_ _) | (with_reducible refine Kd.C_drew ?_))); (case side6 => exact (Kd.R_reads' HO125.out).2.1); rintro e w27 ⟨v128, rfl, ho0, hb⟩; refine ⟨_, rfl, ?_⟩; have n0_ := Aside0.mk (Kd.R_below (by (with_reducible repeat (first | apply Kd.R_alloc | apply Kd.R_drewN | apply Kd.R_drew)); exact HO122.out) hb); have n1_ := Aside0.mk (Kd.R_below (by (with_reducible repeat (first | apply Kd.R_alloc | apply Kd.R_drewN | apply Kd.R_drew)); exact HO125.out) hb); have n2_ := Aside0.mk (Kd.R_lower ho0 (below_size (by repeat (first | (with_reducible first | exact HB.out | apply below_alloc | apply pw_below_drewN | apply below_drew1) | exact HB.out)))); have n3_ := Aside0.mk (below_step (by repeat (first | (with_reducible first | exact HB.out | apply below_alloc | apply pw_below_drewN | apply below_drew1) | exact HB.out)) hb); clear HO122; clear HO125; clear HB; have HO122 := n0_; have HO125 := n1_; have HO129 := n2_; have HB := n3_; clear n0_ n1_ n2_ n3_; (try clear hb); (try clear hb2); (try clear hk); (try clear hi); (try clear ho0)))
    go_ret
    exact ⟨by first | rfl | (simp [errW_none, errW_some] <;> rfl) | (simp [*, errW_none, errW_some] <;> rfl), by repeat (first | (with_reducible first | exact HB.out | apply below_alloc | apply pw_below_drewN | apply below_drew1) | exact HB.out)⟩

end Go.Proofs.Ytppeaofdohghgaa.PFc
