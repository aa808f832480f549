-- SLIM: a printed text of which the unused ways are cut off
-- PRINTED by print.py (a twelfth state) out of the translation. Not trusted: Lean checks it.
import Derived.Test.YtiamcmjdoobaeaaPCex0
import Derived.Test.YtiamcmjdoobaeaaPCex1
namespace Go.Proofs.Ytiamcmjdoobaeaa.PCe
open Go.RowKit Go.Proofs.YtiamcmjdoobaeaaW.PrintWords Go.Proofs.YtiamcmjdoobaeaaW.PrintLast Go.Proofs.YtiamcmjdoobaeaaW.PrintMore
attribute [local go_sem] max2_int min2_int max_two min_two max_three min_three max_four min_four   -- for this text's walks alone
set_option linter.unusedVariables false
set_option linter.unusedSimpArgs false

/-! ### code_reader_down: function 69 -/
/-- a reader: its block, the bytes it reads, its place, its level, what is wrong -/
structure code_rd.Rd (w0 w : World) (g : Nat) (A : Option Addr) (c : Nat) (b : List Int) (p lv e : Int) : Prop where
  blk : w.heap[g]? = some (.cells #[.slice A b.length c, .int .i64 p, .int .i64 lv, .int .i64 e] 75 (0, 0))
  ge : w0.heap.size ≤ g
  src : Kd.C (Kd.int .u8) w0 A b.length b
  cap : b.length ≤ c
  bel : Below w0.heap.size w0 w
theorem code_rd.move {w0 w w' : World} {g : Nat} {A : Option Addr} {c : Nat} {b : List Int} {p lv e : Int} (h : code_rd.Rd w0 w g A c b p lv e) (hb : Below w.heap.size w w') : code_rd.Rd w0 w' g A c b p lv e :=
  ⟨blk_below h.blk hb, h.ge, h.src, h.cap, below_step h.bel hb⟩
theorem code_rd.now {w0 w : World} {g : Nat} {A : Option Addr} {c : Nat} {b : List Int} {p lv e : Int} (h : code_rd.Rd w0 w g A c b p lv e) : Kd.C (Kd.int .u8) w A b.length b := Kd.C_below h.src h.bel
theorem code_rd.drewN {w0 w : World} {g : Nat} {A : Option Addr} {c : Nat} {b : List Int} {p lv e : Int} (h : code_rd.Rd w0 w g A c b p lv e) (m : Nat) : code_rd.Rd w0 (w.drewN m) g A c b p lv e := ⟨h.blk, h.ge, h.src, h.cap, pw_below_drewN h.bel m⟩
theorem code_rd.moveB {w0 w w' : World} {g B : Nat} {A : Option Addr} {c : Nat} {b : List Int} {p lv e : Int} (h : code_rd.Rd w0 w g A c b p lv e) (hb : Below B w w') (h0 : w0.heap.size ≤ B) (hg : g < B) : code_rd.Rd w0 w' g A c b p lv e :=
  ⟨(hb.block g hg).trans h.blk, h.ge, h.src, h.cap, h.bel.trans (hb.mono h0)⟩
theorem code_rd.keep3 {w w1 w2 w3 : World} {g : Nat} (h1 : KeepBut w w1 g none) (h2 : KeepBut w1 w2 g none) (h3 : Below w.heap.size w2 w3) : KeepBut w w3 g none :=
  ⟨Nat.le_trans h1.1 (Nat.le_trans h2.1 h3.size), fun i hi hg hr => (h3.block i hi).trans ((h2.2 i (Nat.lt_of_lt_of_le hi h1.1) hg hr).trans (h1.2 i hi hg hr))⟩
theorem code_rd.set1 {w0 w : World} {g : Nat} {A : Option Addr} {c : Nat} {b : List Int} {p lv e : Int} (h : code_rd.Rd w0 w g A c b p lv e) (q : Int) : code_rd.Rd w0 (w.setCell ⟨g, 1, none⟩ (.int .i64 q)) g A c b q lv e :=
  ⟨blk_put h.blk 1 _ rfl, h.ge, h.src, h.cap, below_set h.bel h.ge⟩
theorem code_rd.set2 {w0 w : World} {g : Nat} {A : Option Addr} {c : Nat} {b : List Int} {p lv e : Int} (h : code_rd.Rd w0 w g A c b p lv e) (q : Int) : code_rd.Rd w0 (w.setCell ⟨g, 2, none⟩ (.int .i64 q)) g A c b p q e :=
  ⟨blk_put h.blk 2 _ rfl, h.ge, h.src, h.cap, below_set h.bel h.ge⟩
theorem code_rd.set3 {w0 w : World} {g : Nat} {A : Option Addr} {c : Nat} {b : List Int} {p lv e : Int} (h : code_rd.Rd w0 w g A c b p lv e) (q : Int) : code_rd.Rd w0 (w.setCell ⟨g, 3, none⟩ (.int .i64 q)) g A c b p lv q :=
  ⟨blk_put h.blk 3 _ rfl, h.ge, h.src, h.cap, below_set h.bel h.ge⟩
/-- one byte: what it is, the place behind it, what is wrong -/
def code_rd.one (b : List Int) (p e : Int) : Option (Int × Int × Int) := if e = 0 then (if p ≥ (b.length : Int) then some (0, p, 1) else if 0 ≤ p then some (wrap64 (rd b p), p + 1, 0) else none) else some (0, p, e)
set_option maxHeartbeats 4000000 in
set_option maxRecDepth 100000 in
theorem code_rd.one_calls (w0 w : World) (g : Nat) (A : Option Addr) (c : Nat) (b : List Int) (p lv e : Int) (r1 r2 r3 : Int) (hl : b.length < 1000000000000) (hI : code_rd.Rd w0 w g A c b p lv e) (h : code_rd.one b p e = some (r1, r2, r3)) :
    Calls Try.prog 70 #[.pointer (some ⟨g, 0, none⟩)] w fun x w' => x = .returned (.int .i64 r1) ∧ code_rd.Rd w0 w' g A c b r2 lv r3 ∧ KeepBut w w' g none := by
  have hu := Try.underlying75
  have x0 : w.cell? ⟨g, 0, none⟩ = some (.slice A b.length c) := (blk_cell hI.blk 0).trans rfl
  have x1 : w.cell? ⟨g, 1, none⟩ = some (.int .i64 p) := (blk_cell hI.blk 1).trans rfl
  have x3 : w.cell? ⟨g, 3, none⟩ = some (.int .i64 e) := (blk_cell hI.blk 3).trans rfl
  have f1 : w.frozen? ⟨g, 1, none⟩ = false := blk_frozen hI.blk 1
  have f3 : w.frozen? ⟨g, 3, none⟩ = false := blk_frozen hI.blk 3
  have HI := Aside0.mk hI
  clear hI
  unfold code_rd.one at h
  by_cases he : e = 0
  case neg =>
    rw [if_neg he] at h
    have e1 := Option.some.inj h
    simp only [Prod.mk.injEq] at e1
    obtain ⟨rfl, rfl, rfl⟩ := e1
    have heb : (e != 0) = true := by simpa using he
    clear h he
    go_enter Try.func70, Try.ntmps70
    go_wp2
    go_ret
    exact ⟨rfl, HI.out, KeepBut.refl _ _ _⟩
  rw [if_pos he] at h
  subst he
  by_cases hp : p ≥ (b.length : Int)
  · rw [if_pos hp] at h
    have e1 := Option.some.inj h
    simp only [Prod.mk.injEq] at e1
    obtain ⟨rfl, rfl, rfl⟩ := e1
    have hpb : decide ((b.length : Int) ≤ p) = true := decide_eq_true hp
    clear h hp
    go_enter Try.func70, Try.ntmps70
    go_wp2
    go_quiet (fail)
    go_wp2
    go_ret
    exact ⟨rfl, code_rd.set3 (code_rd.drewN HI.out _) 1, (keep_drewN (KeepBut.refl _ _ _) _).set_ 3 _⟩
  · rw [if_neg hp] at h
    by_cases hp0 : 0 ≤ p
    case neg => rw [if_neg hp0] at h; exact absurd h (by simp)
    rw [if_pos hp0] at h
    have e1 := Option.some.inj h
    simp only [Prod.mk.injEq] at e1
    obtain ⟨rfl, rfl, rfl⟩ := e1
    have hpb : decide ((b.length : Int) ≤ p) = false := decide_eq_false hp
    obtain ⟨n, rfl⟩ := Int.eq_ofNat_of_zero_le hp0
    have hn : n < b.length := by omega
    have hw1 : IntKind.i64.wrap ((n : Int) + 1) = (n : Int) + 1 := IntWalk.i64_in _ (by omega)
    have hw2 : IntKind.i64.wrap ((n : Int) + 1 - 1) = (n : Int) := by rw [show (n : Int) + 1 - 1 = (n : Int) by omega]; exact IntWalk.i64_in _ (by omega)
    obtain ⟨ad, eA, hcells⟩ := HI.out.src.2.2 (by omega)
    obtain ⟨ci, _, hK, hci⟩ := hcells n b[n] (List.getElem?_eq_getElem hn)
    obtain rfl : ci = [.int .u8 b[n]] := hK
    have hx0 : w0.cell? (ad.add n) = some (.int .u8 b[n]) := by have := hci 0 _ rfl; rw [show (Kd.int .u8).sz = 1 from rfl] at this; simpa using this
    have hx : ∀ m v, ((w.drewN m).setCell ⟨g, 1, none⟩ v).cell? (ad.add n) = some (.int .u8 b[n]) := fun m v => pw_cell_below (below_set (pw_below_drewN HI.out.bel m) HI.out.ge) hx0
    have hr : rd b (n : Int) = b[n] := by unfold rd; simp [List.getD_eq_getElem?_getD, List.getElem?_eq_getElem hn]
    rw [hr]
    generalize b[n] = z at *
    subst eA
    have p1 : (n : Int) < (b.length : Int) := by omega
    clear h hp hp0 hcells hci hr hx0
    go_enter Try.func70, Try.ntmps70
    go_wp2
    go_quiet (fail)
    go_wp2
    go_quiet (fail)
    go_wp2
    go_ret
    exact ⟨rfl, code_rd.drewN (code_rd.set1 (code_rd.drewN HI.out _) _) _, keep_drewN ((keep_drewN (KeepBut.refl _ _ _) _).set_ 1 _) _⟩
/-- a level down: whether it is there, the level, what is wrong -/
def code_rd.down (lv e : Int) : Bool × Int × Int := if e = 0 then (if lv + 1 > 64 then (false, lv + 1, 7) else (true, lv + 1, 0)) else (false, lv + 1, e)
set_option maxHeartbeats 4000000 in
set_option maxRecDepth 100000 in
theorem code_rd.down_calls (w0 w : World) (g : Nat) (A : Option Addr) (c : Nat) (b : List Int) (p lv e : Int) (hlv : -1000000 ≤ lv ∧ lv ≤ 1000000) (hI : code_rd.Rd w0 w g A c b p lv e) :
    Calls Try.prog 69 #[.pointer (some ⟨g, 0, none⟩)] w fun x w' => x = .returned (.bool (code_rd.down lv e).1) ∧ code_rd.Rd w0 w' g A c b p (code_rd.down lv e).2.1 (code_rd.down lv e).2.2 ∧ KeepBut w w' g none := by
  have hu := Try.underlying75
  have x2 : w.cell? ⟨g, 2, none⟩ = some (.int .i64 lv) := (blk_cell hI.blk 2).trans rfl
  have x3 : w.cell? ⟨g, 3, none⟩ = some (.int .i64 e) := (blk_cell hI.blk 3).trans rfl
  have f2 : w.frozen? ⟨g, 2, none⟩ = false := blk_frozen hI.blk 2
  have f3 : w.frozen? ⟨g, 3, none⟩ = false := blk_frozen hI.blk 3
  have hw : IntKind.i64.wrap (lv + 1) = lv + 1 := IntWalk.i64_in _ (by omega)
  have HI := Aside0.mk hI
  clear hI
  unfold code_rd.down
  by_cases he : e = 0
  case neg =>
    have heb : (e == 0) = false := by simpa using he
    rw [if_neg he]
    clear he
    go_enter Try.func69, Try.ntmps69
    go_wp2
    go_ret
    exact ⟨rfl, code_rd.set2 HI.out _, (KeepBut.refl _ _ _).set_ 2 _⟩
  subst he
  rw [if_pos rfl]
  by_cases hl : lv + 1 > 64
  · have hd : decide (64 < lv + 1) = true := decide_eq_true hl
    rw [if_pos hl]
    clear hl
    go_enter Try.func69, Try.ntmps69
    go_wp2
    go_ret
    exact ⟨rfl, code_rd.set3 (code_rd.set2 HI.out _) _, ((KeepBut.refl _ _ _).set_ 2 _).set_ 3 _⟩
  · have hd : decide (64 < lv + 1) = false := decide_eq_false hl
    rw [if_neg hl]
    clear hl
    go_enter Try.func69, Try.ntmps69
    go_wp2
    go_ret
    exact ⟨rfl, code_rd.set2 HI.out _, (KeepBut.refl _ _ _).set_ 2 _⟩
/-- a number: what it is, the place behind it, what is wrong -/
def code_rd.number (k : Nat) (b : List Int) (p e : Int) : Option (Int × Int × Int) := if e = 0 then varint_Get.f k b p else some (0, p, e)
set_option maxHeartbeats 4000000 in
set_option maxRecDepth 100000 in
theorem code_rd.number_calls (k : Nat) (w0 w : World) (g : Nat) (A : Option Addr) (c : Nat) (b : List Int) (p lv e : Int) (r1 r2 r3 : Int) (hI : code_rd.Rd w0 w g A c b p lv e) (h : code_rd.number k b p e = some (r1, r2, r3)) :
    Calls Try.prog 72 #[.pointer (some ⟨g, 0, none⟩)] w fun x w' => x = .returned (.int .u64 r1) ∧ code_rd.Rd w0 w' g A c b r2 lv r3 ∧ KeepBut w w' g none := by
  have hu := Try.underlying75
  have x0 : w.cell? ⟨g, 0, none⟩ = some (.slice A b.length c) := (blk_cell hI.blk 0).trans rfl
  have x1 : w.cell? ⟨g, 1, none⟩ = some (.int .i64 p) := (blk_cell hI.blk 1).trans rfl
  have x3 : w.cell? ⟨g, 3, none⟩ = some (.int .i64 e) := (blk_cell hI.blk 3).trans rfl
  have f1 : w.frozen? ⟨g, 1, none⟩ = false := blk_frozen hI.blk 1
  have f3 : w.frozen? ⟨g, 3, none⟩ = false := blk_frozen hI.blk 3
  have HI := Aside0.mk hI
  clear hI
  unfold code_rd.number at h
  by_cases he : e = 0
  case neg =>
    rw [if_neg he] at h
    have e1 := Option.some.inj h
    simp only [Prod.mk.injEq] at e1
    obtain ⟨rfl, rfl, rfl⟩ := e1
    have heb : (e != 0) = true := by simpa using he
    clear h he
    go_enter Try.func72, Try.ntmps72
    go_wp2
    go_ret
    exact ⟨rfl, HI.out, KeepBut.refl _ _ _⟩
  rw [if_pos he] at h
  subst he
  have H := Aside0.mk h
  clear h
  go_enter Try.func72, Try.ntmps72
  go_wp2
  go_quiet ((go_at_call 87; exact Calls.quiet_of ((varint_Get.calls k A c b p r1 r2 r3 _ (Kd.C_drewN (code_rd.now HI.out) _) HI.out.cap H.out).mono fun _ _ h => ⟨h.1, h.2.out⟩)))
  go_wp2
  go_ret
  exact ⟨rfl, code_rd.set3 (code_rd.set1 (code_rd.drewN HI.out _) _) _, ((keep_drewN (KeepBut.refl _ _ _) _).set_ 1 _).set_ 3 _⟩
theorem code_rd.mkF (W : World) (ok : Nat → Prop) (x : S25) {A3 : Option Addr} {c3 : Nat} (l3 : x.f3.length ≤ c3) (g3 : Kd.F k25 W ok A3 x.f3.length x.f3) : Kd.FK k25 W ok x [.int .i64 x.f0, .int .i64 x.f1, .string x.f2, .slice A3 x.f3.length c3, .int .i64 x.f4, .int .i64 x.f5] := fun W2 hW => k25_mk W2 x l3 (g3 W2 hW)
theorem code_rd.below_row {w W : World} {B g : Nat} (h : Below B w W) (hg : B ≤ g) (cs : Array Value) : Below B w (W.setRow g cs) :=
  h.trans ⟨rfl, rfl, rfl, by simp, fun k hk => setRow_other _ _ _ _ (by omega)⟩
/-- a whole struct stored: the world behind it by what it is good for -/
theorem code_rd.put_row {P : Program} {ops : Array Oper} {rest : List Oper} {o : Oper} {a : Act} {w0 W : World} {Q : Exit → Act → World → Prop} (B : Nat) (hgd : o.guard = none) (ty : TypeId) (x y : Operand) (ho : o.op = .store ty x y)
    (g : Nat) (cells : Array Value) (hx : a.eval x = .pointer (some ⟨g, 0, none⟩)) (hy : a.eval y = .agg cells)
    (t : TypeId) (old : Array Value) (hg : W.heap[g]? = some (.cells old t (0, 0))) (hi : (P.info? ty).map (·.size) = some cells.size)
    (hold : old.size = cells.size) (h1 : cells.all (·.oneCell') = true) (HB : Below B w0 W) (hle : B ≤ g)
    (h : ∀ w2, w2.heap[g]? = some (.cells cells t (0, 0)) → (∀ k, k ≠ g → w2.heap[k]? = W.heap[k]?) → w2.heap.size = W.heap.size → Below B w0 w2 → wpList P ops Q rest (a.put o.dst undef) w2) : wpList P ops Q (o :: rest) a W :=
  wpList_store_row hgd ty x y ho g cells hx hy t old hg hi hold h1
    (h _ (setRow_heap _ _ _ _ _ _ hg) (fun k hk => setRow_other _ _ _ _ hk) (by simp) (code_rd.below_row HB hle _))
theorem code_rd.info : (Try.prog.info? 25).map (fun i => (i.zero, i.size, i.bytes)) = some (some (.agg #[(.int .i64 0), (.int .i64 0), (.string ⟨#[]⟩), (.slice none 0 0), (.int .i64 0), (.int .i64 0)]), 6, 72) := by kernel_rfl
/-- so many things, as long as nothing is wrong -/
def code_rd.loop (one : Int → Int → Option (S25 × Int × Int)) : Nat → Int → Int → Int → List S25 → Option (List S25 × Int × Int)
  | 0, _, _, _, _ => none
  | m + 1, n, p, e, out => if (out.length : Int) < n ∧ e = 0 then (one p e).bind fun q => if out.length < 1000000000 then code_rd.loop one m n q.2.1 q.2.2 (out ++ [q.1]) else none else some (out, p, e)
def code_rd.many (one : Int → Int → Option (S25 × Int × Int)) (k : Nat) (b : List Int) (p e : Int) : Option (List S25 × Int × Int) := (code_rd.number k b p e).bind fun n => code_rd.loop one k n.1 n.2.1 n.2.2 []
def code_rd.TPost (w0 : World) (g : Nat) (A : Option Addr) (c : Nat) (b : List Int) (p lv e : Int) (W : World) (x : S25) (y : Ending) (W' : World) : Prop := ∃ A' c', y = .returned (.agg #[.int .i64 x.f0, .int .i64 x.f1, .string x.f2, .slice A' x.f3.length c', .int .i64 x.f4, .int .i64 x.f5]) ∧ x.f3.length ≤ c' ∧ Kd.F k25 W' (fun q => W.heap.size ≤ q) A' x.f3.length x.f3 ∧ code_rd.Rd w0 W' g A c b p lv e ∧ KeepBut W W' g none
set_option maxHeartbeats 4000000 in
set_option maxRecDepth 100000 in
theorem code_rd.many_calls (one : Int → Int → Option (S25 × Int × Int)) (w0 : World) (g : Nat) (A : Option Addr) (c : Nat) (b : List Int) (lv : Int)
    (hF : ∀ p e x p' e' W, code_rd.Rd w0 W g A c b p lv e → one p e = some (x, p', e') → Calls Try.prog 37 #[.pointer (some ⟨g, 0, none⟩)] W (code_rd.TPost w0 g A c b p' lv e' W x))
    (k : Nat) (p e : Int) (l : List S25) (p' e' : Int) (w : World) (hI : code_rd.Rd w0 w g A c b p lv e) (h : code_rd.many one k b p e = some (l, p', e')) :
    Calls Try.prog 73 #[.pointer (some ⟨g, 0, none⟩), .func (.func 37) #[.pointer (some ⟨g, 0, none⟩)] #[]] w fun y w' => ∃ A' c', y = .returned (.slice A' l.length c') ∧ l.length ≤ c' ∧ Kd.F k25 w' (fun q => w.heap.size ≤ q) A' l.length l ∧ code_rd.Rd w0 w' g A c b p' lv e' ∧ KeepBut w w' g none := by
  have hu := Try.underlying75
  have hu2 := Try.underlying25
  obtain ⟨⟨n, p1, e1⟩, hn, h⟩ := Option.bind_eq_some_iff.mp h
  have HF := Aside0.mk hF
  have HI := Aside0.mk hI
  have HN := Aside0.mk hn
  have H := Aside0.mk h
  have HG := Aside0.mk (blk_lt hI.blk)
  clear hF hI hn h
  go_enter Try.func73, Try.ntmps73
  go_wp2_with (go_at_call 72; (with_reducible refine (code_rd.number_calls k w0 _ g A c b p lv e n p1 e1 HI.out HN.out).mono ?_); rintro x w1 ⟨rfl, hi1, hk1⟩; (have HI1 := Aside0.mk hi1); (have HK1 := Aside0.mk hk1); clear hi1 hk1)
  go_loopg [6, 7] k (fun m v6 v7 w' => ∃ (out : List S25) (p2 e2 : Int), v7 = .int .u64 (out.length : Int) ∧ Aside0 (code_rd.loop one m n p2 e2 out = some (l, p', e')) ∧ Aside0 (code_rd.Rd w0 w' g A c b p2 lv e2) ∧ Aside0 (Kd.N k25 25 w' w.heap.size (fun q => w.heap.size ≤ q) v6 out) ∧ Aside0 (KeepBut w w' g none))
  case atStart => exact ⟨[], p1, e1, rfl, H, HI1, ⟨Kd.N_nil _ _ _ _ _⟩, HK1⟩
  case round =>
    clear H HI1 HK1 HI
    obtain ⟨out, p2, e2, rfl, H, HI, HV, HK⟩ := hrel
    obtain ⟨A6, c6, rfl⟩ := Kd.N_slice HV.out
    cases gk with
    | zero => exact absurd H.out (by simp [code_rd.loop])
    | succ m =>
      have x3 : wr.cell? ⟨g, 3, none⟩ = some (.int .i64 e2) := (blk_cell HI.out.blk 3).trans rfl
      have h1 := H.out
      rw [code_rd.loop] at h1
      clear H
      by_cases hc : (out.length : Int) < n ∧ e2 = 0
      · rw [if_pos hc] at h1
        obtain ⟨⟨x, p3, e3⟩, hx, h9⟩ := Option.bind_eq_some_iff.mp h1
        by_cases ho : out.length < 1000000000
        case neg => rw [if_neg ho] at h9; exact absurd h9 (by simp)
        rw [if_pos ho] at h9
        have hd : decide ((out.length : Int) < n) = true := decide_eq_true hc.1
        obtain rfl := hc.2
        have hw : IntKind.u64.wrap ((out.length : Int) + 1) = (out.length : Int) + 1 := IntWalk.u64_in _ (by omega)
        have HX := Aside0.mk hx
        have H1 : Aside0 (code_rd.loop one m n p3 e3 (out ++ [x]) = some (l, p', e')) := ⟨h9⟩
        have HO := Aside0.mk ho
        clear h1 h9 hx ho hc
        go_wp2_with (first | ((with_reducible refine gate_builtin (b := .append) (xs := #[.tmp 22, .tmp 25]) rfl ?_); at_builtin; refine Kd.N_append k25 (w0 := w5) w.heap.size rfl (.tmp 22) (.tmp 25) 23 25 (.agg #[(.int .i64 0), (.int .i64 0), (.string ⟨#[]⟩), (.slice none 0 0), (.int .i64 0), (.int .i64 0)]) 72 rfl Try.underlying23 code_rd.info rfl (by decide) (by omega) _ out x [.int .i64 x.f0, .int .i64 x.f1, .string x.f2, .slice A5 x.f3.length c5, .int .i64 x.f4, .int .i64 x.f5] (fun z => w.heap.size ≤ z) (fun z => wr.heap.size ≤ z) rfl rfl (code_rd.mkF _ _ x HC5.out HF5.out) (fun z hz => ⟨by have h1 : wr.heap.size ≤ z := hz; have := HK.out.1; omega, fun e => by have := Kd.N_lt HV.out z e.symm; have h1 : wr.heap.size ≤ z := hz; omega⟩) (fun z hz => by have := HK.out.1; have := HK5.out.1; omega) (Kd.N_keep HV.out HK5.out (fun z hz => by have h1 : w.heap.size ≤ z := hz; have := HG.out; omega)) (Below.refl _ _) (by have := HK.out.1; have := HK5.out.1; omega) (by have := HO.out; omega) ?_; intro v9 w9 hn9 hb9 hg9 hat9; (have HN9 := Aside0.mk hn9); (have HB9 := Aside0.mk hb9); clear hn9 hb9 hg9 hat9) | (go_at_call 37; (with_reducible refine (HF.out p2 0 x p3 e3 _ HI.out HX.out).mono ?_); rintro y w5 ⟨A5, c5, rfl, hc5, hf5, hi5, hk5⟩; (have HC5 := Aside0.mk hc5); (have HF5 := Aside0.mk hf5); (have HI5 := Aside0.mk hi5); (have HK5 := Aside0.mk hk5); clear hc5 hf5 hi5 hk5))
        go_roundg m
        case measure => omega
        case rel => exact ⟨out ++ [x], p3, e3, by simp, H1, ⟨code_rd.moveB HI5.out HB9.out (by have := HI5.out.ge; have := HG.out; omega) HG.out⟩, HN9, ⟨code_rd.keep3 HK.out HK5.out HB9.out⟩⟩
      · rw [if_neg hc] at h1
        have e4 := Option.some.inj h1
        simp only [Prod.mk.injEq] at e4
        obtain ⟨rfl, rfl, rfl⟩ := e4
        have hcs : decide ((out.length : Int) < n) = false ∨ (decide ((out.length : Int) < n) = true ∧ (e2 == 0) = false) := by
          by_cases h2 : (out.length : Int) < n
          · exact .inr ⟨decide_eq_true h2, by simpa using fun h3 => hc ⟨h2, h3⟩⟩
          · exact .inl (decide_eq_false h2)
        clear h1 hc
        rcases hcs with hd | ⟨hd, he⟩
        all_goals go_wp2
        all_goals go_ret
        all_goals exact ⟨A6, c6, rfl, (Kd.N_reads' HV.out).2.1, Kd.N_F HV.out, HI.out, HK.out⟩
theorem code_rd.kb {w w' : World} {g i : Nat} {cs : Array Value} {t : Nat} (hk : KeepBut w w' g none) (h : w.heap[i]? = some (.cells cs t (0, 0))) (hne : i ≠ g) : w'.heap[i]? = some (.cells cs t (0, 0)) := (hk.2 i (blk_lt h) hne (by simp)).trans h
theorem code_rd.other {w0 w w' : World} {g : Nat} {A : Option Addr} {c : Nat} {b : List Int} {p lv e : Int} (h : code_rd.Rd w0 w g A c b p lv e) (hg : w'.heap[g]? = w.heap[g]?) (hb : Below w0.heap.size w w') : code_rd.Rd w0 w' g A c b p lv e :=
  ⟨hg.trans h.blk, h.ge, h.src, h.cap, h.bel.trans hb⟩
theorem code_rd.far {w0 w : World} {g : Nat} {A : Option Addr} {c : Nat} {b : List Int} {p lv e : Int} (h : code_rd.Rd w0 w g A c b p lv e) {i j : Nat} (hi : w0.heap.size ≤ i) (hne : g ≠ i) (v : Value) : code_rd.Rd w0 (w.setCell ⟨i, j, none⟩ v) g A c b p lv e :=
  ⟨blk_far h.blk hne _, h.ge, h.src, h.cap, below_set h.bel hi⟩
theorem code_rd.down_lv (lv e : Int) : (code_rd.down lv e).2.1 = lv + 1 := by
  unfold code_rd.down
  split
  · split <;> rfl
  · rfl
/-- the level is given back -/
theorem code_rd.back (g h : Nat) (lv : Int) (hlv : -1000000 ≤ lv ∧ lv ≤ 1000000) (u : FrameMode) (w : World) (h0 : w.cell? ⟨h, 0, none⟩ = some (.pointer (some ⟨g, 0, none⟩))) (h2 : w.cell? ⟨g, 2, none⟩ = some (.int .i64 (lv + 1))) (f2 : w.frozen? ⟨g, 2, none⟩ = false) :
    CallsD Try.prog 68 #[.pointer (some ⟨h, 0, none⟩)] u w fun e u' w' => u' = u ∧ (e = .returned (.tuple #[]) ∧ w' = w.setCell ⟨g, 2, none⟩ (.int .i64 lv)) := by
  have hu := Try.underlying75
  have hw : IntKind.i64.wrap (lv + 1 - 1) = lv := by rw [show lv + 1 - 1 = lv by omega]; exact IntWalk.i64_in _ (by omega)
  go_enter_d Try.func68, Try.ntmps68
  go_wp2
  go_end0
  (exact ⟨rfl, rfl⟩)
def code_rd.kind (K e : Int) : Int := if e = 0 ∧ (K < 1 ∨ K > 36) then 23 else e
def code_rd.term : Nat → List Int → Int → Int → Int → Option (S25 × Int × Int)
  | 0, _, _, _, _ => none
  | k + 1, b, lv, p, e => if (-1000000 ≤ lv ∧ lv ≤ 900000) ∧ b.length < 1000000000000 then (if (code_rd.down lv e).1 = true then (code_rd.one b p (code_rd.down lv e).2.2).bind fun q => (code_rd.number k b q.2.1 (code_rd.kind q.1 q.2.2)).bind fun n => (varint_Zag.f n.1).bind fun N => (code_rd.many (code_rd.term k b (lv + 1)) k b n.2.1 n.2.2).bind fun l => some (⟨q.1, N, ⟨#[]⟩, l.1, 0, 0⟩, l.2.1, l.2.2) else some (⟨0, 0, ⟨#[]⟩, [], 0, 0⟩, p, (code_rd.down lv e).2.2)) else none
set_option maxHeartbeats 8000000 in
set_option maxRecDepth 100000 in
theorem code_rd.term_calls (k : Nat) : ∀ (w0 : World) (g : Nat) (A : Option Addr) (c : Nat) (b : List Int) (lv p e : Int) (x : S25) (p' e' : Int) (w : World), code_rd.Rd w0 w g A c b p lv e → code_rd.term k b lv p e = some (x, p', e') →
    Calls Try.prog 37 #[.pointer (some ⟨g, 0, none⟩)] w (code_rd.TPost w0 g A c b p' lv e' w x) := by
  induction k with
  | zero => intro w0 g A c b lv p e x p' e' w _ h; exact absurd h (by simp [code_rd.term])
  | succ k ih =>
  intro w0 g A c b lv p e x p' e' w hI h
  have hu := Try.underlying25
  have hu2 := Try.underlying75
  have hmf : ∀ (fn : Fn) (first cap : Array Value) (w : World), (Instr.makeFunc fn first cap).run Try.prog w = .ok (.func fn first cap) w := fun _ _ _ _ => rfl
  rw [code_rd.term] at h
  by_cases hg0 : (-1000000 ≤ lv ∧ lv ≤ 900000) ∧ b.length < 1000000000000
  case neg => rw [if_neg hg0] at h; exact absurd h (by simp)
  rw [if_pos hg0] at h
  have hlv : -1000000 ≤ lv ∧ lv ≤ 1000000 := by omega
  have HIH := Aside0.mk ih
  have HI := Aside0.mk hI
  have H := Aside0.mk h
  have HG := Aside0.mk (blk_lt hI.blk)
  have HL := Aside0.mk hg0
  have HLV := Aside0.mk hlv
  clear ih hI h hg0 hlv
  obtain ⟨d1, hd1⟩ : ∃ d, d = (code_rd.down lv e).1 := ⟨_, rfl⟩
  obtain ⟨e1, he1⟩ : ∃ d, d = (code_rd.down lv e).2.2 := ⟨_, rfl⟩
  have h := H.out
  rw [← hd1, ← he1] at h
  have H1 := Aside0.mk h
  have HD := Aside0.mk (And.intro hd1 he1)
  clear H h hd1 he1
  go_enter_defers Try.func37, Try.ntmps37
  go_upto_if 7 with (go_at_call 69; (with_reducible refine (code_rd.down_calls w0 _ g A c b p lv e HLV.out (code_rd.move HI.out (by with_reducible repeat (first | exact Below.refl _ _ | apply below_alloc)))).mono ?_); rintro x w1 ⟨rfl, hi1, hk1⟩; rw [code_rd.down_lv, ← HD.out.2] at hi1; rw [← HD.out.1]; (have HI1 := Aside0.mk hi1); (have HK1 := Aside0.mk hk1); clear hi1 hk1)
  have hbr : KeepBut w w1 g none := ⟨by have := HK1.out.1; simp at this; omega, fun i hi hg hr => (HK1.out.2 i (by simp; omega) hg hr).trans ((below_alloc (below_alloc (Below.refl w.heap.size w) _) _).block i hi)⟩
  have k0 := code_rd.kb HK1.out (blk_alloc (blk_new w (.cells #[.pointer (some ⟨g, 0, none⟩)] 71)) (.cells #[.int .i64 0, .int .i64 0, .string (⟨#[]⟩ : ByteArray), .slice none 0 0, .int .i64 0, .int .i64 0] 25)) (by have := HG.out; omega)
  have k2 := code_rd.kb HK1.out (blk_new (w.alloc (.cells #[.pointer (some ⟨g, 0, none⟩)] 71)) (.cells #[.int .i64 0, .int .i64 0, .string (⟨#[]⟩ : ByteArray), .slice none 0 0, .int .i64 0, .int .i64 0] 25)) (by have := HG.out; simp; omega)
  rw [show (w.alloc (.cells #[.pointer (some ⟨g, 0, none⟩)] 71)).heap.size = w.heap.size + 1 by simp] at k2
  have hs1 : w.heap.size + 2 ≤ w1.heap.size := by have := HK1.out.1; simp at this; omega
  have K0 := Aside0.mk k0
  have K2 := Aside0.mk k2
  have HS1 := Aside0.mk hs1
  have HKB := Aside0.mk hbr
  have HGE := Aside0.mk HI.out.ge
  clear k0 k2 hs1 hbr HK1
  cases d1 with
  | false =>
    have h := H1.out
    rw [if_neg (by decide)] at h
    have e4 := Option.some.inj h
    simp only [Prod.mk.injEq] at e4
    obtain ⟨rfl, rfl, rfl⟩ := e4
    clear h H1
    go_wp2_with (refine code_rd.put_row (w0 := w1) w.heap.size rfl 25 (.tmp 2) (.tmp 8) rfl (w.heap.size + 1) #[.int .i64 0, .int .i64 0, .string (⟨#[]⟩ : ByteArray), .slice none 0 0, .int .i64 0, .int .i64 0] rfl rfl 25 _ K2.out (by kernel_rfl) rfl (by simp [Value.oneCell']) (Below.refl _ _) (by omega) ?_; intro W3 hg3 ho3 hz3 hb3; (have HG3 := Aside0.mk hg3); (have HO3 := Aside0.mk ho3); (have HB3 := Aside0.mk hb3); clear hg3 ho3 hz3 hb3)
    have hr3 : code_rd.Rd w0 W3 g A c b p (lv + 1) e1 := code_rd.other HI1.out (HO3.out g (by have := HG.out; omega)) (HB3.out.mono (by have := HGE.out; have := HG.out; have := HS1.out; omega))
    have z0 : W3.cell? ⟨w.heap.size, 0, none⟩ = some (.pointer (some ⟨g, 0, none⟩)) := (blk_cell ((HO3.out w.heap.size (by omega)).trans K0.out) 0).trans rfl
    have z2 : W3.cell? ⟨g, 2, none⟩ = some (.int .i64 (lv + 1)) := (blk_cell hr3.blk 2).trans rfl
    have y2 : W3.frozen? ⟨g, 2, none⟩ = false := blk_frozen hr3.blk 2
    refine leaves_cons (f := 68) (args := #[.pointer (some ⟨w.heap.size, 0, none⟩)]) (by simp [Act.put]) (by simp [go_sem]) ?_
    refine (code_rd.back g w.heap.size lv HLV.out _ _ z0 z2 y2).mono ?_
    rintro e u' w'' ⟨rfl, rfl, rfl⟩
    refine ⟨_, results_cell_row rfl _ _ (w.heap.size + 1) 25 _ (0, 0) _ rfl (blk_far (p := ⟨g, 2, none⟩) HG3.out (show w.heap.size + 1 ≠ g by have := HG.out; omega) _) Try.underlying25 rfl (by kernel_rfl), ?_⟩
    refine ⟨none, 0, rfl, Nat.le_refl _, Kd.F_nil _ _ _, code_rd.set2 hr3 lv, ?_⟩
    exact KeepBut.set_ ⟨by have := HB3.out.size; have := HS1.out; omega, fun i hi hg hr => (HO3.out i (by omega)).trans (HKB.out.2 i hi hg hr)⟩ 2 _
  | true =>
    have h := H1.out
    rw [if_pos rfl] at h
    obtain ⟨⟨K, p1, e2⟩, hq, h⟩ := Option.bind_eq_some_iff.mp h
    obtain ⟨⟨v, p2, e4⟩, hn, h⟩ := Option.bind_eq_some_iff.mp h
    obtain ⟨N, hN, h⟩ := Option.bind_eq_some_iff.mp h
    obtain ⟨⟨l, p3, e5⟩, hm, h⟩ := Option.bind_eq_some_iff.mp h
    have e6 := Option.some.inj h
    simp only [Prod.mk.injEq] at e6
    obtain ⟨rfl, rfl, rfl⟩ := e6
    have HQ := Aside0.mk hq
    have HN := Aside0.mk hn
    have HNN := Aside0.mk hN
    have HM := Aside0.mk hm
    clear h H1 hq hn hN hm
    have c0 : ∀ o, (w1.alloc o).cell? ⟨w.heap.size, 0, none⟩ = some (.pointer (some ⟨g, 0, none⟩)) := fun o => (blk_cell (blk_alloc K0.out o) 0).trans rfl
    go_upto_region 6 with (go_at_call 70; (with_reducible refine (code_rd.one_calls w0 _ g A c b p (lv + 1) e1 K p1 e2 HL.out.2 (code_rd.move HI1.out (below_alloc (Below.refl _ _) _)) HQ.out).mono ?_); rintro y w2 ⟨rfl, hi2, hk2⟩; (have k3 := code_rd.kb hk2 (blk_new w1 (.cells #[.int .i64 0, .int .i64 0, .string (⟨#[]⟩ : ByteArray), .slice none 0 0, .int .i64 0, .int .i64 0] 25)) (by have := HG.out; have := HS1.out; omega)); (have a3 : w2.cell? ⟨w1.heap.size, 0, none⟩ = some (.int .i64 0) := (blk_cell k3 0).trans rfl); (have b3 : w2.frozen? ⟨w1.heap.size, 0, none⟩ = false := blk_frozen k3 0); (have HI2 := Aside0.mk hi2); (have HK2 := Aside0.mk hk2); (have K3 := Aside0.mk k3); clear hi2 hk2 k3)
    obtain ⟨g3, hg3⟩ : ∃ g3, g3 = w1.heap.size := ⟨_, rfl⟩
    obtain ⟨W3, hW3⟩ : ∃ W3 : World, W3 = w2.setCell ⟨g3, 0, none⟩ (.int .i64 K) := ⟨_, rfl⟩
    have hgg : g < w.heap.size := HG.out
    have hs1 := HS1.out
    have hr3 : code_rd.Rd w0 W3 g A c b p1 (lv + 1) e2 := by rw [hW3]; exact code_rd.far HI2.out (by have := HGE.out; omega) (by omega) _
    have q0 : W3.heap[w.heap.size]? = some (.cells #[.pointer (some ⟨g, 0, none⟩)] 71 (0, 0)) := by rw [hW3]; exact blk_far (code_rd.kb HK2.out (blk_alloc K0.out _) (by omega)) (show w.heap.size ≠ g3 by omega) _
    have q2 : W3.heap[w.heap.size + 1]? = some (.cells #[.int .i64 0, .int .i64 0, .string (⟨#[]⟩ : ByteArray), .slice none 0 0, .int .i64 0, .int .i64 0] 25 (0, 0)) := by rw [hW3]; exact blk_far (code_rd.kb HK2.out (blk_alloc K2.out _) (by omega)) (show w.heap.size + 1 ≠ g3 by omega) _
    have q3 : W3.heap[g3]? = some (.cells #[.int .i64 K, .int .i64 0, .string (⟨#[]⟩ : ByteArray), .slice none 0 0, .int .i64 0, .int .i64 0] 25 (0, 0)) := by rw [hW3, hg3]; exact blk_put K3.out 0 _ rfl
    have qk : KeepBut w W3 g none := by
      rw [hW3]
      refine ⟨by have := HK2.out.1; simp at this ⊢; omega, fun i hi hg hr => ?_⟩
      rw [Below.heap_setCell _ _ _ _ (show i ≠ g3 by omega)]
      exact (HK2.out.2 i (by simp; omega) hg hr).trans (((below_alloc (Below.refl w1.heap.size w1) _).block i (by omega)).trans (HKB.out.2 i hi hg hr))
    try rw [← hg3]
    try rw [← hW3]
    have x0 : W3.cell? ⟨w.heap.size, 0, none⟩ = some (.pointer (some ⟨g, 0, none⟩)) := (blk_cell q0 0).trans rfl
    have x3 : W3.cell? ⟨g, 3, none⟩ = some (.int .i64 e2) := (blk_cell hr3.blk 3).trans rfl
    have xk : W3.cell? ⟨g3, 0, none⟩ = some (.int .i64 K) := (blk_cell q3 0).trans rfl
    have HR3 := Aside0.mk hr3
    have Q0 := Aside0.mk q0
    have Q2 := Aside0.mk q2
    have Q3 := Aside0.mk q3
    have QK := Aside0.mk qk
    have HG3 : Aside0 (w.heap.size + 2 ≤ g3) := ⟨by omega⟩
    clear hgg hs1 hr3 q0 q2 q3 qk hW3 hg3 HI1 HI2 HK2 K0 K2 K3 HKB HI HS1 c0
    obtain ⟨cb, hcb⟩ : ∃ cb, cb = decide (e2 = 0 ∧ (K < 1 ∨ K > 36)) := ⟨_, rfl⟩
    have HCB := Aside0.mk hcb
    clear hcb
    go_cut [26] from 12 to 26 (fun v26 wc => v26 = .bool cb ∧ wc = W3)
    case first =>
      by_cases c1 : e2 = 0
      · have b1 : (e2 == 0) = true := by simpa using c1
        by_cases c2 : K < 1
        · have b2 : decide (K < 1) = true := decide_eq_true c2
          have hv : decide (e2 = 0 ∧ (K < 1 ∨ K > 36)) = true := decide_eq_true ⟨c1, .inl c2⟩
          have HV := Aside0.mk hv
          clear hv c1 c2
          go_wp2
          go_meet
          case rel => exact ⟨congrArg Value.bool (HCB.out.trans HV.out).symm, rfl⟩
        · have b2 : decide (K < 1) = false := decide_eq_false c2
          by_cases c3 : K > 36
          · have b3 : decide (36 < K) = true := decide_eq_true c3
            have hv : decide (e2 = 0 ∧ (K < 1 ∨ K > 36)) = true := decide_eq_true ⟨c1, .inr c3⟩
            have HV := Aside0.mk hv
            clear hv c1 c2 c3
            go_wp2
            go_meet
            case rel => exact ⟨congrArg Value.bool (HCB.out.trans HV.out).symm, rfl⟩
          · have b3 : decide (36 < K) = false := decide_eq_false c3
            have hv : decide (e2 = 0 ∧ (K < 1 ∨ K > 36)) = false := decide_eq_false (fun h => h.2.elim c2 c3)
            have HV := Aside0.mk hv
            clear hv c1 c2 c3
            go_wp2
            go_meet
            case rel => exact ⟨congrArg Value.bool (HCB.out.trans HV.out).symm, rfl⟩
      · have b1 : (e2 == 0) = false := by simpa using c1
        have hv : decide (e2 = 0 ∧ (K < 1 ∨ K > 36)) = false := decide_eq_false (fun h => c1 h.1)
        have HV := Aside0.mk hv
        clear hv c1
        go_wp2
        go_meet
        case rel => exact ⟨congrArg Value.bool (HCB.out.trans HV.out).symm, rfl⟩
    case rest =>
    obtain ⟨rfl, rfl⟩ := hcut
    clear x3 xk
    have f3 : wc.frozen? ⟨g, 3, none⟩ = false := blk_frozen HR3.out.blk 3
    have x3 : wc.cell? ⟨g, 3, none⟩ = some (.int .i64 e2) := (blk_cell HR3.out.blk 3).trans rfl
    obtain ⟨W4, rfl⟩ : ∃ W4 : World, W4 = wc := ⟨_, rfl⟩
    go_upto_if 26 with (fail)
    go_cut [] from 27 to 29 (fun wd => Aside0 (code_rd.Rd w0 wd g A c b p1 (lv + 1) (code_rd.kind K e2)) ∧ Aside0 (wd.heap[w.heap.size]? = some (.cells #[.pointer (some ⟨g, 0, none⟩)] 71 (0, 0))) ∧ Aside0 (wd.heap[w.heap.size + 1]? = some (.cells #[.int .i64 0, .int .i64 0, .string (⟨#[]⟩ : ByteArray), .slice none 0 0, .int .i64 0, .int .i64 0] 25 (0, 0))) ∧ Aside0 (wd.heap[g3]? = some (.cells #[.int .i64 K, .int .i64 0, .string (⟨#[]⟩ : ByteArray), .slice none 0 0, .int .i64 0, .int .i64 0] 25 (0, 0))) ∧ Aside0 (KeepBut w wd g none))
    case first =>
      cases cb with
      | true =>
        have hk := of_decide_eq_true HCB.out.symm
        have hkd : code_rd.kind K e2 = 23 := if_pos hk
        have HK := Aside0.mk hkd
        clear hk hkd
        go_wp2
        go_meet
        case rel => exact ⟨⟨by rw [HK.out]; exact code_rd.set3 HR3.out _⟩, ⟨blk_far (p := ⟨g, 3, none⟩) Q0.out (show w.heap.size ≠ g by have := HG.out; omega) _⟩, ⟨blk_far (p := ⟨g, 3, none⟩) Q2.out (show w.heap.size + 1 ≠ g by have := HG.out; omega) _⟩, ⟨blk_far (p := ⟨g, 3, none⟩) Q3.out (show g3 ≠ g by have := HG.out; have := HG3.out; omega) _⟩, ⟨QK.out.set_ 3 _⟩⟩
      | false =>
        have hk := of_decide_eq_false HCB.out.symm
        have hkd : code_rd.kind K e2 = e2 := if_neg hk
        have HK := Aside0.mk hkd
        clear hk hkd
        go_wp2
        go_meet
        case rel => exact ⟨⟨by rw [HK.out]; exact HR3.out⟩, Q0, Q2, Q3, QK⟩
    case rest =>
    obtain ⟨HR4, K0, K2, K3, HK4⟩ := hcut
    clear x0 x3 f3 HR3 Q0 Q2 Q3 QK
    obtain ⟨W5, rfl⟩ : ∃ W5 : World, W5 = wc := ⟨_, rfl⟩
    have c0 : W5.cell? ⟨w.heap.size, 0, none⟩ = some (.pointer (some ⟨g, 0, none⟩)) := (blk_cell K0.out 0).trans rfl
    have hgne : w.heap.size ≠ g ∧ w.heap.size + 1 ≠ g ∧ g3 ≠ g ∧ g ≠ g3 ∧ w.heap.size ≠ g3 ∧ w.heap.size + 1 ≠ g3 ∧ w0.heap.size ≤ g3 := by have := HG.out; have := HG3.out; have := HGE.out; omega
    have HNE := Aside0.mk hgne
    clear hgne
    go_wp2_with (first | (refine wpList_load_row rfl 25 (.tmp 3) rfl g3 rfl 25 _ (0, 0) _ Y3.out Try.underlying25 rfl (by kernel_rfl) ?_) | (refine code_rd.put_row (w0 := w8) w.heap.size rfl 25 (.tmp 2) (.tmp 39) rfl (w.heap.size + 1) #[.int .i64 K, .int .i64 N, .string (⟨#[]⟩ : ByteArray), .slice A8 l.length c8, .int .i64 0, .int .i64 0] rfl rfl 25 _ Y2.out (by kernel_rfl) rfl (by simp [Value.oneCell']) YB.out (by omega) ?_; intro W9 hg9 ho9 hz9 hb9; (have HG9 := Aside0.mk hg9); (have HO9 := Aside0.mk ho9); (have HZ9 := Aside0.mk hz9); (have HB9 := Aside0.mk hb9); clear hg9 ho9 hz9 hb9) | (go_at_call 73; (with_reducible refine (code_rd.many_calls (code_rd.term k b (lv + 1)) w0 g A c b (lv + 1) (fun p e x p' e' W hR h => HIH.out w0 g A c b (lv + 1) p e x p' e' W hR h) k p2 e4 l p3 e5 _ (code_rd.far (code_rd.drewN HI6.out _) HNE.out.2.2.2.2.2.2 HNE.out.2.2.2.1 _) HM.out).mono ?_); rintro y w8 ⟨A8, c8, rfl, hl8, hf8, hi8, hk8⟩; (have k08 := code_rd.kb hk8 (blk_far (p := ⟨g3, 1, none⟩) (blk_drewN K06.out _) HNE.out.2.2.2.2.1 _) HNE.out.1); (have k28 := code_rd.kb hk8 (blk_far (p := ⟨g3, 1, none⟩) (blk_drewN K26.out _) HNE.out.2.2.2.2.2.1 _) HNE.out.2.1); (have k38 := code_rd.kb hk8 (blk_put (cs := #[.int .i64 K, .int .i64 0, .string (⟨#[]⟩ : ByteArray), .slice none 0 0, .int .i64 0, .int .i64 0]) (blk_drewN K36.out _) 1 (.int .i64 N) rfl) HNE.out.2.2.1); (have r3 : w8.cell? ⟨g3, 3, none⟩ = some (.slice none 0 0) := (blk_cell k38 3).trans rfl); (have s3 : w8.frozen? ⟨g3, 3, none⟩ = false := blk_frozen k38 3); (have Y3 := Aside0.mk (blk_put k38 3 (.slice A8 l.length c8) rfl)); (have Y2 := Aside0.mk (blk_far (p := ⟨g3, 3, none⟩) k28 HNE.out.2.2.2.2.2.1 (.slice A8 l.length c8))); (have Y0 := Aside0.mk (blk_far (p := ⟨g3, 3, none⟩) k08 HNE.out.2.2.2.2.1 (.slice A8 l.length c8))); (have YB : Aside0 (Below w.heap.size w8 (w8.setCell ⟨g3, 3, none⟩ (.slice A8 l.length c8))) := ⟨(Below.refl w.heap.size w8).setCell (p := ⟨g3, 3, none⟩) (show w.heap.size ≤ g3 by have := HG3.out; omega) _⟩); (have L8 := Aside0.mk hl8); (have F8 := Aside0.mk hf8); (have HI8 := Aside0.mk hi8); (have HK8 := Aside0.mk hk8); clear hl8 hf8 hi8 hk8 k08 k28 k38) | (go_at_call 71; (with_reducible refine (varint_Zag.calls v N _ HNN.out).mono ?_); rintro y w7 ⟨rfl, m7, rfl⟩) | (go_at_call 72; (with_reducible refine (code_rd.number_calls k w0 _ g A c b p1 (lv + 1) (code_rd.kind K e2) v p2 e4 HR4.out HN.out).mono ?_); rintro y w6 ⟨rfl, hi6, hk6⟩; (have k06 := code_rd.kb hk6 K0.out HNE.out.1); (have k26 := code_rd.kb hk6 K2.out HNE.out.2.1); (have k36 := code_rd.kb hk6 K3.out HNE.out.2.2.1); (have r1 : ∀ m, (w6.drewN m).cell? ⟨g3, 1, none⟩ = some (.int .i64 0) := fun m => (blk_cell k36 1).trans rfl); (have s1 : ∀ m, (w6.drewN m).frozen? ⟨g3, 1, none⟩ = false := fun m => blk_frozen k36 1); (have r0 : ∀ m v, ((w6.drewN m).setCell ⟨g3, 1, none⟩ v).cell? ⟨w.heap.size, 0, none⟩ = some (.pointer (some ⟨g, 0, none⟩)) := fun m v => (blk_cell (blk_far (p := ⟨g3, 1, none⟩) (blk_drewN k06 m) HNE.out.2.2.2.2.1 v) 0).trans rfl); (have K06 := Aside0.mk k06); (have K26 := Aside0.mk k26); (have K36 := Aside0.mk k36); (have HI6 := Aside0.mk hi6); (have HK6 := Aside0.mk hk6); clear hi6 hk6 k06 k26 k36))
    have hgs : g < w.heap.size := HG.out
    have hg3 := HG3.out
    have h6s : g3 < w6.heap.size := blk_lt K36.out
    have h7s : ((w6.drewN m7).setCell ⟨g3, 1, none⟩ (.int .i64 N)).heap.size = w6.heap.size := by simp
    have h89 : ∀ q, q ≠ w.heap.size + 1 → q ≠ g3 → W9.heap[q]? = w8.heap[q]? := fun q h1 h2 => (HO9.out q h1).trans (Below.heap_setCell w8 ⟨g3, 3, none⟩ _ q h2)
    have hr9 : code_rd.Rd w0 W9 g A c b p3 (lv + 1) e5 := code_rd.other HI8.out (h89 g (by omega) (by omega)) (HB9.out.mono (by have := HGE.out; omega))
    have z0 : W9.cell? ⟨w.heap.size, 0, none⟩ = some (.pointer (some ⟨g, 0, none⟩)) := (blk_cell ((HO9.out w.heap.size (by omega)).trans Y0.out) 0).trans rfl
    have z2 : W9.cell? ⟨g, 2, none⟩ = some (.int .i64 (lv + 1)) := (blk_cell hr9.blk 2).trans rfl
    have y2 : W9.frozen? ⟨g, 2, none⟩ = false := blk_frozen hr9.blk 2
    refine leaves_cons (f := 68) (args := #[.pointer (some ⟨w.heap.size, 0, none⟩)]) (by simp [Act.put]) (by simp [go_sem]) ?_
    refine (code_rd.back g w.heap.size lv HLV.out _ _ z0 z2 y2).mono ?_
    rintro e u' w'' ⟨rfl, rfl, rfl⟩
    refine ⟨_, results_cell_row rfl _ _ (w.heap.size + 1) 25 _ (0, 0) _ rfl (blk_far (p := ⟨g, 2, none⟩) HG9.out (show w.heap.size + 1 ≠ g by omega) _) Try.underlying25 rfl (by kernel_rfl), ?_⟩
    have hf : ∀ q, q ≠ w.heap.size + 1 → q ≠ g3 → q ≠ g → (W9.setCell ⟨g, 2, none⟩ (.int .i64 lv)).heap[q]? = w8.heap[q]? := fun q h1 h2 h3 => (Below.heap_setCell W9 ⟨g, 2, none⟩ _ q h3).trans (h89 q h1 h2)
    refine ⟨A8, c8, rfl, L8.out, Kd.F_mono (Kd.F_step F8.out (fun q hq hlt => hf q (by omega) (by omega) (by omega))) (fun q hq => ?_), code_rd.set2 hr9 lv, ?_⟩
    · have h1 : ((w6.drewN m7).setCell ⟨g3, 1, none⟩ (.int .i64 N)).heap.size ≤ q := hq
      omega
    · have h8 := HK8.out.1
      have h9 := HB9.out.size
      refine ⟨by simp; omega, fun i hi hg hr => ?_⟩
      rw [hf i (by omega) (by omega) hg, HK8.out.2 i (by omega) hg hr, Below.heap_setCell _ _ _ _ (show i ≠ g3 by omega)]
      exact (HK6.out.2 i (by have := HK4.out.1; omega) hg hr).trans (HK4.out.2 i hi hg hr)

/-! ### code_rr: function 81 (given) -/
def code_rr.index (k : Nat) (b : List Int) (p e : Int) : Option (Int × Int × Int) := (code_rd.number k b p e).bind fun n => some (if n.2.2 = 0 ∧ n.1 > 2147483647 then (0, n.2.1, 13) else (wrap64 n.1, n.2.1, n.2.2))
set_option maxHeartbeats 4000000 in
set_option maxRecDepth 100000 in
theorem code_rr.index_calls (k : Nat) (w0 w : World) (g : Nat) (A : Option Addr) (c : Nat) (b : List Int) (p lv e : Int) (r1 r2 r3 : Int) (hI : code_rd.Rd w0 w g A c b p lv e) (h : code_rr.index k b p e = some (r1, r2, r3)) :
    Calls Try.prog 81 #[.pointer (some ⟨g, 0, none⟩)] w fun x w' => x = .returned (.int .i64 r1) ∧ code_rd.Rd w0 w' g A c b r2 lv r3 ∧ KeepBut w w' g none := by
  have hu := Try.underlying75
  obtain ⟨⟨v, p1, e1⟩, hn, h⟩ := Option.bind_eq_some_iff.mp h
  have h9 := Option.some.inj h
  dsimp only at h9
  have HI := Aside0.mk hI
  have HN := Aside0.mk hn
  clear hI hn h
  by_cases c1 : e1 = 0
  · subst c1
    by_cases c2 : v > 2147483647
    · rw [if_pos ⟨rfl, c2⟩] at h9
      simp only [Prod.mk.injEq] at h9
      obtain ⟨rfl, rfl, rfl⟩ := h9
      have d2 : decide (2147483647 < v) = true := decide_eq_true c2
      clear c2
      go_enter Try.func81, Try.ntmps81
      go_wp2_with (go_at_call 72; (with_reducible refine (code_rd.number_calls k w0 _ g A c b p lv e v p1 0 HI.out HN.out).mono ?_); rintro x w1 ⟨rfl, hi1, hk1⟩; (have x3 : w1.cell? ⟨g, 3, none⟩ = some (.int .i64 0) := (blk_cell hi1.blk 3).trans rfl); (have f3 : w1.frozen? ⟨g, 3, none⟩ = false := blk_frozen hi1.blk 3); (have HI1 := Aside0.mk hi1); (have HK1 := Aside0.mk hk1); clear hi1 hk1)
      go_ret
      exact ⟨rfl, code_rd.set3 HI1.out _, HK1.out.set_ 3 _⟩
    · rw [if_neg (fun h => c2 h.2)] at h9
      simp only [Prod.mk.injEq] at h9
      obtain ⟨rfl, rfl, rfl⟩ := h9
      have d2 : decide (2147483647 < v) = false := decide_eq_false c2
      clear c2
      go_enter Try.func81, Try.ntmps81
      go_wp2_with (go_at_call 72; (with_reducible refine (code_rd.number_calls k w0 _ g A c b p lv e v p1 0 HI.out HN.out).mono ?_); rintro x w1 ⟨rfl, hi1, hk1⟩; (have x3 : w1.cell? ⟨g, 3, none⟩ = some (.int .i64 0) := (blk_cell hi1.blk 3).trans rfl); (have HI1 := Aside0.mk hi1); (have HK1 := Aside0.mk hk1); clear hi1 hk1)
      go_ret
      exact ⟨rfl, HI1.out, HK1.out⟩
  · rw [if_neg (fun h => c1 h.1)] at h9
    simp only [Prod.mk.injEq] at h9
    obtain ⟨rfl, rfl, rfl⟩ := h9
    have d1 : (e1 == 0) = false := by simpa using c1
    clear c1
    go_enter Try.func81, Try.ntmps81
    go_wp2_with (go_at_call 72; (with_reducible refine (code_rd.number_calls k w0 _ g A c b p lv e v p1 e1 HI.out HN.out).mono ?_); rintro x w1 ⟨rfl, hi1, hk1⟩; (have x3 : w1.cell? ⟨g, 3, none⟩ = some (.int .i64 e1) := (blk_cell hi1.blk 3).trans rfl); (have HI1 := Aside0.mk hi1); (have HK1 := Aside0.mk hk1); clear hi1 hk1)
    go_ret
    exact ⟨rfl, HI1.out, HK1.out⟩
theorem code_rr.infoI : (Try.prog.info? 3).map (fun i => (i.zero, i.size, i.bytes)) = some (some (.int .i64 0), 1, 8) := by kernel_rfl
theorem code_rr.infoD : (Try.prog.info? 42).map (fun i => (i.zero, i.size, i.bytes)) = some (some (.agg #[.int .i64 0, .slice none 0 0, .int .i64 0, .bool false, .slice none 0 0, .slice none 0 0, .int .i64 0, .int .i64 0, .string ⟨#[]⟩, .slice none 0 0, .int .i64 0, .int .i64 0, .slice none 0 0]), 13, 192) := by kernel_rfl
def code_rr.IPost (w0 : World) (g : Nat) (A : Option Addr) (c : Nat) (b : List Int) (p lv e : Int) (W : World) (x : Int) (y : Ending) (W' : World) : Prop := y = .returned (.int .i64 x) ∧ code_rd.Rd w0 W' g A c b p lv e ∧ KeepBut W W' g none
def code_rr.DPost (w0 : World) (g : Nat) (A : Option Addr) (c : Nat) (b : List Int) (p lv e : Int) (W : World) (x : S42) (y : Ending) (W' : World) : Prop := ∃ A1 c1 A4 c4 A5 c5 A9 c9 A12 c12, y = .returned (.agg #[.int .i64 x.f0, .slice A1 x.f1.length c1, .int .i64 x.f2.f0, .bool x.f2.f1, .slice A4 x.f2.f2.length c4, .slice A5 x.f2.f3.length c5, .int .i64 x.f2.f4.f0, .int .i64 x.f2.f4.f1, .string x.f2.f4.f2, .slice A9 x.f2.f4.f3.length c9, .int .i64 x.f2.f4.f4, .int .i64 x.f2.f4.f5, .slice A12 x.f3.length c12]) ∧ Kd.FK k42 W' (fun q => W.heap.size ≤ q) x [.int .i64 x.f0, .slice A1 x.f1.length c1, .int .i64 x.f2.f0, .bool x.f2.f1, .slice A4 x.f2.f2.length c4, .slice A5 x.f2.f3.length c5, .int .i64 x.f2.f4.f0, .int .i64 x.f2.f4.f1, .string x.f2.f4.f2, .slice A9 x.f2.f4.f3.length c9, .int .i64 x.f2.f4.f4, .int .i64 x.f2.f4.f5, .slice A12 x.f3.length c12] ∧ code_rd.Rd w0 W' g A c b p lv e ∧ KeepBut W W' g none
/-- so many things, as long as nothing is wrong -/
def code_rr.loopI (one : Int → Int → Option (Int × Int × Int)) : Nat → Int → Int → Int → List Int → Option (List Int × Int × Int)
  | 0, _, _, _, _ => none
  | m + 1, n, p, e, out => if (out.length : Int) < n ∧ e = 0 then (one p e).bind fun q => if out.length < 1000000000 then code_rr.loopI one m n q.2.1 q.2.2 (out ++ [q.1]) else none else some (out, p, e)
def code_rr.manyI (one : Int → Int → Option (Int × Int × Int)) (k : Nat) (b : List Int) (p e : Int) : Option (List Int × Int × Int) := (code_rd.number k b p e).bind fun n => code_rr.loopI one k n.1 n.2.1 n.2.2 []
set_option maxHeartbeats 4000000 in
set_option maxRecDepth 100000 in
theorem code_rr.many_callsI (one : Int → Int → Option (Int × Int × Int)) (w0 : World) (g : Nat) (A : Option Addr) (c : Nat) (b : List Int) (lv : Int)
    (hF : ∀ p e x p' e' W, code_rd.Rd w0 W g A c b p lv e → one p e = some (x, p', e') → Calls Try.prog 81 #[.pointer (some ⟨g, 0, none⟩)] W (code_rr.IPost w0 g A c b p' lv e' W x))
    (k : Nat) (p e : Int) (l : List Int) (p' e' : Int) (w : World) (hI : code_rd.Rd w0 w g A c b p lv e) (h : code_rr.manyI one k b p e = some (l, p', e')) :
    Calls Try.prog 80 #[.pointer (some ⟨g, 0, none⟩), .func (.func 81) #[.pointer (some ⟨g, 0, none⟩)] #[]] w fun y w' => ∃ A' c', y = .returned (.slice A' l.length c') ∧ l.length ≤ c' ∧ Kd.F (Kd.int .i64) w' (fun q => w.heap.size ≤ q) A' l.length l ∧ code_rd.Rd w0 w' g A c b p' lv e' ∧ KeepBut w w' g none := by
  have hu := Try.underlying75
  obtain ⟨⟨n, p1, e1⟩, hn, h⟩ := Option.bind_eq_some_iff.mp h
  have HF := Aside0.mk hF
  have HI := Aside0.mk hI
  have HN := Aside0.mk hn
  have H := Aside0.mk h
  have HG := Aside0.mk (blk_lt hI.blk)
  clear hF hI hn h
  go_enter Try.func80, Try.ntmps80
  go_wp2_with (go_at_call 72; (with_reducible refine (code_rd.number_calls k w0 _ g A c b p lv e n p1 e1 HI.out HN.out).mono ?_); rintro x w1 ⟨rfl, hi1, hk1⟩; (have HI1 := Aside0.mk hi1); (have HK1 := Aside0.mk hk1); clear hi1 hk1)
  go_loopg [6, 7] k (fun m v6 v7 w' => ∃ (out : List Int) (p2 e2 : Int), v7 = .int .u64 (out.length : Int) ∧ Aside0 (code_rr.loopI one m n p2 e2 out = some (l, p', e')) ∧ Aside0 (code_rd.Rd w0 w' g A c b p2 lv e2) ∧ Aside0 (Kd.N (Kd.int .i64) 3 w' w.heap.size (fun q => w.heap.size ≤ q) v6 out) ∧ Aside0 (KeepBut w w' g none))
  case atStart => exact ⟨[], p1, e1, rfl, H, HI1, ⟨Kd.N_nil _ _ _ _ _⟩, HK1⟩
  case round =>
    clear H HI1 HK1 HI
    obtain ⟨out, p2, e2, rfl, H, HI, HV, HK⟩ := hrel
    obtain ⟨A6, c6, rfl⟩ := Kd.N_slice HV.out
    cases gk with
    | zero => exact absurd H.out (by simp [code_rr.loopI])
    | succ m =>
      have x3 : wr.cell? ⟨g, 3, none⟩ = some (.int .i64 e2) := (blk_cell HI.out.blk 3).trans rfl
      have h1 := H.out
      rw [code_rr.loopI] at h1
      clear H
      by_cases hc : (out.length : Int) < n ∧ e2 = 0
      · rw [if_pos hc] at h1
        obtain ⟨⟨x, p3, e3⟩, hx, h9⟩ := Option.bind_eq_some_iff.mp h1
        by_cases ho : out.length < 1000000000
        case neg => rw [if_neg ho] at h9; exact absurd h9 (by simp)
        rw [if_pos ho] at h9
        have hd : decide ((out.length : Int) < n) = true := decide_eq_true hc.1
        obtain rfl := hc.2
        have hw : IntKind.u64.wrap ((out.length : Int) + 1) = (out.length : Int) + 1 := IntWalk.u64_in _ (by omega)
        have HX := Aside0.mk hx
        have H1 : Aside0 (code_rr.loopI one m n p3 e3 (out ++ [x]) = some (l, p', e')) := ⟨h9⟩
        have HO := Aside0.mk ho
        clear h1 h9 hx ho hc
        go_wp2_with (first | ((with_reducible refine gate_builtin (b := .append) (xs := #[.tmp 22, .tmp 25]) rfl ?_); at_builtin; refine Kd.N_append (Kd.int .i64) (w0 := w5) w.heap.size rfl (.tmp 22) (.tmp 25) 37 3 (.int .i64 0) 8 rfl Try.underlying37 code_rr.infoI rfl (by decide) (by omega) _ out x [.int .i64 x] (fun z => w.heap.size ≤ z) (fun z => wr.heap.size ≤ z) rfl rfl (fun _ _ => rfl) (fun z hz => ⟨by have h1 : wr.heap.size ≤ z := hz; have := HK.out.1; omega, fun e => by have := Kd.N_lt HV.out z e.symm; have h1 : wr.heap.size ≤ z := hz; omega⟩) (fun z hz => by have := HK.out.1; have := HK5.out.1; omega) (Kd.N_keep HV.out HK5.out (fun z hz => by have h1 : w.heap.size ≤ z := hz; have := HG.out; omega)) (Below.refl _ _) (by have := HK.out.1; have := HK5.out.1; omega) (by have := HO.out; omega) ?_; intro v9 w9 hn9 hb9 hg9 hat9; (have HN9 := Aside0.mk hn9); (have HB9 := Aside0.mk hb9); clear hn9 hb9 hg9 hat9) | (go_at_call 81; (with_reducible refine (HF.out p2 0 x p3 e3 _ HI.out HX.out).mono ?_); rintro y w5 ⟨rfl, hi5, hk5⟩; (have HI5 := Aside0.mk hi5); (have HK5 := Aside0.mk hk5); clear hi5 hk5))
        go_roundg m
        case measure => omega
        case rel => exact ⟨out ++ [x], p3, e3, by simp, H1, ⟨code_rd.moveB HI5.out HB9.out (by have := HI5.out.ge; have := HG.out; omega) HG.out⟩, HN9, ⟨code_rd.keep3 HK.out HK5.out HB9.out⟩⟩
      · rw [if_neg hc] at h1
        have e4 := Option.some.inj h1
        simp only [Prod.mk.injEq] at e4
        obtain ⟨rfl, rfl, rfl⟩ := e4
        have hcs : decide ((out.length : Int) < n) = false ∨ (decide ((out.length : Int) < n) = true ∧ (e2 == 0) = false) := by
          by_cases h2 : (out.length : Int) < n
          · exact .inr ⟨decide_eq_true h2, by simpa using fun h3 => hc ⟨h2, h3⟩⟩
          · exact .inl (decide_eq_false h2)
        clear h1 hc
        rcases hcs with hd | ⟨hd, he⟩
        all_goals go_wp2
        all_goals go_ret
        all_goals exact ⟨A6, c6, rfl, (Kd.N_reads' HV.out).2.1, Kd.N_F HV.out, HI.out, HK.out⟩
/-- so many things, as long as nothing is wrong -/
def code_rr.loopD (one : Int → Int → Option (S42 × Int × Int)) : Nat → Int → Int → Int → List S42 → Option (List S42 × Int × Int)
  | 0, _, _, _, _ => none
  | m + 1, n, p, e, out => if (out.length : Int) < n ∧ e = 0 then (one p e).bind fun q => if out.length < 1000000000 then code_rr.loopD one m n q.2.1 q.2.2 (out ++ [q.1]) else none else some (out, p, e)
def code_rr.manyD (one : Int → Int → Option (S42 × Int × Int)) (k : Nat) (b : List Int) (p e : Int) : Option (List S42 × Int × Int) := (code_rd.number k b p e).bind fun n => code_rr.loopD one k n.1 n.2.1 n.2.2 []
set_option maxHeartbeats 4000000 in
set_option maxRecDepth 100000 in
theorem code_rr.many_callsD (one : Int → Int → Option (S42 × Int × Int)) (w0 : World) (g : Nat) (A : Option Addr) (c : Nat) (b : List Int) (lv : Int)
    (hF : ∀ p e x p' e' W, code_rd.Rd w0 W g A c b p lv e → one p e = some (x, p', e') → Calls Try.prog 43 #[.pointer (some ⟨g, 0, none⟩)] W (code_rr.DPost w0 g A c b p' lv e' W x))
    (k : Nat) (p e : Int) (l : List S42) (p' e' : Int) (w : World) (hI : code_rd.Rd w0 w g A c b p lv e) (h : code_rr.manyD one k b p e = some (l, p', e')) :
    Calls Try.prog 82 #[.pointer (some ⟨g, 0, none⟩), .func (.func 43) #[.pointer (some ⟨g, 0, none⟩)] #[]] w fun y w' => ∃ A' c', y = .returned (.slice A' l.length c') ∧ l.length ≤ c' ∧ Kd.F k42 w' (fun q => w.heap.size ≤ q) A' l.length l ∧ code_rd.Rd w0 w' g A c b p' lv e' ∧ KeepBut w w' g none := by
  have hu := Try.underlying75
  obtain ⟨⟨n, p1, e1⟩, hn, h⟩ := Option.bind_eq_some_iff.mp h
  have HF := Aside0.mk hF
  have HI := Aside0.mk hI
  have HN := Aside0.mk hn
  have H := Aside0.mk h
  have HG := Aside0.mk (blk_lt hI.blk)
  clear hF hI hn h
  go_enter Try.func82, Try.ntmps82
  go_wp2_with (go_at_call 72; (with_reducible refine (code_rd.number_calls k w0 _ g A c b p lv e n p1 e1 HI.out HN.out).mono ?_); rintro x w1 ⟨rfl, hi1, hk1⟩; (have HI1 := Aside0.mk hi1); (have HK1 := Aside0.mk hk1); clear hi1 hk1)
  go_loopg [6, 7] k (fun m v6 v7 w' => ∃ (out : List S42) (p2 e2 : Int), v7 = .int .u64 (out.length : Int) ∧ Aside0 (code_rr.loopD one m n p2 e2 out = some (l, p', e')) ∧ Aside0 (code_rd.Rd w0 w' g A c b p2 lv e2) ∧ Aside0 (Kd.N k42 42 w' w.heap.size (fun q => w.heap.size ≤ q) v6 out) ∧ Aside0 (KeepBut w w' g none))
  case atStart => exact ⟨[], p1, e1, rfl, H, HI1, ⟨Kd.N_nil _ _ _ _ _⟩, HK1⟩
  case round =>
    clear H HI1 HK1 HI
    obtain ⟨out, p2, e2, rfl, H, HI, HV, HK⟩ := hrel
    obtain ⟨A6, c6, rfl⟩ := Kd.N_slice HV.out
    cases gk with
    | zero => exact absurd H.out (by simp [code_rr.loopD])
    | succ m =>
      have x3 : wr.cell? ⟨g, 3, none⟩ = some (.int .i64 e2) := (blk_cell HI.out.blk 3).trans rfl
      have h1 := H.out
      rw [code_rr.loopD] at h1
      clear H
      by_cases hc : (out.length : Int) < n ∧ e2 = 0
      · rw [if_pos hc] at h1
        obtain ⟨⟨x, p3, e3⟩, hx, h9⟩ := Option.bind_eq_some_iff.mp h1
        by_cases ho : out.length < 1000000000
        case neg => rw [if_neg ho] at h9; exact absurd h9 (by simp)
        rw [if_pos ho] at h9
        have hd : decide ((out.length : Int) < n) = true := decide_eq_true hc.1
        obtain rfl := hc.2
        have hw : IntKind.u64.wrap ((out.length : Int) + 1) = (out.length : Int) + 1 := IntWalk.u64_in _ (by omega)
        have HX := Aside0.mk hx
        have H1 : Aside0 (code_rr.loopD one m n p3 e3 (out ++ [x]) = some (l, p', e')) := ⟨h9⟩
        have HO := Aside0.mk ho
        clear h1 h9 hx ho hc
        go_wp2_with (first | ((with_reducible refine gate_builtin (b := .append) (xs := #[.tmp 22, .tmp 25]) rfl ?_); at_builtin; refine Kd.N_append k42 (w0 := w5) w.heap.size rfl (.tmp 22) (.tmp 25) 40 42 (.agg #[.int .i64 0, .slice none 0 0, .int .i64 0, .bool false, .slice none 0 0, .slice none 0 0, .int .i64 0, .int .i64 0, .string ⟨#[]⟩, .slice none 0 0, .int .i64 0, .int .i64 0, .slice none 0 0]) 192 rfl Try.underlying40 code_rr.infoD rfl (by decide) (by omega) _ out x [.int .i64 x.f0, .slice A1 x.f1.length c1, .int .i64 x.f2.f0, .bool x.f2.f1, .slice A4 x.f2.f2.length c4, .slice A5 x.f2.f3.length c5, .int .i64 x.f2.f4.f0, .int .i64 x.f2.f4.f1, .string x.f2.f4.f2, .slice A9 x.f2.f4.f3.length c9, .int .i64 x.f2.f4.f4, .int .i64 x.f2.f4.f5, .slice A12 x.f3.length c12] (fun z => w.heap.size ≤ z) (fun z => wr.heap.size ≤ z) rfl rfl HF5.out (fun z hz => ⟨by have h1 : wr.heap.size ≤ z := hz; have := HK.out.1; omega, fun e => by have := Kd.N_lt HV.out z e.symm; have h1 : wr.heap.size ≤ z := hz; omega⟩) (fun z hz => by have := HK.out.1; have := HK5.out.1; omega) (Kd.N_keep HV.out HK5.out (fun z hz => by have h1 : w.heap.size ≤ z := hz; have := HG.out; omega)) (Below.refl _ _) (by have := HK.out.1; have := HK5.out.1; omega) (by have := HO.out; omega) ?_; intro v9 w9 hn9 hb9 hg9 hat9; (have HN9 := Aside0.mk hn9); (have HB9 := Aside0.mk hb9); clear hn9 hb9 hg9 hat9) | (go_at_call 43; (with_reducible refine (HF.out p2 0 x p3 e3 _ HI.out HX.out).mono ?_); rintro y w5 ⟨A1, c1, A4, c4, A5, c5, A9, c9, A12, c12, rfl, hf5, hi5, hk5⟩; (have HF5 := Aside0.mk hf5); (have HI5 := Aside0.mk hi5); (have HK5 := Aside0.mk hk5); clear hf5 hi5 hk5))
        go_roundg m
        case measure => omega
        case rel => exact ⟨out ++ [x], p3, e3, by simp, H1, ⟨code_rd.moveB HI5.out HB9.out (by have := HI5.out.ge; have := HG.out; omega) HG.out⟩, HN9, ⟨code_rd.keep3 HK.out HK5.out HB9.out⟩⟩
      · rw [if_neg hc] at h1
        have e4 := Option.some.inj h1
        simp only [Prod.mk.injEq] at e4
        obtain ⟨rfl, rfl, rfl⟩ := e4
        have hcs : decide ((out.length : Int) < n) = false ∨ (decide ((out.length : Int) < n) = true ∧ (e2 == 0) = false) := by
          by_cases h2 : (out.length : Int) < n
          · exact .inr ⟨decide_eq_true h2, by simpa using fun h3 => hc ⟨h2, h3⟩⟩
          · exact .inl (decide_eq_false h2)
        clear h1 hc
        rcases hcs with hd | ⟨hd, he⟩
        all_goals go_wp2
        all_goals go_ret
        all_goals exact ⟨A6, c6, rfl, (Kd.N_reads' HV.out).2.1, Kd.N_F HV.out, HI.out, HK.out⟩

-- NOT PRINTED: function 73 (api_Term)

-- NOT PRINTED: function 37 (code_reader_term)

-- NOT PRINTED: function 80 (code_many_int)

end Go.Proofs.Ytiamcmjdoobaeaa.PCe
