-- SLIM: a printed text of which the unused ways are cut off
-- PRINTED by print.py (a twelfth state) out of the translation. Not trusted: Lean checks it.
import Derived.Test.YtiamcmjdoobaeaaPCex0
import Derived.Test.YtiamcmjdoobaeaaPCex2
import Derived.Test.YtiamcmjdoobaeaaPCex3
import Derived.Test.YtiamcmjdoobaeaaPCex12
import Derived.Test.YtiamcmjdoobaeaaPCex13
namespace Go.Proofs.Ytiamcmjdoobaeaa.PCe
open Go.RowKit Go.Proofs.YtiamcmjdoobaeaaW.PrintWords Go.Proofs.YtiamcmjdoobaeaaW.PrintLast Go.Proofs.YtiamcmjdoobaeaaW.PrintMore
attribute [local go_sem] max2_int min2_int max_two min_two max_three min_three max_four min_four   -- for this text's walks alone
set_option linter.unusedVariables false
set_option linter.unusedSimpArgs false

/-! ### notaryref36_ReadStep: function 48 (given) -/
def notaryref36_ReadStep.f (k : Nat) (l0 : List Int) (a1 : Int) : Option (Int × Bool × List Int × List Int × Int × Int × ByteArray × (List (S25)) × Int × Int × Int × Int) := (notaryref36_Index.f k l0 a1).bind fun bt212 => (if bt212.2.2 = 0 then (if bt212.2.1 ≥ (l0.length : Int) then (some (0, false, ([] : List Int), ([] : List Int), 0, 0, (⟨#[]⟩ : ByteArray), ([] : List (S25)), 0, 0, 0, 1)) else (if 0 ≤ bt212.2.1 then (if bt212.2.1 < (l0.length : Int) then (if (rd l0 bt212.2.1) > 1 then (some (0, false, ([] : List Int), ([] : List Int), 0, 0, (⟨#[]⟩ : ByteArray), ([] : List (S25)), 0, 0, 0, 2)) else ((notaryref36_ReadList.f k l0 (wrap64 (bt212.2.1 + 1))).bind fun bt217 => (if bt217.2.2 = 0 then ((notaryref36_ReadList.f k l0 bt217.2.1).bind fun bt222 => (if bt222.2.2 = 0 then ((notaryref36_ReadTerm.f k l0 bt222.2.1 1).bind fun bt227 => (if bt227.2.2.2.2.2.2.2 = 0 then (some (bt212.1, ((rd l0 bt212.2.1) == 1), bt217.1, bt222.1, bt227.1, bt227.2.1, bt227.2.2.1, bt227.2.2.2.1, bt227.2.2.2.2.1, bt227.2.2.2.2.2.1, bt227.2.2.2.2.2.2.1, 0)) else (some (0, false, ([] : List Int), ([] : List Int), 0, 0, (⟨#[]⟩ : ByteArray), ([] : List (S25)), 0, 0, 0, bt227.2.2.2.2.2.2.2)))) else (some (0, false, ([] : List Int), ([] : List Int), 0, 0, (⟨#[]⟩ : ByteArray), ([] : List (S25)), 0, 0, 0, bt222.2.2)))) else (some (0, false, ([] : List Int), ([] : List Int), 0, 0, (⟨#[]⟩ : ByteArray), ([] : List (S25)), 0, 0, 0, bt217.2.2))))) else (none)) else (none))) else (some (0, false, ([] : List Int), ([] : List Int), 0, 0, (⟨#[]⟩ : ByteArray), ([] : List (S25)), 0, 0, 0, bt212.2.2)))
structure notaryref36_ReadStep.St (w : World) (rs : List (Nat × Nat × Array Value)) (d td : Nat) (cs : Array Value) (W : World) : Prop where
  bel : Below w.heap.size w W
  row : ∀ r ∈ rs, r.1 ≠ d ∧ W.heap[r.1]? = some (.cells r.2.2 r.2.1 (0, 0))
  loc : W.heap[d]? = some (.cells cs td (0, 0))
  dge : w.heap.size ≤ d
section
variable {w W W' : World} {rs : List (Nat × Nat × Array Value)} {d td : Nat} {cs : Array Value}
theorem notaryref36_ReadStep.St.call (s : notaryref36_ReadStep.St w rs d td cs W) (hb : Below W.heap.size W W') : notaryref36_ReadStep.St w rs d td cs W' :=
  ⟨below_step s.bel hb, fun r h => ⟨(s.row r h).1, blk_below (s.row r h).2 hb⟩, blk_below s.loc hb, s.dge⟩
theorem notaryref36_ReadStep.St.put (s : notaryref36_ReadStep.St w rs d td cs W) (i : Nat) (v : Value) {cs' : Array Value} (hc : cs.setIfInBounds i v = cs') : notaryref36_ReadStep.St w rs d td cs' (W.setCell ⟨d, i, none⟩ v) :=
  ⟨below_set s.bel s.dge, fun r h => ⟨(s.row r h).1, blk_far (s.row r h).2 (s.row r h).1 _⟩, blk_put s.loc i v hc, s.dge⟩
theorem notaryref36_ReadStep.St.part (s : notaryref36_ReadStep.St w rs d td cs W) {cs' : Array Value} (hc : W'.heap[d]? = some (.cells cs' td (0, 0))) (ho : ∀ k, k ≠ d → W'.heap[k]? = W.heap[k]?) (hb : Below d W W') : notaryref36_ReadStep.St w rs d td cs' W' :=
  ⟨s.bel.trans (hb.mono s.dge), fun r h => ⟨(s.row r h).1, (ho r.1 (s.row r h).1).trans (s.row r h).2⟩, hc, s.dge⟩
theorem notaryref36_ReadStep.St.d0 (s : notaryref36_ReadStep.St w rs d td cs W) (i : Nat) {v : Value} (h : cs[i]? = some v) : W.cell? ⟨d, i, none⟩ = some v := (blk_cell s.loc i).trans h
theorem notaryref36_ReadStep.St.fd (s : notaryref36_ReadStep.St w rs d td cs W) (i : Nat) : W.frozen? ⟨d, i, none⟩ = false := blk_frozen s.loc i
theorem notaryref36_ReadStep.St.rc (s : notaryref36_ReadStep.St w rs d td cs W) {h t : Nat} {z : Array Value} (hr : (h, t, z) ∈ rs) (i : Nat) {v : Value} (hv : z[i]? = some v) : W.cell? ⟨h, i, none⟩ = some v := (blk_cell (s.row _ hr).2 i).trans hv
theorem notaryref36_ReadStep.low {α : Type} {k : Kd α} {e B B' : Nat} {ok : Nat → Prop} {A : Option Addr} {n c : Nat} {xs : List α} (h : k.R e W B ok (.slice A n c) xs) (hb : B' ≤ B) : Kd.F k W (fun q => B' ≤ q) A n xs := Kd.F_mono (Kd.R_F (Kd.R_bound h)) (fun q hq => by have := hq.2.1; omega)
end
set_option maxHeartbeats 8000000 in
set_option maxRecDepth 100000 in
theorem notaryref36_ReadStep.calls (k : Nat) (A0 : Option Addr) (c0 : Nat) (l0 : List Int) (a1 : Int) (r1 : Int) (r2 : Bool) (r3 : List Int) (r4 : List Int) (r5 : Int) (r6 : Int) (r7 : ByteArray) (r8 : List (S25)) (r9 : Int) (r10 : Int) (r11 : Int) (r12 : Int) (w : World) (hr0 : Kd.C (Kd.int .u8) w A0 l0.length l0) (hc0 : l0.length ≤ c0) (h : notaryref36_ReadStep.f k l0 a1 = some (r1, r2, r3, r4, r5, r6, r7, r8, r9, r10, r11, r12)) :
    Calls Try.prog 48 #[.slice A0 l0.length c0, .int .i64 a1] w fun e w' => ∃ v2_ v3_ v7_ : Value, e = .returned (.tuple #[.agg #[.int .i64 r1, .bool r2, v2_, v3_, .int .i64 r5, .int .i64 r6, .string r7, v7_, .int .i64 r9, .int .i64 r10], .int .i64 r11, .int .i64 r12]) ∧ Kd.V (Kd.int .i64) 3 w' w.heap.size (fun k_ => (w.heap.size ≤ k_)) v2_ r3 ∧ Kd.V (Kd.int .i64) 3 w' w.heap.size (fun k_ => (w.heap.size ≤ k_)) v3_ r4 ∧ Kd.V k25 25 w' w.heap.size (fun k_ => (w.heap.size ≤ k_)) v7_ r8 ∧ Below w.heap.size w w' := by
  have hu := Try.underlying39
  have hu2 := Try.underlying25
  have HR0 := Aside0.mk hr0
  have HC0 := Aside0.mk hc0
  have HM := Aside0.mk (Kd.C_max hr0)
  have H := Aside0.mk h
  obtain ⟨W1, hW⟩ : ∃ W : World, W = (w.alloc (.cells #[.int .i64 0, .bool false, .slice none 0 0, .slice none 0 0, .int .i64 0, .int .i64 0, .string (⟨#[]⟩ : ByteArray), .slice none 0 0, .int .i64 0, .int .i64 0] 39)).alloc (.cells #[.int .i64 0, .bool false, .slice none 0 0, .slice none 0 0, .int .i64 0, .int .i64 0, .string (⟨#[]⟩ : ByteArray), .slice none 0 0, .int .i64 0, .int .i64 0] 39) := ⟨_, rfl⟩
  have s1 : notaryref36_ReadStep.St w [(w.heap.size, 39, #[.int .i64 0, .bool false, .slice none 0 0, .slice none 0 0, .int .i64 0, .int .i64 0, .string (⟨#[]⟩ : ByteArray), .slice none 0 0, .int .i64 0, .int .i64 0])] (w.heap.size + 1) 39 #[.int .i64 0, .bool false, .slice none 0 0, .slice none 0 0, .int .i64 0, .int .i64 0, .string (⟨#[]⟩ : ByteArray), .slice none 0 0, .int .i64 0, .int .i64 0] W1 := by
    refine ⟨by rw [hW]; exact below_alloc (below_alloc (Below.refl _ _) _) _, fun r hr => ?_, ?_, by omega⟩
    · obtain rfl := List.mem_singleton.1 hr
      exact ⟨by show w.heap.size ≠ w.heap.size + 1; omega, by rw [hW]; exact blk_alloc (blk_new _ _) _⟩
    · rw [hW]
      have := blk_new (w.alloc (.cells #[.int .i64 0, .bool false, .slice none 0 0, .slice none 0 0, .int .i64 0, .int .i64 0, .string (⟨#[]⟩ : ByteArray), .slice none 0 0, .int .i64 0, .int .i64 0] 39)) (.cells #[.int .i64 0, .bool false, .slice none 0 0, .slice none 0 0, .int .i64 0, .int .i64 0, .string (⟨#[]⟩ : ByteArray), .slice none 0 0, .int .i64 0, .int .i64 0] 39)
      simpa using this
  have S1 := Aside0.mk s1
  clear h hr0 hc0 s1
  have h := H.out
  unfold notaryref36_ReadStep.f at h
  clear H
  obtain ⟨⟨ru, p1, e1⟩, hi, h⟩ := Option.bind_eq_some_iff.mp h
  have HI := Aside0.mk hi
  clear hi
  dsimp only at h
  go_enter Try.func48, Try.ntmps48
  go_upto_region 2 with (fail)
  rw [← hW]
  clear hW
  go_upto_region 3 with (go_at_call 62; (with_reducible refine (notaryref36_Index.calls k A0 c0 l0 a1 ru p1 e1 _ (Kd.C_below HR0.out S1.out.bel) HC0.out HI.out).mono ?_); rintro y w2 ⟨rfl, hz⟩; obtain ⟨m2, rfl⟩ := hz.out; clear hz)
  obtain ⟨W2, hW2⟩ : ∃ W : World, W = W1.drewN m2 := ⟨_, rfl⟩
  rw [← hW2]
  have S2 : Aside0 (notaryref36_ReadStep.St w [(w.heap.size, 39, #[.int .i64 0, .bool false, .slice none 0 0, .slice none 0 0, .int .i64 0, .int .i64 0, .string (⟨#[]⟩ : ByteArray), .slice none 0 0, .int .i64 0, .int .i64 0])] (w.heap.size + 1) 39 #[.int .i64 0, .bool false, .slice none 0 0, .slice none 0 0, .int .i64 0, .int .i64 0, .string (⟨#[]⟩ : ByteArray), .slice none 0 0, .int .i64 0, .int .i64 0] W2) := ⟨by rw [hW2]; exact S1.out.call (pw_below_drewN (Below.refl _ _) m2)⟩
  clear hW2 S1 HI
  by_cases c_ : e1 = 0
  case neg =>
    rw [if_neg c_] at h
    have d_ : (e1 != 0) = true := bne_iff_ne.mpr c_
    clear c_

    have e_ := Option.some.inj h
    simp only [Prod.mk.injEq] at e_
    obtain ⟨rfl, rfl, rfl, rfl, rfl, rfl, rfl, rfl, rfl, rfl, rfl, rfl⟩ := e_
    clear h
    go_wp2_with (refine code_rd.put_row (w0 := w) w.heap.size rfl 39 (.tmp 4) (.tmp 23) rfl w.heap.size #[.int .i64 0, .bool false, .slice none 0 0, .slice none 0 0, .int .i64 0, .int .i64 0, .string (⟨#[]⟩ : ByteArray), .slice none 0 0, .int .i64 0, .int .i64 0] rfl rfl 39 _ (S2.out.row _ List.mem_cons_self).2 (by kernel_rfl) rfl (by simp [Value.oneCell']) S2.out.bel (Nat.le_refl _) ?_; intro WD hgD hoD hzD hbD; (have HGD := Aside0.mk hgD); (have HBD := Aside0.mk hbD); clear hgD hoD hzD hbD)
    refine bodyPost_ret (results_ctt rfl _ _ w.heap.size 39 _ (0, 0) _ rfl HGD.out Try.underlying39 rfl (by kernel_rfl)) rfl ?_
    exact ⟨_, _, _, rfl, Kd.V_nil _ _ _ _ _, Kd.V_nil _ _ _ _ _, Kd.V_nil _ _ _ _ _, HBD.out⟩
  rw [if_pos c_] at h
  obtain rfl := c_
  have d_ : ((0 : Int) != 0) = false := by decide
  clear d_
  go_upto_region 5 with (fail)
  by_cases c1 : p1 ≥ (l0.length : Int)
  case pos =>
    rw [if_pos c1] at h
    have d1 : decide ((l0.length : Int) ≤ p1) = true := decide_eq_true c1
    clear c1
    have e_ := Option.some.inj h
    simp only [Prod.mk.injEq] at e_
    obtain ⟨rfl, rfl, rfl, rfl, rfl, rfl, rfl, rfl, rfl, rfl, rfl, rfl⟩ := e_
    clear h
    go_wp2_with (refine code_rd.put_row (w0 := w) w.heap.size rfl 39 (.tmp 4) (.tmp 29) rfl w.heap.size #[.int .i64 0, .bool false, .slice none 0 0, .slice none 0 0, .int .i64 0, .int .i64 0, .string (⟨#[]⟩ : ByteArray), .slice none 0 0, .int .i64 0, .int .i64 0] rfl rfl 39 _ (S2.out.row _ List.mem_cons_self).2 (by kernel_rfl) rfl (by simp [Value.oneCell']) S2.out.bel (Nat.le_refl _) ?_; intro WD hgD hoD hzD hbD; (have HGD := Aside0.mk hgD); (have HBD := Aside0.mk hbD); clear hgD hoD hzD hbD)
    refine bodyPost_ret (results_ctt rfl _ _ w.heap.size 39 _ (0, 0) _ rfl HGD.out Try.underlying39 rfl (by kernel_rfl)) rfl ?_
    exact ⟨_, _, _, rfl, Kd.V_nil _ _ _ _ _, Kd.V_nil _ _ _ _ _, Kd.V_nil _ _ _ _ _, HBD.out⟩
  rw [if_neg c1] at h
  by_cases c2 : 0 ≤ p1
  case neg => rw [if_neg c2] at h; exact absurd h (by simp)
  rw [if_pos c2, if_pos (by omega)] at h
  have d1 : decide ((l0.length : Int) ≤ p1) = false := decide_eq_false c1
  obtain ⟨n, rfl⟩ := Int.eq_ofNat_of_zero_le c2
  have hn : n < l0.length := by omega
  obtain ⟨ad, eA, hcells⟩ := HR0.out.2.2 (by omega)
  obtain ⟨ci, hln, hK, hci⟩ := hcells n l0[n] (List.getElem?_eq_getElem hn)
  obtain rfl : ci = [.int .u8 l0[n]] := hK
  have hx0 : w.cell? (ad.add n) = some (.int .u8 l0[n]) := by have := hci 0 _ rfl; rw [show (Kd.int .u8).sz = 1 from rfl] at this; simpa using this
  have hx : W2.cell? (ad.add n) = some (.int .u8 l0[n]) := pw_cell_below S2.out.bel hx0
  have hr : rd l0 (n : Int) = l0[n] := by unfold rd; simp [List.getD_eq_getElem?_getD, List.getElem?_eq_getElem hn]
  rw [hr] at h
  obtain ⟨z, hz⟩ : ∃ z, z = l0[n] := ⟨_, rfl⟩
  rw [← hz] at h hx hx0
  have p0 : 0 ≤ (n : Int) := c2
  have q0 : (n : Int) < (l0.length : Int) := by omega
  have hln2 : (n : Int) + 1 ≤ 9223372036854775807 := by have := HM.out; omega
  have hwn : IntKind.i64.wrap ((n : Int) + 1) = (n : Int) + 1 := IntWalk.i64_in _ (by omega)
  have hwn2 : wrap64 ((n : Int) + 1) = (n : Int) + 1 := by rw [← i64_w]; exact hwn
  rw [hwn2] at h
  subst eA
  have HX0 := Aside0.mk hx0
  clear c1 c2 hln hn hcells hci hr hz hx0 hwn2 hln2
  go_upto_region 7 with (fail)
  by_cases c3 : z > 1
  case pos =>
    rw [if_pos c3] at h
    have d3 : decide (1 < z) = true := decide_eq_true c3
    clear c3
    have e_ := Option.some.inj h
    simp only [Prod.mk.injEq] at e_
    obtain ⟨rfl, rfl, rfl, rfl, rfl, rfl, rfl, rfl, rfl, rfl, rfl, rfl⟩ := e_
    clear h
    go_wp2_with (refine code_rd.put_row (w0 := w) w.heap.size rfl 39 (.tmp 4) (.tmp 35) rfl w.heap.size #[.int .i64 0, .bool false, .slice none 0 0, .slice none 0 0, .int .i64 0, .int .i64 0, .string (⟨#[]⟩ : ByteArray), .slice none 0 0, .int .i64 0, .int .i64 0] rfl rfl 39 _ (S2.out.row _ List.mem_cons_self).2 (by kernel_rfl) rfl (by simp [Value.oneCell']) S2.out.bel (Nat.le_refl _) ?_; intro WD hgD hoD hzD hbD; (have HGD := Aside0.mk hgD); (have HBD := Aside0.mk hbD); clear hgD hoD hzD hbD)
    refine bodyPost_ret (results_ctt rfl _ _ w.heap.size 39 _ (0, 0) _ rfl HGD.out Try.underlying39 rfl (by kernel_rfl)) rfl ?_
    exact ⟨_, _, _, rfl, Kd.V_nil _ _ _ _ _, Kd.V_nil _ _ _ _ _, Kd.V_nil _ _ _ _ _, HBD.out⟩
  rw [if_neg c3] at h
  have d3 : decide (1 < z) = false := decide_eq_false c3
  clear c3
  have x0 := S2.out.d0 0 rfl
  have f0 := S2.out.fd 0
  go_upto_region 10 with (fail)
  obtain ⟨W3, hW3⟩ : ∃ W : World, W = W2.setCell ⟨w.heap.size + 1, 0, none⟩ (.int .i64 ru) := ⟨_, rfl⟩
  rw [← hW3]
  have S3 : Aside0 (notaryref36_ReadStep.St w [(w.heap.size, 39, #[.int .i64 0, .bool false, .slice none 0 0, .slice none 0 0, .int .i64 0, .int .i64 0, .string (⟨#[]⟩ : ByteArray), .slice none 0 0, .int .i64 0, .int .i64 0])] (w.heap.size + 1) 39 #[.int .i64 ru, .bool false, .slice none 0 0, .slice none 0 0, .int .i64 0, .int .i64 0, .string (⟨#[]⟩ : ByteArray), .slice none 0 0, .int .i64 0, .int .i64 0] W3) := ⟨by rw [hW3]; exact S2.out.put 0 _ rfl⟩
  clear hW3 x0 f0 hx d1 d3
  have hx : W3.cell? (ad.add n) = some (.int .u8 z) := pw_cell_below S3.out.bel HX0.out
  have x1 := S3.out.d0 1 rfl
  have f1 := S3.out.fd 1
  go_upto_region 11 with (fail)
  obtain ⟨W4, hW4⟩ : ∃ W : World, W = W3.setCell ⟨w.heap.size + 1, 1, none⟩ (.bool (z == 1)) := ⟨_, rfl⟩
  rw [← hW4]
  have S4 : Aside0 (notaryref36_ReadStep.St w [(w.heap.size, 39, #[.int .i64 0, .bool false, .slice none 0 0, .slice none 0 0, .int .i64 0, .int .i64 0, .string (⟨#[]⟩ : ByteArray), .slice none 0 0, .int .i64 0, .int .i64 0])] (w.heap.size + 1) 39 #[.int .i64 ru, .bool (z == 1), .slice none 0 0, .slice none 0 0, .int .i64 0, .int .i64 0, .string (⟨#[]⟩ : ByteArray), .slice none 0 0, .int .i64 0, .int .i64 0] W4) := ⟨by rw [hW4]; exact S3.out.put 1 _ rfl⟩
  clear hW4 x1 f1 hx S2 S3
  obtain ⟨⟨l4, p4, e4⟩, h4, h⟩ := Option.bind_eq_some_iff.mp h
  have H4 := Aside0.mk h4
  clear h4
  dsimp only at h
  go_upto_region 12 with (go_at_call 49; (with_reducible refine (notaryref36_ReadList.calls k (some ad) c0 l0 ((n : Int) + 1) l4 p4 e4 _ (Kd.C_below HR0.out S4.out.bel) HC0.out H4.out).mono ?_); rintro y W5 ⟨v, rfl, hv, hz⟩; obtain ⟨A4, c4, rfl⟩ := Kd.R_slice hv; (have S5 := Aside0.mk (S4.out.call hz)); (have L4 := Aside0.mk (Kd.R_reads' hv).2.1); (have F4 := Aside0.mk (notaryref36_ReadStep.low (B' := w.heap.size + 2) hv (by have := blk_lt S4.out.loc; omega))); clear hv hz)
  by_cases c_ : e4 = 0
  case neg =>
    rw [if_neg c_] at h
    have d_ : (e4 != 0) = true := bne_iff_ne.mpr c_
    clear c_

    have e_ := Option.some.inj h
    simp only [Prod.mk.injEq] at e_
    obtain ⟨rfl, rfl, rfl, rfl, rfl, rfl, rfl, rfl, rfl, rfl, rfl, rfl⟩ := e_
    clear h
    go_wp2_with (refine code_rd.put_row (w0 := w) w.heap.size rfl 39 (.tmp 4) (.tmp 54) rfl w.heap.size #[.int .i64 0, .bool false, .slice none 0 0, .slice none 0 0, .int .i64 0, .int .i64 0, .string (⟨#[]⟩ : ByteArray), .slice none 0 0, .int .i64 0, .int .i64 0] rfl rfl 39 _ (S5.out.row _ List.mem_cons_self).2 (by kernel_rfl) rfl (by simp [Value.oneCell']) S5.out.bel (Nat.le_refl _) ?_; intro WD hgD hoD hzD hbD; (have HGD := Aside0.mk hgD); (have HBD := Aside0.mk hbD); clear hgD hoD hzD hbD)
    refine bodyPost_ret (results_ctt rfl _ _ w.heap.size 39 _ (0, 0) _ rfl HGD.out Try.underlying39 rfl (by kernel_rfl)) rfl ?_
    exact ⟨_, _, _, rfl, Kd.V_nil _ _ _ _ _, Kd.V_nil _ _ _ _ _, Kd.V_nil _ _ _ _ _, HBD.out⟩
  rw [if_pos c_] at h
  obtain rfl := c_
  have d_ : ((0 : Int) != 0) = false := by decide
  clear d_
  obtain ⟨⟨l5, p5, e5⟩, h5, h⟩ := Option.bind_eq_some_iff.mp h
  have H5 := Aside0.mk h5
  clear h5 S4
  dsimp only at h
  go_upto_region 15 with (go_at_call 49; (with_reducible refine (notaryref36_ReadList.calls k (some ad) c0 l0 p4 l5 p5 e5 _ (Kd.C_below HR0.out S5.out.bel) HC0.out H5.out).mono ?_); rintro y W6 ⟨v, rfl, hv, hz⟩; obtain ⟨A5, c5, rfl⟩ := Kd.R_slice hv; (have S6 := Aside0.mk (S5.out.call hz)); (have L5 := Aside0.mk (Kd.R_reads' hv).2.1); (have F5 := Aside0.mk (notaryref36_ReadStep.low (B' := w.heap.size + 2) hv (by have := blk_lt S5.out.loc; omega))); (have G4 := Aside0.mk (Kd.F_below F4.out hz)); clear hv hz)
  by_cases c_ : e5 = 0
  case neg =>
    rw [if_neg c_] at h
    have d_ : (e5 != 0) = true := bne_iff_ne.mpr c_
    clear c_

    have e_ := Option.some.inj h
    simp only [Prod.mk.injEq] at e_
    obtain ⟨rfl, rfl, rfl, rfl, rfl, rfl, rfl, rfl, rfl, rfl, rfl, rfl⟩ := e_
    clear h
    go_wp2_with (refine code_rd.put_row (w0 := w) w.heap.size rfl 39 (.tmp 4) (.tmp 65) rfl w.heap.size #[.int .i64 0, .bool false, .slice none 0 0, .slice none 0 0, .int .i64 0, .int .i64 0, .string (⟨#[]⟩ : ByteArray), .slice none 0 0, .int .i64 0, .int .i64 0] rfl rfl 39 _ (S6.out.row _ List.mem_cons_self).2 (by kernel_rfl) rfl (by simp [Value.oneCell']) S6.out.bel (Nat.le_refl _) ?_; intro WD hgD hoD hzD hbD; (have HGD := Aside0.mk hgD); (have HBD := Aside0.mk hbD); clear hgD hoD hzD hbD)
    refine bodyPost_ret (results_ctt rfl _ _ w.heap.size 39 _ (0, 0) _ rfl HGD.out Try.underlying39 rfl (by kernel_rfl)) rfl ?_
    exact ⟨_, _, _, rfl, Kd.V_nil _ _ _ _ _, Kd.V_nil _ _ _ _ _, Kd.V_nil _ _ _ _ _, HBD.out⟩
  rw [if_pos c_] at h
  obtain rfl := c_
  have d_ : ((0 : Int) != 0) = false := by decide
  clear d_
  obtain ⟨⟨t0, t1, t2, t3, t4, t5, p7, e7⟩, h7, h⟩ := Option.bind_eq_some_iff.mp h
  have H7 := Aside0.mk h7
  clear h7 S5
  dsimp only at h
  go_upto_region 18 with (go_at_call 21; (with_reducible refine (notaryref36_ReadTerm.calls k (some ad) c0 l0 p5 1 t0 t1 t2 t3 t4 t5 p7 e7 _ (Kd.C_below HR0.out S6.out.bel) HC0.out H7.out).mono ?_); rintro y w7 ⟨v, rfl, hv, hz⟩; obtain ⟨A9, c9, rfl⟩ := Kd.R_slice hv; (have S7 := Aside0.mk (S6.out.call hz)); (have L9 := Aside0.mk (Kd.R_reads' hv).2.1); (have F9 := Aside0.mk (notaryref36_ReadStep.low (B' := w.heap.size + 2) hv (by have := blk_lt S6.out.loc; omega))); (have K4 := Aside0.mk (Kd.F_below G4.out hz)); (have K5 := Aside0.mk (Kd.F_below F5.out hz)); clear hv hz)
  obtain ⟨W8, hW8⟩ : ∃ W : World, W = w7.alloc (.cells #[.int .i64 t0, .int .i64 t1, .string t2, .slice A9 t3.length c9, .int .i64 t4, .int .i64 t5] 25) := ⟨_, rfl⟩
  obtain ⟨g8, hg8⟩ : ∃ g, g = w7.heap.size := ⟨_, rfl⟩
  have hb8 : Below w7.heap.size w7 W8 := by rw [hW8]; exact below_alloc (Below.refl _ _) _
  have S8 := Aside0.mk (S7.out.call hb8)
  have R8 : Aside0 (W8.heap[g8]? = some (.cells #[.int .i64 t0, .int .i64 t1, .string t2, .slice A9 t3.length c9, .int .i64 t4, .int .i64 t5] 25 (0, 0))) := ⟨by rw [hW8, hg8]; exact blk_new _ _⟩
  have F4' := Aside0.mk (Kd.F_below K4.out hb8)
  have F5' := Aside0.mk (Kd.F_below K5.out hb8)
  have F9' := Aside0.mk (Kd.F_below F9.out hb8)
  have HG8 : Aside0 (w.heap.size + 1 < g8) := ⟨by rw [hg8]; exact blk_lt S7.out.loc⟩
  rw [← hW8, ← hg8]
  clear hW8 hg8 hb8 S6 S7 F4 F5 F9 G4 K4 K5
  by_cases c_ : e7 = 0
  case neg =>
    rw [if_neg c_] at h
    have d_ : (e7 != 0) = true := bne_iff_ne.mpr c_
    clear c_

    have e_ := Option.some.inj h
    simp only [Prod.mk.injEq] at e_
    obtain ⟨rfl, rfl, rfl, rfl, rfl, rfl, rfl, rfl, rfl, rfl, rfl, rfl⟩ := e_
    clear h
    go_wp2_with (refine code_rd.put_row (w0 := w) w.heap.size rfl 39 (.tmp 4) (.tmp 76) rfl w.heap.size #[.int .i64 0, .bool false, .slice none 0 0, .slice none 0 0, .int .i64 0, .int .i64 0, .string (⟨#[]⟩ : ByteArray), .slice none 0 0, .int .i64 0, .int .i64 0] rfl rfl 39 _ (S8.out.row _ List.mem_cons_self).2 (by kernel_rfl) rfl (by simp [Value.oneCell']) S8.out.bel (Nat.le_refl _) ?_; intro WD hgD hoD hzD hbD; (have HGD := Aside0.mk hgD); (have HBD := Aside0.mk hbD); clear hgD hoD hzD hbD)
    refine bodyPost_ret (results_ctt rfl _ _ w.heap.size 39 _ (0, 0) _ rfl HGD.out Try.underlying39 rfl (by kernel_rfl)) rfl ?_
    exact ⟨_, _, _, rfl, Kd.V_nil _ _ _ _ _, Kd.V_nil _ _ _ _ _, Kd.V_nil _ _ _ _ _, HBD.out⟩
  rw [if_pos c_] at h
  obtain rfl := c_
  have d_ : ((0 : Int) != 0) = false := by decide
  clear d_
  have e_ := Option.some.inj h
  simp only [Prod.mk.injEq] at e_
  obtain ⟨rfl, rfl, rfl, rfl, rfl, rfl, rfl, rfl, rfl, rfl, rfl, rfl⟩ := e_
  clear h
  have x2 := S8.out.d0 2 rfl
  have f2 := S8.out.fd 2
  go_upto_region 21 with (fail)
  obtain ⟨W9, hW9⟩ : ∃ W : World, W = W8.setCell ⟨w.heap.size + 1, 2, none⟩ (.slice A4 l4.length c4) := ⟨_, rfl⟩
  rw [← hW9]
  have S9 : Aside0 (notaryref36_ReadStep.St w [(w.heap.size, 39, #[.int .i64 0, .bool false, .slice none 0 0, .slice none 0 0, .int .i64 0, .int .i64 0, .string (⟨#[]⟩ : ByteArray), .slice none 0 0, .int .i64 0, .int .i64 0])] (w.heap.size + 1) 39 #[.int .i64 ru, .bool (z == 1), .slice A4 l4.length c4, .slice none 0 0, .int .i64 0, .int .i64 0, .string (⟨#[]⟩ : ByteArray), .slice none 0 0, .int .i64 0, .int .i64 0] W9) := ⟨by rw [hW9]; exact S8.out.put 2 _ rfl⟩
  have hne8 : g8 ≠ w.heap.size + 1 := by have := HG8.out; omega
  have R9 : Aside0 (W9.heap[g8]? = some (.cells #[.int .i64 t0, .int .i64 t1, .string t2, .slice A9 t3.length c9, .int .i64 t4, .int .i64 t5] 25 (0, 0))) := ⟨by rw [hW9]; exact blk_far R8.out hne8 _⟩
  have I4 := Aside0.mk (show Kd.F (Kd.int .i64) W9 _ A4 l4.length l4 by rw [hW9]; exact code_rs.Fs F4'.out (i := w.heap.size + 1) (by omega) _)
  have I5 := Aside0.mk (show Kd.F (Kd.int .i64) W9 _ A5 l5.length l5 by rw [hW9]; exact code_rs.Fs F5'.out (i := w.heap.size + 1) (by omega) _)
  have I9 := Aside0.mk (show Kd.F k25 W9 _ A9 t3.length t3 by rw [hW9]; exact code_rs.Fs F9'.out (i := w.heap.size + 1) (by omega) _)
  clear hW9 x2 f2 S8 R8 F4' F5' F9'
  have x3 := S9.out.d0 3 rfl
  have f3 := S9.out.fd 3
  go_upto_region 22 with (fail)
  obtain ⟨WA, hWA⟩ : ∃ W : World, W = W9.setCell ⟨w.heap.size + 1, 3, none⟩ (.slice A5 l5.length c5) := ⟨_, rfl⟩
  rw [← hWA]
  have SA : Aside0 (notaryref36_ReadStep.St w [(w.heap.size, 39, #[.int .i64 0, .bool false, .slice none 0 0, .slice none 0 0, .int .i64 0, .int .i64 0, .string (⟨#[]⟩ : ByteArray), .slice none 0 0, .int .i64 0, .int .i64 0])] (w.heap.size + 1) 39 #[.int .i64 ru, .bool (z == 1), .slice A4 l4.length c4, .slice A5 l5.length c5, .int .i64 0, .int .i64 0, .string (⟨#[]⟩ : ByteArray), .slice none 0 0, .int .i64 0, .int .i64 0] WA) := ⟨by rw [hWA]; exact S9.out.put 3 _ rfl⟩
  have RA : Aside0 (WA.heap[g8]? = some (.cells #[.int .i64 t0, .int .i64 t1, .string t2, .slice A9 t3.length c9, .int .i64 t4, .int .i64 t5] 25 (0, 0))) := ⟨by rw [hWA]; exact blk_far R9.out hne8 _⟩
  have J4 := Aside0.mk (show Kd.F (Kd.int .i64) WA _ A4 l4.length l4 by rw [hWA]; exact code_rs.Fs I4.out (i := w.heap.size + 1) (by omega) _)
  have J5 := Aside0.mk (show Kd.F (Kd.int .i64) WA _ A5 l5.length l5 by rw [hWA]; exact code_rs.Fs I5.out (i := w.heap.size + 1) (by omega) _)
  have J9 := Aside0.mk (show Kd.F k25 WA _ A9 t3.length t3 by rw [hWA]; exact code_rs.Fs I9.out (i := w.heap.size + 1) (by omega) _)
  clear hWA x3 f3 S9 R9 I4 I5 I9 hne8
  go_wp2_with (first | (refine code_rd.put_row (w0 := w) w.heap.size rfl 39 (.tmp 4) (.tmp 84) rfl w.heap.size #[.int .i64 ru, .bool (z == 1), .slice A4 l4.length c4, .slice A5 l5.length c5, .int .i64 t0, .int .i64 t1, .string t2, .slice A9 t3.length c9, .int .i64 t4, .int .i64 t5] rfl rfl 39 _ (SB.out.row _ List.mem_cons_self).2 (by kernel_rfl) rfl (by simp [Value.oneCell']) SB.out.bel (Nat.le_refl _) ?_; intro WD hgD hoD hzD hbD; (have HGD := Aside0.mk hgD); (have HOD := Aside0.mk hoD); (have HBD := Aside0.mk hbD); clear hgD hoD hzD hbD) | (refine wpList_load_row rfl 39 (.tmp 7) rfl (w.heap.size + 1) rfl 39 _ (0, 0) _ SB.out.loc Try.underlying39 rfl (by kernel_rfl) ?_) | (refine code_rs.put_part (w0 := WA) (w.heap.size + 1) rfl 25 (.tmp 83) (.tmp 82) rfl (w.heap.size + 1) 4 #[.int .i64 t0, .int .i64 t1, .string t2, .slice A9 t3.length c9, .int .i64 t4, .int .i64 t5] rfl rfl 39 _ #[.int .i64 ru, .bool (z == 1), .slice A4 l4.length c4, .slice A5 l5.length c5, .int .i64 t0, .int .i64 t1, .string t2, .slice A9 t3.length c9, .int .i64 t4, .int .i64 t5] SA.out.loc (by kernel_rfl) (by simp) (by simp [Value.oneCell']) rfl (Below.refl _ _) (Nat.le_refl _) ?_; intro wb hc ho hz hb; (have SB := Aside0.mk (SA.out.part hc ho hb)); (have M4 := Aside0.mk (code_rs.Fo J4.out ho (by omega))); (have M5 := Aside0.mk (code_rs.Fo J5.out ho (by omega))); (have M9 := Aside0.mk (code_rs.Fo J9.out ho (by omega))); clear hc ho hz hb) | (refine wpList_load_row rfl 25 (.tmp 12) rfl g8 rfl 25 _ (0, 0) _ RA.out Try.underlying25 rfl (by kernel_rfl) ?_))
  refine bodyPost_ret (results_ctt rfl _ _ w.heap.size 39 _ (0, 0) _ rfl HGD.out Try.underlying39 rfl (by kernel_rfl)) rfl ?_
  have up : ∀ q, w.heap.size + 2 ≤ q → w.heap.size ≤ q := fun q hq => by omega
  exact ⟨_, _, _, rfl, Kd.V_mk L4.out (Kd.F_mono (code_rs.Fo M4.out HOD.out (by omega)) up), Kd.V_mk L5.out (Kd.F_mono (code_rs.Fo M5.out HOD.out (by omega)) up), Kd.V_mk L9.out (Kd.F_mono (code_rs.Fo M9.out HOD.out (by omega)) up), HBD.out⟩

/-! ### notaryref36_ReadDeriv: function 22 (given) -/
def notaryref36_ReadDeriv.loop (one : Int → Option (S42 × Int × Int)) : Nat → Int → Int → Int → List Int → List S42 → Option (S42 × Int × Int)
  | 0, _, _, _, _, _ => none
  | m + 1, n, p, K, l, out => if (out.length : Int) < n then (one p).bind fun x => if x.2.2 = 0 then (if out.length < 500000000 then notaryref36_ReadDeriv.loop one m n x.2.1 K l (out ++ [x.1]) else none) else some (⟨0, [], ⟨0, false, [], [], ⟨0, 0, ⟨#[]⟩, [], 0, 0⟩⟩, []⟩, 0, x.2.2) else some (⟨K, l, ⟨0, false, [], [], ⟨0, 0, ⟨#[]⟩, [], 0, 0⟩⟩, out⟩, p, 0)
def notaryref36_ReadDeriv.d : Nat → List Int → Int → Int → Option (S42 × Int × Int)
  | 0, _, _, _ => none
  | k + 1, b, p, lv => if (-1000000 ≤ lv ∧ lv ≤ 1000000) ∧ b.length < 1000000000000 then (if lv > 64 then some (⟨0, [], ⟨0, false, [], [], ⟨0, 0, ⟨#[]⟩, [], 0, 0⟩⟩, []⟩, 0, 7) else if p ≥ (b.length : Int) then some (⟨0, [], ⟨0, false, [], [], ⟨0, 0, ⟨#[]⟩, [], 0, 0⟩⟩, []⟩, 0, 1) else if 0 ≤ p then (if wrap64 (rd b p) = 1 then (notaryref36_ReadStep.f k b (p + 1)).bind fun s => if s.2.2.2.2.2.2.2.2.2.2.2 = 0 then some (⟨1, [], ⟨s.1, s.2.1, s.2.2.1, s.2.2.2.1, ⟨s.2.2.2.2.1, s.2.2.2.2.2.1, s.2.2.2.2.2.2.1, s.2.2.2.2.2.2.2.1, s.2.2.2.2.2.2.2.2.1, s.2.2.2.2.2.2.2.2.2.1⟩⟩, []⟩, s.2.2.2.2.2.2.2.2.2.2.1, 0) else some (⟨0, [], ⟨0, false, [], [], ⟨0, 0, ⟨#[]⟩, [], 0, 0⟩⟩, []⟩, 0, s.2.2.2.2.2.2.2.2.2.2.2) else if wrap64 (rd b p) = 2 ∨ wrap64 (rd b p) = 3 then (if wrap64 (rd b p) = 3 then notaryref36_ReadList.f k b (p + 1) else some ([], p + 1, 0)).bind fun l => if l.2.2 = 0 then (notaryref01_Get.f k b l.2.1).bind fun n => if n.2.2 = 0 then notaryref36_ReadDeriv.loop (fun p => notaryref36_ReadDeriv.d k b p (lv + 1)) k n.1 n.2.1 (wrap64 (rd b p)) l.1 [] else some (⟨0, [], ⟨0, false, [], [], ⟨0, 0, ⟨#[]⟩, [], 0, 0⟩⟩, []⟩, 0, n.2.2) else some (⟨0, [], ⟨0, false, [], [], ⟨0, 0, ⟨#[]⟩, [], 0, 0⟩⟩, []⟩, 0, l.2.2) else some (⟨0, [], ⟨0, false, [], [], ⟨0, 0, ⟨#[]⟩, [], 0, 0⟩⟩, []⟩, 0, 23)) else none) else none
def notaryref36_ReadDeriv.f (k : Nat) (l0 : List Int) (a1 : Int) (a2 : Int) : Option (Int × List Int × Int × Bool × List Int × List Int × Int × Int × ByteArray × (List (S25)) × Int × Int × (List (S42)) × Int × Int) := (notaryref36_ReadDeriv.d k l0 a1 a2).bind fun s => some (s.1.f0, s.1.f1, s.1.f2.f0, s.1.f2.f1, s.1.f2.f2, s.1.f2.f3, s.1.f2.f4.f0, s.1.f2.f4.f1, s.1.f2.f4.f2, s.1.f2.f4.f3, s.1.f2.f4.f4, s.1.f2.f4.f5, s.1.f3, s.2.1, s.2.2)
def notaryref36_ReadDeriv.Post (w : World) (x : S42) (p e : Int) (y : Ending) (w' : World) : Prop := ∃ A1 c1 A4 c4 A5 c5 A9 c9 A12 c12, y = .returned (.tuple #[.agg #[.int .i64 x.f0, .slice A1 x.f1.length c1, .int .i64 x.f2.f0, .bool x.f2.f1, .slice A4 x.f2.f2.length c4, .slice A5 x.f2.f3.length c5, .int .i64 x.f2.f4.f0, .int .i64 x.f2.f4.f1, .string x.f2.f4.f2, .slice A9 x.f2.f4.f3.length c9, .int .i64 x.f2.f4.f4, .int .i64 x.f2.f4.f5, .slice A12 x.f3.length c12], .int .i64 p, .int .i64 e]) ∧ Kd.FK k42 w' (fun q => w.heap.size ≤ q) x [.int .i64 x.f0, .slice A1 x.f1.length c1, .int .i64 x.f2.f0, .bool x.f2.f1, .slice A4 x.f2.f2.length c4, .slice A5 x.f2.f3.length c5, .int .i64 x.f2.f4.f0, .int .i64 x.f2.f4.f1, .string x.f2.f4.f2, .slice A9 x.f2.f4.f3.length c9, .int .i64 x.f2.f4.f4, .int .i64 x.f2.f4.f5, .slice A12 x.f3.length c12] ∧ Below w.heap.size w w'
theorem notaryref36_ReadDeriv.low {w W W1 : World} {rs : List (Nat × Nat × Array Value)} {d td : Nat} {cs : Array Value} {B : Nat} (s : notaryref36_ReadStep.St w rs d td cs W) (hb : Below B W W1) (hd : d < B) (hr : ∀ r ∈ rs, r.1 < B) (hw : w.heap.size ≤ B) : notaryref36_ReadStep.St w rs d td cs W1 :=
  ⟨s.bel.trans (hb.mono hw), fun r h => ⟨(s.row r h).1, (hb.block r.1 (hr r h)).trans (s.row r h).2⟩, (hb.block d hd).trans s.loc, s.dge⟩
theorem notaryref36_ReadDeriv.zero (W : World) (ok : Nat → Prop) : Kd.FK k42 W ok ⟨0, [], ⟨0, false, [], [], ⟨0, 0, ⟨#[]⟩, [], 0, 0⟩⟩, []⟩ [.int .i64 0, .slice none 0 0, .int .i64 0, .bool false, .slice none 0 0, .slice none 0 0, .int .i64 0, .int .i64 0, .string (⟨#[]⟩ : ByteArray), .slice none 0 0, .int .i64 0, .int .i64 0, .slice none 0 0] := k42_mkF W _ ⟨0, [], ⟨0, false, [], [], ⟨0, 0, ⟨#[]⟩, [], 0, 0⟩⟩, []⟩ (Nat.le_refl _) (Kd.F_nil _ _ _) (Nat.le_refl _) (Kd.F_nil _ _ _) (Nat.le_refl _) (Kd.F_nil _ _ _) (Nat.le_refl _) (Kd.F_nil _ _ _) (Nat.le_refl _) (Kd.F_nil _ _ _)
set_option maxHeartbeats 16000000 in
set_option maxRecDepth 100000 in
theorem notaryref36_ReadDeriv.d_calls (k : Nat) : ∀ (A0 : Option Addr) (c0 : Nat) (l0 : List Int) (p lv : Int) (x : S42) (p' e' : Int) (w : World), Kd.C (Kd.int .u8) w A0 l0.length l0 → l0.length ≤ c0 → notaryref36_ReadDeriv.d k l0 p lv = some (x, p', e') →
    Calls Try.prog 22 #[.slice A0 l0.length c0, .int .i64 p, .int .i64 lv] w (notaryref36_ReadDeriv.Post w x p' e') := by
  induction k with
  | zero => intro A0 c0 l0 p lv x p' e' w _ _ h; exact absurd h (by simp [notaryref36_ReadDeriv.d])
  | succ k ih =>
  intro A0 c0 l0 p lv x p' e' w hr0 hc0 h
  have hu := Try.underlying42
  have hu2 := Try.underlying39
  rw [notaryref36_ReadDeriv.d] at h
  by_cases hg0 : (-1000000 ≤ lv ∧ lv ≤ 1000000) ∧ l0.length < 1000000000000
  case neg => rw [if_neg hg0] at h; exact absurd h (by simp)
  rw [if_pos hg0] at h
  have HIH := Aside0.mk ih
  have HR0 := Aside0.mk hr0
  have HC0 := Aside0.mk hc0
  have HL := Aside0.mk hg0
  obtain ⟨W1, hW⟩ : ∃ W : World, W = w.alloc (.cells #[.int .i64 0, .slice none 0 0, .int .i64 0, .bool false, .slice none 0 0, .slice none 0 0, .int .i64 0, .int .i64 0, .string (⟨#[]⟩ : ByteArray), .slice none 0 0, .int .i64 0, .int .i64 0, .slice none 0 0] 42) := ⟨_, rfl⟩
  have hb1 : Below w.heap.size w W1 := by rw [hW]; exact below_alloc (Below.refl _ _) _
  have HZ1 : Aside0 (W1.heap[w.heap.size]? = some (.cells #[.int .i64 0, .slice none 0 0, .int .i64 0, .bool false, .slice none 0 0, .slice none 0 0, .int .i64 0, .int .i64 0, .string (⟨#[]⟩ : ByteArray), .slice none 0 0, .int .i64 0, .int .i64 0, .slice none 0 0] 42 (0, 0))) := ⟨by rw [hW]; exact blk_new _ _⟩
  have HS1 : Aside0 (W1.heap.size = w.heap.size + 1) := ⟨by rw [hW]; simp⟩
  have HB1 := Aside0.mk hb1
  have hwl : IntKind.i64.wrap (lv + 1) = lv + 1 := IntWalk.i64_in _ (by omega)
  clear ih hr0 hc0 hg0 hb1
  go_enter Try.func22, Try.ntmps22
  go_upto_region 1 with (fail)
  rw [← hW]
  clear hW
  by_cases c1 : lv > 64
  case pos =>
    rw [if_pos c1] at h
    have d1 : decide (64 < lv) = true := decide_eq_true c1
    clear c1
    have e_ := Option.some.inj h
    simp only [Prod.mk.injEq] at e_
    obtain ⟨rfl, rfl, rfl⟩ := e_
    clear h
    go_wp2_with (refine code_rd.put_row (w0 := w) w.heap.size rfl 42 (.tmp 6) (.tmp 24) rfl w.heap.size #[.int .i64 0, .slice none 0 0, .int .i64 0, .bool false, .slice none 0 0, .slice none 0 0, .int .i64 0, .int .i64 0, .string (⟨#[]⟩ : ByteArray), .slice none 0 0, .int .i64 0, .int .i64 0, .slice none 0 0] rfl rfl 42 _ HZ1.out (by kernel_rfl) rfl (by simp [Value.oneCell']) HB1.out (Nat.le_refl _) ?_; intro WD hgD hoD hzD hbD; (have HGD := Aside0.mk hgD); (have HBD := Aside0.mk hbD); clear hgD hoD hzD hbD)
    refine bodyPost_ret (results_ctt rfl _ _ w.heap.size 42 _ (0, 0) _ rfl HGD.out Try.underlying42 rfl (by kernel_rfl)) rfl ?_
    exact ⟨none, 0, none, 0, none, 0, none, 0, none, 0, rfl, notaryref36_ReadDeriv.zero _ _, HBD.out⟩
  rw [if_neg c1] at h
  have d1 : decide (64 < lv) = false := decide_eq_false c1
  clear c1
  go_upto_region 3 with (fail)
  by_cases c2 : p ≥ (l0.length : Int)
  case pos =>
    rw [if_pos c2] at h
    have d2 : decide ((l0.length : Int) ≤ p) = true := decide_eq_true c2
    clear c2
    have e_ := Option.some.inj h
    simp only [Prod.mk.injEq] at e_
    obtain ⟨rfl, rfl, rfl⟩ := e_
    clear h
    go_wp2_with (refine code_rd.put_row (w0 := w) w.heap.size rfl 42 (.tmp 6) (.tmp 29) rfl w.heap.size #[.int .i64 0, .slice none 0 0, .int .i64 0, .bool false, .slice none 0 0, .slice none 0 0, .int .i64 0, .int .i64 0, .string (⟨#[]⟩ : ByteArray), .slice none 0 0, .int .i64 0, .int .i64 0, .slice none 0 0] rfl rfl 42 _ HZ1.out (by kernel_rfl) rfl (by simp [Value.oneCell']) HB1.out (Nat.le_refl _) ?_; intro WD hgD hoD hzD hbD; (have HGD := Aside0.mk hgD); (have HBD := Aside0.mk hbD); clear hgD hoD hzD hbD)
    refine bodyPost_ret (results_ctt rfl _ _ w.heap.size 42 _ (0, 0) _ rfl HGD.out Try.underlying42 rfl (by kernel_rfl)) rfl ?_
    exact ⟨none, 0, none, 0, none, 0, none, 0, none, 0, rfl, notaryref36_ReadDeriv.zero _ _, HBD.out⟩
  rw [if_neg c2] at h
  by_cases c3 : 0 ≤ p
  case neg => rw [if_neg c3] at h; exact absurd h (by simp)
  rw [if_pos c3] at h
  have d2 : decide ((l0.length : Int) ≤ p) = false := decide_eq_false c2
  obtain ⟨n, rfl⟩ := Int.eq_ofNat_of_zero_le c3
  have hn : n < l0.length := by omega
  obtain ⟨ad, eA, hcells⟩ := HR0.out.2.2 (by omega)
  obtain ⟨ci, hln, hK, hci⟩ := hcells n l0[n] (List.getElem?_eq_getElem hn)
  obtain rfl : ci = [.int .u8 l0[n]] := hK
  have hx0 : w.cell? (ad.add n) = some (.int .u8 l0[n]) := by have := hci 0 _ rfl; rw [show (Kd.int .u8).sz = 1 from rfl] at this; simpa using this
  have hx : W1.cell? (ad.add n) = some (.int .u8 l0[n]) := pw_cell_below HB1.out hx0
  have hr : rd l0 (n : Int) = l0[n] := by unfold rd; simp [List.getD_eq_getElem?_getD, List.getElem?_eq_getElem hn]
  rw [hr] at h
  obtain ⟨z, hz⟩ : ∃ z, z = l0[n] := ⟨_, rfl⟩
  rw [← hz] at h hx hx0
  obtain ⟨K, hKz⟩ : ∃ K, K = wrap64 z := ⟨_, rfl⟩
  rw [← hKz] at h
  have p0 : 0 ≤ (n : Int) := c3
  have q0 : (n : Int) < (l0.length : Int) := by omega
  have hwn : IntKind.i64.wrap ((n : Int) + 1) = (n : Int) + 1 := IntWalk.i64_in _ (by have := HL.out.2; omega)
  subst eA
  have HKz := Aside0.mk hKz
  clear c2 c3 hln hn hcells hci hr hz hx0 hKz
  go_upto_region 6 with (fail)
  obtain ⟨W2, hW2⟩ : ∃ W : World, W = W1.alloc (.cells #[.int .i64 K, .slice none 0 0, .int .i64 0, .bool false, .slice none 0 0, .slice none 0 0, .int .i64 0, .int .i64 0, .string (⟨#[]⟩ : ByteArray), .slice none 0 0, .int .i64 0, .int .i64 0, .slice none 0 0] 42) := ⟨_, rfl⟩
  have s2 : notaryref36_ReadStep.St w [(w.heap.size, 42, #[.int .i64 0, .slice none 0 0, .int .i64 0, .bool false, .slice none 0 0, .slice none 0 0, .int .i64 0, .int .i64 0, .string (⟨#[]⟩ : ByteArray), .slice none 0 0, .int .i64 0, .int .i64 0, .slice none 0 0])] (w.heap.size + 1) 42 #[.int .i64 K, .slice none 0 0, .int .i64 0, .bool false, .slice none 0 0, .slice none 0 0, .int .i64 0, .int .i64 0, .string (⟨#[]⟩ : ByteArray), .slice none 0 0, .int .i64 0, .int .i64 0, .slice none 0 0] W2 := by
    have hb2 : Below W1.heap.size W1 W2 := by rw [hW2]; exact below_alloc (Below.refl _ _) _
    refine ⟨below_step HB1.out hb2, fun r hr => ?_, ?_, by omega⟩
    · obtain rfl := List.mem_singleton.1 hr
      exact ⟨by show w.heap.size ≠ w.heap.size + 1; omega, blk_below HZ1.out hb2⟩
    · rw [hW2, ← HS1.out]; exact blk_new _ _
  have S2 := Aside0.mk s2
  rw [← HKz.out, HS1.out, ← hW2]
  clear s2 hW2 HZ1 HB1 HS1 hx d1 d2
  have x0 := S2.out.d0 0 rfl
  go_upto_region 7 with (fail)
  by_cases hk1 : K = 1
  case pos =>
    rw [if_pos hk1] at h
    obtain ⟨⟨r1, r2, r3, r4, r5, r6, r7, r8, r9, r10, r11, r12⟩, hs, h⟩ := Option.bind_eq_some_iff.mp h
    have HSS := Aside0.mk hs
    dsimp only at h
    subst hk1
    clear hs HKz
    go_upto_region 9 with (go_at_call 48; (with_reducible refine (notaryref36_ReadStep.calls k (some ad) c0 l0 ((n : Int) + 1) r1 r2 r3 r4 r5 r6 r7 r8 r9 r10 r11 r12 _ (Kd.C_below HR0.out S2.out.bel) HC0.out HSS.out).mono ?_); rintro y w3 ⟨v2, v3, v7, rfl, hv2, hv3, hv7, hz⟩; (obtain ⟨B4, n4, rfl, m4, f4⟩ := hv2); (obtain ⟨B5, n5, rfl, m5, f5⟩ := hv3); (obtain ⟨B9, n9, rfl, m9, f9⟩ := hv7); (have S3 := Aside0.mk (S2.out.call hz)); (have L4 := Aside0.mk m4); (have L5 := Aside0.mk m5); (have L9 := Aside0.mk m9); (have F4 := Aside0.mk (code_rs.Fm (B' := w.heap.size + 2) f4 (by have := blk_lt S2.out.loc; omega))); (have F5 := Aside0.mk (code_rs.Fm (B' := w.heap.size + 2) f5 (by have := blk_lt S2.out.loc; omega))); (have F9 := Aside0.mk (code_rs.Fm (B' := w.heap.size + 2) f9 (by have := blk_lt S2.out.loc; omega))); clear hz m4 m5 m9 f4 f5 f9)
    obtain ⟨W4, hW4⟩ : ∃ W : World, W = w3.alloc (.cells #[.int .i64 r1, .bool r2, .slice B4 r3.length n4, .slice B5 r4.length n5, .int .i64 r5, .int .i64 r6, .string r7, .slice B9 r8.length n9, .int .i64 r9, .int .i64 r10] 39) := ⟨_, rfl⟩
    obtain ⟨g4, hg4⟩ : ∃ g, g = w3.heap.size := ⟨_, rfl⟩
    have hb4 : Below w3.heap.size w3 W4 := by rw [hW4]; exact below_alloc (Below.refl _ _) _
    have S4 := Aside0.mk (S3.out.call hb4)
    have R4 : Aside0 (W4.heap[g4]? = some (.cells #[.int .i64 r1, .bool r2, .slice B4 r3.length n4, .slice B5 r4.length n5, .int .i64 r5, .int .i64 r6, .string r7, .slice B9 r8.length n9, .int .i64 r9, .int .i64 r10] 39 (0, 0))) := ⟨by rw [hW4, hg4]; exact blk_new _ _⟩
    have G4 := Aside0.mk (Kd.F_below F4.out hb4)
    have G5 := Aside0.mk (Kd.F_below F5.out hb4)
    have G9 := Aside0.mk (Kd.F_below F9.out hb4)
    rw [← hW4, ← hg4]
    clear hW4 hg4 hb4 S2 S3 F4 F5 F9 x0
    by_cases c_ : r12 = 0
    case neg =>
      rw [if_neg c_] at h
      have d_ : (r12 != 0) = true := bne_iff_ne.mpr c_
      clear c_

      have e_ := Option.some.inj h
      simp only [Prod.mk.injEq] at e_
      obtain ⟨rfl, rfl, rfl⟩ := e_
      clear h
      go_wp2_with (refine code_rd.put_row (w0 := w) w.heap.size rfl 42 (.tmp 6) (.tmp 50) rfl w.heap.size #[.int .i64 0, .slice none 0 0, .int .i64 0, .bool false, .slice none 0 0, .slice none 0 0, .int .i64 0, .int .i64 0, .string (⟨#[]⟩ : ByteArray), .slice none 0 0, .int .i64 0, .int .i64 0, .slice none 0 0] rfl rfl 42 _ (S4.out.row _ List.mem_cons_self).2 (by kernel_rfl) rfl (by simp [Value.oneCell']) S4.out.bel (Nat.le_refl _) ?_; intro WD hgD hoD hzD hbD; (have HGD := Aside0.mk hgD); (have HBD := Aside0.mk hbD); clear hgD hoD hzD hbD)
      refine bodyPost_ret (results_ctt rfl _ _ w.heap.size 42 _ (0, 0) _ rfl HGD.out Try.underlying42 rfl (by kernel_rfl)) rfl ?_
      exact ⟨none, 0, none, 0, none, 0, none, 0, none, 0, rfl, notaryref36_ReadDeriv.zero _ _, HBD.out⟩
    rw [if_pos c_] at h
    obtain rfl := c_
    have d_ : ((0 : Int) != 0) = false := by decide
    clear d_
    have e_ := Option.some.inj h
    simp only [Prod.mk.injEq] at e_
    obtain ⟨rfl, rfl, rfl⟩ := e_
    clear h
    go_wp2_with (first | (refine code_rd.put_row (w0 := w) w.heap.size rfl 42 (.tmp 6) (.tmp 54) rfl w.heap.size #[.int .i64 1, .slice none 0 0, .int .i64 r1, .bool r2, .slice B4 r3.length n4, .slice B5 r4.length n5, .int .i64 r5, .int .i64 r6, .string r7, .slice B9 r8.length n9, .int .i64 r9, .int .i64 r10, .slice none 0 0] rfl rfl 42 _ (SB.out.row _ List.mem_cons_self).2 (by kernel_rfl) rfl (by simp [Value.oneCell']) SB.out.bel (Nat.le_refl _) ?_; intro WD hgD hoD hzD hbD; (have HGD := Aside0.mk hgD); (have HOD := Aside0.mk hoD); (have HBD := Aside0.mk hbD); clear hgD hoD hzD hbD) | (refine wpList_load_row rfl 42 (.tmp 9) rfl (w.heap.size + 1) rfl 42 _ (0, 0) _ SB.out.loc Try.underlying42 rfl (by kernel_rfl) ?_) | (refine code_rs.put_part (w0 := W4) (w.heap.size + 1) rfl 39 (.tmp 53) (.tmp 52) rfl (w.heap.size + 1) 2 #[.int .i64 r1, .bool r2, .slice B4 r3.length n4, .slice B5 r4.length n5, .int .i64 r5, .int .i64 r6, .string r7, .slice B9 r8.length n9, .int .i64 r9, .int .i64 r10] rfl rfl 42 _ #[.int .i64 1, .slice none 0 0, .int .i64 r1, .bool r2, .slice B4 r3.length n4, .slice B5 r4.length n5, .int .i64 r5, .int .i64 r6, .string r7, .slice B9 r8.length n9, .int .i64 r9, .int .i64 r10, .slice none 0 0] S4.out.loc (by kernel_rfl) (by simp) (by simp [Value.oneCell']) rfl (Below.refl _ _) (Nat.le_refl _) ?_; intro wb hc ho hz hb; (have SB := Aside0.mk (S4.out.part hc ho hb)); (have M4 := Aside0.mk (code_rs.Fo G4.out ho (by omega))); (have M5 := Aside0.mk (code_rs.Fo G5.out ho (by omega))); (have M9 := Aside0.mk (code_rs.Fo G9.out ho (by omega))); clear hc ho hz hb) | (refine wpList_load_row rfl 39 (.tmp 10) rfl g4 rfl 39 _ (0, 0) _ R4.out Try.underlying39 rfl (by kernel_rfl) ?_))
    refine bodyPost_ret (results_ctt rfl _ _ w.heap.size 42 _ (0, 0) _ rfl HGD.out Try.underlying42 rfl (by kernel_rfl)) rfl ?_
    have up : ∀ q, w.heap.size + 2 ≤ q → w.heap.size ≤ q := fun q hq => by omega
    exact ⟨none, 0, B4, n4, B5, n5, B9, n9, none, 0, rfl, k42_mkF WD _ ⟨1, [], ⟨r1, r2, r3, r4, ⟨r5, r6, r7, r8, r9, r10⟩⟩, []⟩ (A1 := none) (c1 := 0) (A12 := none) (c12 := 0) (Nat.le_refl _) (Kd.F_nil _ _ _) L4.out (Kd.F_mono (code_rs.Fo M4.out HOD.out (by omega)) up) L5.out (Kd.F_mono (code_rs.Fo M5.out HOD.out (by omega)) up) L9.out (Kd.F_mono (code_rs.Fo M9.out HOD.out (by omega)) up) (Nat.le_refl _) (Kd.F_nil _ _ _), HBD.out⟩
  rw [if_neg hk1] at h
  have b1 : (K == 1) = false := beq_eq_false_iff_ne.mpr hk1
  clear hk1
  by_cases hk2 : K = 2 ∨ K = 3
  case neg =>
    rw [if_neg hk2] at h
    have b2 : (K != 2) = true := bne_iff_ne.mpr (fun e => hk2 (.inl e))
    have b3 : (K != 3) = true := bne_iff_ne.mpr (fun e => hk2 (.inr e))
    clear hk2
    have e_ := Option.some.inj h
    simp only [Prod.mk.injEq] at e_
    obtain ⟨rfl, rfl, rfl⟩ := e_
    clear h
    go_wp2_with (refine code_rd.put_row (w0 := w) w.heap.size rfl 42 (.tmp 6) (.tmp 64) rfl w.heap.size #[.int .i64 0, .slice none 0 0, .int .i64 0, .bool false, .slice none 0 0, .slice none 0 0, .int .i64 0, .int .i64 0, .string (⟨#[]⟩ : ByteArray), .slice none 0 0, .int .i64 0, .int .i64 0, .slice none 0 0] rfl rfl 42 _ (S2.out.row _ List.mem_cons_self).2 (by kernel_rfl) rfl (by simp [Value.oneCell']) S2.out.bel (Nat.le_refl _) ?_; intro WD hgD hoD hzD hbD; (have HGD := Aside0.mk hgD); (have HBD := Aside0.mk hbD); clear hgD hoD hzD hbD)
    refine bodyPost_ret (results_ctt rfl _ _ w.heap.size 42 _ (0, 0) _ rfl HGD.out Try.underlying42 rfl (by kernel_rfl)) rfl ?_
    exact ⟨none, 0, none, 0, none, 0, none, 0, none, 0, rfl, notaryref36_ReadDeriv.zero _ _, HBD.out⟩
  rw [if_pos hk2] at h
  obtain ⟨⟨l, p3, e3⟩, hl, h⟩ := Option.bind_eq_some_iff.mp h
  dsimp only at h
  by_cases hk3 : K = 3
  · rw [if_pos hk3] at hl
    have b2 : (K != 2) = true := bne_iff_ne.mpr (by omega)
    have b3 : (K != 3) = false := bne_eq_false_iff_eq.mpr hk3
    have b4 : (K == 3) = true := beq_iff_eq.mpr hk3
    have HLL := Aside0.mk hl
    clear hl hk2 hk3
    go_upto_region 17 with (go_at_call 49; (with_reducible refine (notaryref36_ReadList.calls k (some ad) c0 l0 ((n : Int) + 1) l p3 e3 _ (Kd.C_below HR0.out S2.out.bel) HC0.out HLL.out).mono ?_); rintro y W3 ⟨v, rfl, hv, hz⟩; obtain ⟨A1, c1, rfl⟩ := Kd.R_slice hv; (have S3 := Aside0.mk (S2.out.call hz)); (have L1 := Aside0.mk (Kd.R_reads' hv).2.1); (have F3 := Aside0.mk (notaryref36_ReadStep.low (B' := w.heap.size + 2) hv (by have := blk_lt S2.out.loc; omega))); clear hv hz)
    clear x0 S2
    by_cases c_ : e3 = 0
    case neg =>
      rw [if_neg c_] at h
      have d_ : (e3 != 0) = true := bne_iff_ne.mpr c_
      clear c_

      have e_ := Option.some.inj h
      simp only [Prod.mk.injEq] at e_
      obtain ⟨rfl, rfl, rfl⟩ := e_
      clear h
      go_wp2_with (refine code_rd.put_row (w0 := w) w.heap.size rfl 42 (.tmp 6) (.tmp 77) rfl w.heap.size #[.int .i64 0, .slice none 0 0, .int .i64 0, .bool false, .slice none 0 0, .slice none 0 0, .int .i64 0, .int .i64 0, .string (⟨#[]⟩ : ByteArray), .slice none 0 0, .int .i64 0, .int .i64 0, .slice none 0 0] rfl rfl 42 _ (S3.out.row _ List.mem_cons_self).2 (by kernel_rfl) rfl (by simp [Value.oneCell']) S3.out.bel (Nat.le_refl _) ?_; intro WD hgD hoD hzD hbD; (have HGD := Aside0.mk hgD); (have HBD := Aside0.mk hbD); clear hgD hoD hzD hbD)
      refine bodyPost_ret (results_ctt rfl _ _ w.heap.size 42 _ (0, 0) _ rfl HGD.out Try.underlying42 rfl (by kernel_rfl)) rfl ?_
      exact ⟨none, 0, none, 0, none, 0, none, 0, none, 0, rfl, notaryref36_ReadDeriv.zero _ _, HBD.out⟩
    rw [if_pos c_] at h
    obtain rfl := c_
    have d_ : ((0 : Int) != 0) = false := by decide
    clear d_
    have x1 := S3.out.d0 1 rfl
    have f1 := S3.out.fd 1
    go_upto_region 20 with (fail)
    obtain ⟨W4, hW4⟩ : ∃ W : World, W = W3.setCell ⟨w.heap.size + 1, 1, none⟩ (.slice A1 l.length c1) := ⟨_, rfl⟩
    rw [← hW4]
    have S4 : Aside0 (notaryref36_ReadStep.St w [(w.heap.size, 42, #[.int .i64 0, .slice none 0 0, .int .i64 0, .bool false, .slice none 0 0, .slice none 0 0, .int .i64 0, .int .i64 0, .string (⟨#[]⟩ : ByteArray), .slice none 0 0, .int .i64 0, .int .i64 0, .slice none 0 0])] (w.heap.size + 1) 42 #[.int .i64 K, .slice A1 l.length c1, .int .i64 0, .bool false, .slice none 0 0, .slice none 0 0, .int .i64 0, .int .i64 0, .string (⟨#[]⟩ : ByteArray), .slice none 0 0, .int .i64 0, .int .i64 0, .slice none 0 0] W4) := ⟨by rw [hW4]; exact S3.out.put 1 _ rfl⟩
    have F4 : Aside0 (Kd.F (Kd.int .i64) W4 (fun q => w.heap.size + 2 ≤ q) A1 l.length l) := ⟨by rw [hW4]; exact code_rs.Fs F3.out (by omega) _⟩
    clear hW4 x1 f1 S3 F3
    obtain ⟨⟨u, p4, e4⟩, hn, h⟩ := Option.bind_eq_some_iff.mp h
    have HN := Aside0.mk hn
    dsimp only at h
    clear hn
    go_upto_region 22 with (go_at_call 46; (with_reducible refine (notaryref01_Get.calls k (some ad) c0 l0 p3 u p4 e4 _ (Kd.C_below HR0.out S4.out.bel) HC0.out HN.out).mono ?_); rintro y w5 ⟨rfl, hz⟩; obtain ⟨m5, rfl⟩ := hz.out; clear hz)
    obtain ⟨W5, hW5⟩ : ∃ W : World, W = W4.drewN m5 := ⟨_, rfl⟩
    have hb5 : Below W4.heap.size W4 W5 := by rw [hW5]; exact pw_below_drewN (Below.refl _ _) m5
    have S5 := Aside0.mk (S4.out.call hb5)
    have F5 := Aside0.mk (Kd.F_below F4.out hb5)
    rw [← hW5]
    clear hW5 hb5 HN

    by_cases c_ : e4 = 0
    case neg =>
      rw [if_neg c_] at h
      have d_ : (e4 != 0) = true := bne_iff_ne.mpr c_
      clear c_

      have e_ := Option.some.inj h
      simp only [Prod.mk.injEq] at e_
      obtain ⟨rfl, rfl, rfl⟩ := e_
      clear h
      go_wp2_with (refine code_rd.put_row (w0 := w) w.heap.size rfl 42 (.tmp 6) (.tmp 91) rfl w.heap.size #[.int .i64 0, .slice none 0 0, .int .i64 0, .bool false, .slice none 0 0, .slice none 0 0, .int .i64 0, .int .i64 0, .string (⟨#[]⟩ : ByteArray), .slice none 0 0, .int .i64 0, .int .i64 0, .slice none 0 0] rfl rfl 42 _ (S5.out.row _ List.mem_cons_self).2 (by kernel_rfl) rfl (by simp [Value.oneCell']) S5.out.bel (Nat.le_refl _) ?_; intro WD hgD hoD hzD hbD; (have HGD := Aside0.mk hgD); (have HBD := Aside0.mk hbD); clear hgD hoD hzD hbD)
      refine bodyPost_ret (results_ctt rfl _ _ w.heap.size 42 _ (0, 0) _ rfl HGD.out Try.underlying42 rfl (by kernel_rfl)) rfl ?_
      exact ⟨none, 0, none, 0, none, 0, none, 0, none, 0, rfl, notaryref36_ReadDeriv.zero _ _, HBD.out⟩
    rw [if_pos c_] at h
    obtain rfl := c_
    have d_ : ((0 : Int) != 0) = false := by decide
    clear d_
    have HLP := Aside0.mk h
    obtain ⟨B2, hB2⟩ : ∃ B, B = W5.heap.size := ⟨_, rfl⟩
    have HB2 := Aside0.mk hB2
    have HB3 : Aside0 (w.heap.size + 2 ≤ B2) := ⟨by rw [hB2]; exact blk_lt S5.out.loc⟩
    clear h hB2
    go_wp2
    go_loopg [1, 18] k (fun q v1 v18 w' => ∃ (out : List S42) (pp : Int) (v : Value), v1 = .int .i64 pp ∧ v18 = .int .u64 (out.length : Int) ∧ Aside0 (notaryref36_ReadDeriv.loop (fun p => notaryref36_ReadDeriv.d k l0 p (lv + 1)) q u pp K l out = some (x, p', e')) ∧ Aside0 (notaryref36_ReadStep.St w [(w.heap.size, 42, #[.int .i64 0, .slice none 0 0, .int .i64 0, .bool false, .slice none 0 0, .slice none 0 0, .int .i64 0, .int .i64 0, .string (⟨#[]⟩ : ByteArray), .slice none 0 0, .int .i64 0, .int .i64 0, .slice none 0 0])] (w.heap.size + 1) 42 #[.int .i64 K, .slice A1 l.length c1, .int .i64 0, .bool false, .slice none 0 0, .slice none 0 0, .int .i64 0, .int .i64 0, .string (⟨#[]⟩ : ByteArray), .slice none 0 0, .int .i64 0, .int .i64 0, v] w') ∧ Aside0 (Kd.N k42 42 w' B2 (fun q => B2 ≤ q) v out) ∧ Aside0 (∀ q, q < B2 → q ≠ w.heap.size + 1 → w'.heap[q]? = W5.heap[q]?) ∧ Aside0 (B2 ≤ w'.heap.size))
    case atStart => exact ⟨[], p4, .slice none 0 0, rfl, rfl, HLP, S5, ⟨Kd.N_nil _ _ _ _ _⟩, ⟨fun _ _ _ => rfl⟩, ⟨by rw [HB2.out]; exact Nat.le_refl _⟩⟩
    case round =>
      clear HLP
      obtain ⟨out, pp, v, rfl, rfl, H, S6, HV, HA, HZ⟩ := hrel
      obtain ⟨A6, c6, rfl⟩ := Kd.N_slice HV.out
      cases gk with
      | zero => exact absurd H.out (by simp [notaryref36_ReadDeriv.loop])
      | succ q =>
        have h := H.out
        rw [notaryref36_ReadDeriv.loop] at h
        clear H
        by_cases hc : (out.length : Int) < u
        · rw [if_pos hc] at h
          have hd : decide ((out.length : Int) < u) = true := decide_eq_true hc
          obtain ⟨⟨X, p7, e7⟩, hX, h⟩ := Option.bind_eq_some_iff.mp h
          have HX := Aside0.mk hX
          dsimp only at h
          clear hX hc
          go_upto_region 28 with (go_at_call 22; (with_reducible refine (HIH.out (some ad) c0 l0 pp (lv + 1) X p7 e7 _ (Kd.C_below HR0.out S6.out.bel) HC0.out HX.out).mono ?_); rintro y w7 ⟨D1, d1, D4, d4, D5, d5, D9, d9, D12, d12, rfl, hf, hz⟩; (have S7 := Aside0.mk (S6.out.call hz)); (have F7 := Aside0.mk hf); (have HB7 := Aside0.mk hz); clear hz hf)
          obtain ⟨W8, hW8⟩ : ∃ W : World, W = w7.alloc (.cells #[.int .i64 X.f0, .slice D1 X.f1.length d1, .int .i64 X.f2.f0, .bool X.f2.f1, .slice D4 X.f2.f2.length d4, .slice D5 X.f2.f3.length d5, .int .i64 X.f2.f4.f0, .int .i64 X.f2.f4.f1, .string X.f2.f4.f2, .slice D9 X.f2.f4.f3.length d9, .int .i64 X.f2.f4.f4, .int .i64 X.f2.f4.f5, .slice D12 X.f3.length d12] 42) := ⟨_, rfl⟩
          obtain ⟨g8, hg8⟩ : ∃ g, g = w7.heap.size := ⟨_, rfl⟩
          have hb8 : Below w7.heap.size w7 W8 := by rw [hW8]; exact below_alloc (Below.refl _ _) _
          have S8 := Aside0.mk (S7.out.call hb8)
          have R8 : Aside0 (W8.heap[g8]? = some (.cells #[.int .i64 X.f0, .slice D1 X.f1.length d1, .int .i64 X.f2.f0, .bool X.f2.f1, .slice D4 X.f2.f2.length d4, .slice D5 X.f2.f3.length d5, .int .i64 X.f2.f4.f0, .int .i64 X.f2.f4.f1, .string X.f2.f4.f2, .slice D9 X.f2.f4.f3.length d9, .int .i64 X.f2.f4.f4, .int .i64 X.f2.f4.f5, .slice D12 X.f3.length d12] 42 (0, 0))) := ⟨by rw [hW8, hg8]; exact blk_new _ _⟩
          have F8 := Aside0.mk (Kd.FK_below F7.out hb8)
          have HB8 := Aside0.mk (below_step HB7.out hb8)
          rw [← hW8, ← hg8]
          clear hW8 hg8 hb8 S7 F7 HB7

          by_cases c_ : e7 = 0
          case neg =>
            rw [if_neg c_] at h
            have d_ : (e7 != 0) = true := bne_iff_ne.mpr c_
            clear c_

            have e_ := Option.some.inj h
            simp only [Prod.mk.injEq] at e_
            obtain ⟨rfl, rfl, rfl⟩ := e_
            clear h
            go_wp2_with (refine code_rd.put_row (w0 := w) w.heap.size rfl 42 (.tmp 6) (.tmp 109) rfl w.heap.size #[.int .i64 0, .slice none 0 0, .int .i64 0, .bool false, .slice none 0 0, .slice none 0 0, .int .i64 0, .int .i64 0, .string (⟨#[]⟩ : ByteArray), .slice none 0 0, .int .i64 0, .int .i64 0, .slice none 0 0] rfl rfl 42 _ (S8.out.row _ List.mem_cons_self).2 (by kernel_rfl) rfl (by simp [Value.oneCell']) S8.out.bel (Nat.le_refl _) ?_; intro WD hgD hoD hzD hbD; (have HGD := Aside0.mk hgD); (have HBD := Aside0.mk hbD); clear hgD hoD hzD hbD)
            refine bodyPost_ret (results_ctt rfl _ _ w.heap.size 42 _ (0, 0) _ rfl HGD.out Try.underlying42 rfl (by kernel_rfl)) rfl ?_
            exact ⟨none, 0, none, 0, none, 0, none, 0, none, 0, rfl, notaryref36_ReadDeriv.zero _ _, HBD.out⟩
          rw [if_pos c_] at h
          obtain rfl := c_
          have d_ : ((0 : Int) != 0) = false := by decide
          clear d_
          by_cases ho : out.length < 500000000
          case neg => rw [if_neg ho] at h; exact absurd h (by simp)
          rw [if_pos ho] at h
          have hw : IntKind.u64.wrap ((out.length : Int) + 1) = (out.length : Int) + 1 := IntWalk.u64_in _ (by omega)
          obtain ⟨o2, ho2⟩ : ∃ o, o = out ++ [X] := ⟨_, rfl⟩
          rw [← ho2] at h
          have HO2 := Aside0.mk ho2
          have H2 := Aside0.mk h
          have HO := Aside0.mk ho
          have HV8 := Aside0.mk (Kd.N_below HV.out HB8.out)
          have x12 := S8.out.d0 12 rfl
          clear h ho ho2
          go_wp2_with (first | ((with_reducible refine gate_builtin (b := .append) (xs := #[.tmp 112, .tmp 114]) rfl ?_); at_builtin; refine Kd.N_append k42 (w0 := W8) B2 rfl (.tmp 112) (.tmp 114) 40 42 (.agg #[.int .i64 0, .slice none 0 0, .int .i64 0, .bool false, .slice none 0 0, .slice none 0 0, .int .i64 0, .int .i64 0, .string ⟨#[]⟩, .slice none 0 0, .int .i64 0, .int .i64 0, .slice none 0 0]) 192 rfl Try.underlying40 code_rr.infoD rfl (by decide) (by omega) _ out X [.int .i64 X.f0, .slice D1 X.f1.length d1, .int .i64 X.f2.f0, .bool X.f2.f1, .slice D4 X.f2.f2.length d4, .slice D5 X.f2.f3.length d5, .int .i64 X.f2.f4.f0, .int .i64 X.f2.f4.f1, .string X.f2.f4.f2, .slice D9 X.f2.f4.f3.length d9, .int .i64 X.f2.f4.f4, .int .i64 X.f2.f4.f5, .slice D12 X.f3.length d12] (fun z => B2 ≤ z) (fun z => wr.heap.size ≤ z) rfl rfl F8.out (fun z hz => ⟨by have h1 : wr.heap.size ≤ z := hz; have := HZ.out; omega, fun e => by have := Kd.N_lt HV.out z e.symm; have h1 : wr.heap.size ≤ z := hz; omega⟩) (fun z hz => by have := HB8.out.size; have := HZ.out; omega) HV8.out (Below.refl _ _) (by have := HB8.out.size; have := HZ.out; omega) (by have := HO.out; omega) ?_; intro v9 w9 hn9 hb9 hg9 hat9; rw [← HO2.out] at hn9; obtain ⟨A9, c9, rfl⟩ := Kd.N_slice hn9; (have HN9 := Aside0.mk hn9); (have s9 := notaryref36_ReadDeriv.low S8.out hb9 (by have := HB3.out; omega) (fun r hr => by obtain rfl := List.mem_singleton.1 hr; show w.heap.size < B2; have := HB3.out; omega) (by have := HB3.out; omega)); (have x12' := s9.d0 12 rfl); (have f12' := s9.fd 12); (have S9 := Aside0.mk s9); (have HB9 := Aside0.mk hb9); clear hn9 hb9 hg9 hat9 s9) | (refine wpList_load_row rfl 42 (.tmp 19) rfl g8 rfl 42 _ (0, 0) _ R8.out Try.underlying42 rfl (by kernel_rfl) ?_))
          go_roundg q
          case measure => omega
          case rel => exact ⟨o2, p7, _, rfl, by rw [HO2.out]; simp, H2, ⟨S9.out.put 12 _ rfl⟩, ⟨Kd.N_far (p := ⟨w.heap.size + 1, 12, none⟩) HN9.out (fun z hz => by have h1 : B2 ≤ z := hz; show z ≠ w.heap.size + 1; have := HB3.out; omega) _⟩, ⟨fun z hz hne => (Below.heap_setCell w9 ⟨w.heap.size + 1, 12, none⟩ _ z hne).trans ((HB9.out.block z hz).trans ((HB8.out.block z (by have := HZ.out; omega)).trans (HA.out z hz hne)))⟩, ⟨by have := HB9.out.size; have := HB8.out.size; have := HZ.out; simp; omega⟩⟩
        · rw [if_neg hc] at h
          have hd : decide ((out.length : Int) < u) = false := decide_eq_false hc
          clear hc

          have e_ := Option.some.inj h
          simp only [Prod.mk.injEq] at e_
          obtain ⟨rfl, rfl, rfl⟩ := e_
          clear h
          go_wp2_with (first | (refine code_rd.put_row (w0 := w) w.heap.size rfl 42 (.tmp 6) (.tmp 118) rfl w.heap.size #[.int .i64 K, .slice A1 l.length c1, .int .i64 0, .bool false, .slice none 0 0, .slice none 0 0, .int .i64 0, .int .i64 0, .string (⟨#[]⟩ : ByteArray), .slice none 0 0, .int .i64 0, .int .i64 0, .slice A6 out.length c6] rfl rfl 42 _ (S6.out.row _ List.mem_cons_self).2 (by kernel_rfl) rfl (by simp [Value.oneCell']) S6.out.bel (Nat.le_refl _) ?_; intro WD hgD hoD hzD hbD; (have HGD := Aside0.mk hgD); (have HOD := Aside0.mk hoD); (have HBD := Aside0.mk hbD); clear hgD hoD hzD hbD) | (refine wpList_load_row rfl 42 (.tmp 9) rfl (w.heap.size + 1) rfl 42 _ (0, 0) _ S6.out.loc Try.underlying42 rfl (by kernel_rfl) ?_))
          refine bodyPost_ret (results_ctt rfl _ _ w.heap.size 42 _ (0, 0) _ rfl HGD.out Try.underlying42 rfl (by kernel_rfl)) rfl ?_
          exact ⟨A1, c1, none, 0, none, 0, none, 0, A6, c6, rfl, k42_mkF WD _ ⟨K, l, ⟨0, false, [], [], ⟨0, 0, ⟨#[]⟩, [], 0, 0⟩⟩, out⟩ (A4 := none) (c4 := 0) (A5 := none) (c5 := 0) (A9 := none) (c9 := 0) L1.out (Kd.F_mono (Kd.F_step F5.out (fun z hz hlt => (HOD.out z (by have h1 : w.heap.size + 2 ≤ z := hz; omega)).trans (HA.out z (by rw [HB2.out]; exact hlt) (by have h1 : w.heap.size + 2 ≤ z := hz; omega)))) (fun z hz => by have h1 : w.heap.size + 2 ≤ z := hz; show w.heap.size ≤ z; omega)) (Nat.le_refl _) (Kd.F_nil _ _ _) (Nat.le_refl _) (Kd.F_nil _ _ _) (Nat.le_refl _) (Kd.F_nil _ _ _) (Kd.N_reads' HV.out).2.1 (Kd.F_mono (code_rs.Fo (Kd.N_F HV.out) HOD.out (by have := HB3.out; omega)) (fun z hz => by have h1 : B2 ≤ z := hz; show w.heap.size ≤ z; have := HB3.out; omega)), HBD.out⟩
  · rw [if_neg hk3] at hl
    have b2 : (K != 2) = false := bne_eq_false_iff_eq.mpr (by omega)
    have b4 : (K == 3) = false := beq_eq_false_iff_ne.mpr hk3
    have e_ := Option.some.inj hl
    simp only [Prod.mk.injEq] at e_
    obtain ⟨rfl, rfl, rfl⟩ := e_
    rw [if_pos rfl] at h
    clear hl hk2 hk3
    have F2 : Kd.F (Kd.int .i64) W2 (fun q => w.heap.size + 2 ≤ q) none ([] : List Int).length [] := Kd.F_nil _ _ _
    obtain ⟨⟨u, p4, e4⟩, hn, h⟩ := Option.bind_eq_some_iff.mp h
    have HN := Aside0.mk hn
    dsimp only at h
    clear hn
    go_upto_region 22 with (go_at_call 46; (with_reducible refine (notaryref01_Get.calls k (some ad) c0 l0 ((n : Int) + 1) u p4 e4 _ (Kd.C_below HR0.out S2.out.bel) HC0.out HN.out).mono ?_); rintro y w5 ⟨rfl, hz⟩; obtain ⟨m5, rfl⟩ := hz.out; clear hz)
    obtain ⟨W5, hW5⟩ : ∃ W : World, W = W2.drewN m5 := ⟨_, rfl⟩
    have hb5 : Below W2.heap.size W2 W5 := by rw [hW5]; exact pw_below_drewN (Below.refl _ _) m5
    have S5 := Aside0.mk (S2.out.call hb5)
    have F5 := Aside0.mk (Kd.F_below F2 hb5)
    rw [← hW5]
    clear hW5 hb5 HN

    by_cases c_ : e4 = 0
    case neg =>
      rw [if_neg c_] at h
      have d_ : (e4 != 0) = true := bne_iff_ne.mpr c_
      clear c_

      have e_ := Option.some.inj h
      simp only [Prod.mk.injEq] at e_
      obtain ⟨rfl, rfl, rfl⟩ := e_
      clear h
      go_wp2_with (refine code_rd.put_row (w0 := w) w.heap.size rfl 42 (.tmp 6) (.tmp 91) rfl w.heap.size #[.int .i64 0, .slice none 0 0, .int .i64 0, .bool false, .slice none 0 0, .slice none 0 0, .int .i64 0, .int .i64 0, .string (⟨#[]⟩ : ByteArray), .slice none 0 0, .int .i64 0, .int .i64 0, .slice none 0 0] rfl rfl 42 _ (S5.out.row _ List.mem_cons_self).2 (by kernel_rfl) rfl (by simp [Value.oneCell']) S5.out.bel (Nat.le_refl _) ?_; intro WD hgD hoD hzD hbD; (have HGD := Aside0.mk hgD); (have HBD := Aside0.mk hbD); clear hgD hoD hzD hbD)
      refine bodyPost_ret (results_ctt rfl _ _ w.heap.size 42 _ (0, 0) _ rfl HGD.out Try.underlying42 rfl (by kernel_rfl)) rfl ?_
      exact ⟨none, 0, none, 0, none, 0, none, 0, none, 0, rfl, notaryref36_ReadDeriv.zero _ _, HBD.out⟩
    rw [if_pos c_] at h
    obtain rfl := c_
    have d_ : ((0 : Int) != 0) = false := by decide
    clear d_
    have HLP := Aside0.mk h
    obtain ⟨B2, hB2⟩ : ∃ B, B = W5.heap.size := ⟨_, rfl⟩
    have HB2 := Aside0.mk hB2
    have HB3 : Aside0 (w.heap.size + 2 ≤ B2) := ⟨by rw [hB2]; exact blk_lt S5.out.loc⟩
    clear h hB2
    go_wp2
    go_loopg [1, 18] k (fun q v1 v18 w' => ∃ (out : List S42) (pp : Int) (v : Value), v1 = .int .i64 pp ∧ v18 = .int .u64 (out.length : Int) ∧ Aside0 (notaryref36_ReadDeriv.loop (fun p => notaryref36_ReadDeriv.d k l0 p (lv + 1)) q u pp K [] out = some (x, p', e')) ∧ Aside0 (notaryref36_ReadStep.St w [(w.heap.size, 42, #[.int .i64 0, .slice none 0 0, .int .i64 0, .bool false, .slice none 0 0, .slice none 0 0, .int .i64 0, .int .i64 0, .string (⟨#[]⟩ : ByteArray), .slice none 0 0, .int .i64 0, .int .i64 0, .slice none 0 0])] (w.heap.size + 1) 42 #[.int .i64 K, .slice none 0 0, .int .i64 0, .bool false, .slice none 0 0, .slice none 0 0, .int .i64 0, .int .i64 0, .string (⟨#[]⟩ : ByteArray), .slice none 0 0, .int .i64 0, .int .i64 0, v] w') ∧ Aside0 (Kd.N k42 42 w' B2 (fun q => B2 ≤ q) v out) ∧ Aside0 (∀ q, q < B2 → q ≠ w.heap.size + 1 → w'.heap[q]? = W5.heap[q]?) ∧ Aside0 (B2 ≤ w'.heap.size))
    case atStart => exact ⟨[], p4, .slice none 0 0, rfl, rfl, HLP, S5, ⟨Kd.N_nil _ _ _ _ _⟩, ⟨fun _ _ _ => rfl⟩, ⟨by rw [HB2.out]; exact Nat.le_refl _⟩⟩
    case round =>
      clear HLP
      obtain ⟨out, pp, v, rfl, rfl, H, S6, HV, HA, HZ⟩ := hrel
      obtain ⟨A6, c6, rfl⟩ := Kd.N_slice HV.out
      cases gk with
      | zero => exact absurd H.out (by simp [notaryref36_ReadDeriv.loop])
      | succ q =>
        have h := H.out
        rw [notaryref36_ReadDeriv.loop] at h
        clear H
        by_cases hc : (out.length : Int) < u
        · rw [if_pos hc] at h
          have hd : decide ((out.length : Int) < u) = true := decide_eq_true hc
          obtain ⟨⟨X, p7, e7⟩, hX, h⟩ := Option.bind_eq_some_iff.mp h
          have HX := Aside0.mk hX
          dsimp only at h
          clear hX hc
          go_upto_region 28 with (go_at_call 22; (with_reducible refine (HIH.out (some ad) c0 l0 pp (lv + 1) X p7 e7 _ (Kd.C_below HR0.out S6.out.bel) HC0.out HX.out).mono ?_); rintro y w7 ⟨D1, d1, D4, d4, D5, d5, D9, d9, D12, d12, rfl, hf, hz⟩; (have S7 := Aside0.mk (S6.out.call hz)); (have F7 := Aside0.mk hf); (have HB7 := Aside0.mk hz); clear hz hf)
          obtain ⟨W8, hW8⟩ : ∃ W : World, W = w7.alloc (.cells #[.int .i64 X.f0, .slice D1 X.f1.length d1, .int .i64 X.f2.f0, .bool X.f2.f1, .slice D4 X.f2.f2.length d4, .slice D5 X.f2.f3.length d5, .int .i64 X.f2.f4.f0, .int .i64 X.f2.f4.f1, .string X.f2.f4.f2, .slice D9 X.f2.f4.f3.length d9, .int .i64 X.f2.f4.f4, .int .i64 X.f2.f4.f5, .slice D12 X.f3.length d12] 42) := ⟨_, rfl⟩
          obtain ⟨g8, hg8⟩ : ∃ g, g = w7.heap.size := ⟨_, rfl⟩
          have hb8 : Below w7.heap.size w7 W8 := by rw [hW8]; exact below_alloc (Below.refl _ _) _
          have S8 := Aside0.mk (S7.out.call hb8)
          have R8 : Aside0 (W8.heap[g8]? = some (.cells #[.int .i64 X.f0, .slice D1 X.f1.length d1, .int .i64 X.f2.f0, .bool X.f2.f1, .slice D4 X.f2.f2.length d4, .slice D5 X.f2.f3.length d5, .int .i64 X.f2.f4.f0, .int .i64 X.f2.f4.f1, .string X.f2.f4.f2, .slice D9 X.f2.f4.f3.length d9, .int .i64 X.f2.f4.f4, .int .i64 X.f2.f4.f5, .slice D12 X.f3.length d12] 42 (0, 0))) := ⟨by rw [hW8, hg8]; exact blk_new _ _⟩
          have F8 := Aside0.mk (Kd.FK_below F7.out hb8)
          have HB8 := Aside0.mk (below_step HB7.out hb8)
          rw [← hW8, ← hg8]
          clear hW8 hg8 hb8 S7 F7 HB7

          by_cases c_ : e7 = 0
          case neg =>
            rw [if_neg c_] at h
            have d_ : (e7 != 0) = true := bne_iff_ne.mpr c_
            clear c_

            have e_ := Option.some.inj h
            simp only [Prod.mk.injEq] at e_
            obtain ⟨rfl, rfl, rfl⟩ := e_
            clear h
            go_wp2_with (refine code_rd.put_row (w0 := w) w.heap.size rfl 42 (.tmp 6) (.tmp 109) rfl w.heap.size #[.int .i64 0, .slice none 0 0, .int .i64 0, .bool false, .slice none 0 0, .slice none 0 0, .int .i64 0, .int .i64 0, .string (⟨#[]⟩ : ByteArray), .slice none 0 0, .int .i64 0, .int .i64 0, .slice none 0 0] rfl rfl 42 _ (S8.out.row _ List.mem_cons_self).2 (by kernel_rfl) rfl (by simp [Value.oneCell']) S8.out.bel (Nat.le_refl _) ?_; intro WD hgD hoD hzD hbD; (have HGD := Aside0.mk hgD); (have HBD := Aside0.mk hbD); clear hgD hoD hzD hbD)
            refine bodyPost_ret (results_ctt rfl _ _ w.heap.size 42 _ (0, 0) _ rfl HGD.out Try.underlying42 rfl (by kernel_rfl)) rfl ?_
            exact ⟨none, 0, none, 0, none, 0, none, 0, none, 0, rfl, notaryref36_ReadDeriv.zero _ _, HBD.out⟩
          rw [if_pos c_] at h
          obtain rfl := c_
          have d_ : ((0 : Int) != 0) = false := by decide
          clear d_
          by_cases ho : out.length < 500000000
          case neg => rw [if_neg ho] at h; exact absurd h (by simp)
          rw [if_pos ho] at h
          have hw : IntKind.u64.wrap ((out.length : Int) + 1) = (out.length : Int) + 1 := IntWalk.u64_in _ (by omega)
          obtain ⟨o2, ho2⟩ : ∃ o, o = out ++ [X] := ⟨_, rfl⟩
          rw [← ho2] at h
          have HO2 := Aside0.mk ho2
          have H2 := Aside0.mk h
          have HO := Aside0.mk ho
          have HV8 := Aside0.mk (Kd.N_below HV.out HB8.out)
          have x12 := S8.out.d0 12 rfl
          clear h ho ho2
          go_wp2_with (first | ((with_reducible refine gate_builtin (b := .append) (xs := #[.tmp 112, .tmp 114]) rfl ?_); at_builtin; refine Kd.N_append k42 (w0 := W8) B2 rfl (.tmp 112) (.tmp 114) 40 42 (.agg #[.int .i64 0, .slice none 0 0, .int .i64 0, .bool false, .slice none 0 0, .slice none 0 0, .int .i64 0, .int .i64 0, .string ⟨#[]⟩, .slice none 0 0, .int .i64 0, .int .i64 0, .slice none 0 0]) 192 rfl Try.underlying40 code_rr.infoD rfl (by decide) (by omega) _ out X [.int .i64 X.f0, .slice D1 X.f1.length d1, .int .i64 X.f2.f0, .bool X.f2.f1, .slice D4 X.f2.f2.length d4, .slice D5 X.f2.f3.length d5, .int .i64 X.f2.f4.f0, .int .i64 X.f2.f4.f1, .string X.f2.f4.f2, .slice D9 X.f2.f4.f3.length d9, .int .i64 X.f2.f4.f4, .int .i64 X.f2.f4.f5, .slice D12 X.f3.length d12] (fun z => B2 ≤ z) (fun z => wr.heap.size ≤ z) rfl rfl F8.out (fun z hz => ⟨by have h1 : wr.heap.size ≤ z := hz; have := HZ.out; omega, fun e => by have := Kd.N_lt HV.out z e.symm; have h1 : wr.heap.size ≤ z := hz; omega⟩) (fun z hz => by have := HB8.out.size; have := HZ.out; omega) HV8.out (Below.refl _ _) (by have := HB8.out.size; have := HZ.out; omega) (by have := HO.out; omega) ?_; intro v9 w9 hn9 hb9 hg9 hat9; rw [← HO2.out] at hn9; obtain ⟨A9, c9, rfl⟩ := Kd.N_slice hn9; (have HN9 := Aside0.mk hn9); (have s9 := notaryref36_ReadDeriv.low S8.out hb9 (by have := HB3.out; omega) (fun r hr => by obtain rfl := List.mem_singleton.1 hr; show w.heap.size < B2; have := HB3.out; omega) (by have := HB3.out; omega)); (have x12' := s9.d0 12 rfl); (have f12' := s9.fd 12); (have S9 := Aside0.mk s9); (have HB9 := Aside0.mk hb9); clear hn9 hb9 hg9 hat9 s9) | (refine wpList_load_row rfl 42 (.tmp 19) rfl g8 rfl 42 _ (0, 0) _ R8.out Try.underlying42 rfl (by kernel_rfl) ?_))
          go_roundg q
          case measure => omega
          case rel => exact ⟨o2, p7, _, rfl, by rw [HO2.out]; simp, H2, ⟨S9.out.put 12 _ rfl⟩, ⟨Kd.N_far (p := ⟨w.heap.size + 1, 12, none⟩) HN9.out (fun z hz => by have h1 : B2 ≤ z := hz; show z ≠ w.heap.size + 1; have := HB3.out; omega) _⟩, ⟨fun z hz hne => (Below.heap_setCell w9 ⟨w.heap.size + 1, 12, none⟩ _ z hne).trans ((HB9.out.block z hz).trans ((HB8.out.block z (by have := HZ.out; omega)).trans (HA.out z hz hne)))⟩, ⟨by have := HB9.out.size; have := HB8.out.size; have := HZ.out; simp; omega⟩⟩
        · rw [if_neg hc] at h
          have hd : decide ((out.length : Int) < u) = false := decide_eq_false hc
          clear hc

          have e_ := Option.some.inj h
          simp only [Prod.mk.injEq] at e_
          obtain ⟨rfl, rfl, rfl⟩ := e_
          clear h
          go_wp2_with (first | (refine code_rd.put_row (w0 := w) w.heap.size rfl 42 (.tmp 6) (.tmp 118) rfl w.heap.size #[.int .i64 K, .slice none 0 0, .int .i64 0, .bool false, .slice none 0 0, .slice none 0 0, .int .i64 0, .int .i64 0, .string (⟨#[]⟩ : ByteArray), .slice none 0 0, .int .i64 0, .int .i64 0, .slice A6 out.length c6] rfl rfl 42 _ (S6.out.row _ List.mem_cons_self).2 (by kernel_rfl) rfl (by simp [Value.oneCell']) S6.out.bel (Nat.le_refl _) ?_; intro WD hgD hoD hzD hbD; (have HGD := Aside0.mk hgD); (have HOD := Aside0.mk hoD); (have HBD := Aside0.mk hbD); clear hgD hoD hzD hbD) | (refine wpList_load_row rfl 42 (.tmp 9) rfl (w.heap.size + 1) rfl 42 _ (0, 0) _ S6.out.loc Try.underlying42 rfl (by kernel_rfl) ?_))
          refine bodyPost_ret (results_ctt rfl _ _ w.heap.size 42 _ (0, 0) _ rfl HGD.out Try.underlying42 rfl (by kernel_rfl)) rfl ?_
          exact ⟨none, 0, none, 0, none, 0, none, 0, A6, c6, rfl, k42_mkF WD _ ⟨K, [], ⟨0, false, [], [], ⟨0, 0, ⟨#[]⟩, [], 0, 0⟩⟩, out⟩ (A4 := none) (c4 := 0) (A5 := none) (c5 := 0) (A9 := none) (c9 := 0) (Nat.le_refl _) (Kd.F_mono (Kd.F_step F5.out (fun z hz hlt => (HOD.out z (by have h1 : w.heap.size + 2 ≤ z := hz; omega)).trans (HA.out z (by rw [HB2.out]; exact hlt) (by have h1 : w.heap.size + 2 ≤ z := hz; omega)))) (fun z hz => by have h1 : w.heap.size + 2 ≤ z := hz; show w.heap.size ≤ z; omega)) (Nat.le_refl _) (Kd.F_nil _ _ _) (Nat.le_refl _) (Kd.F_nil _ _ _) (Nat.le_refl _) (Kd.F_nil _ _ _) (Kd.N_reads' HV.out).2.1 (Kd.F_mono (code_rs.Fo (Kd.N_F HV.out) HOD.out (by have := HB3.out; omega)) (fun z hz => by have h1 : B2 ≤ z := hz; show w.heap.size ≤ z; have := HB3.out; omega)), HBD.out⟩
theorem notaryref36_ReadDeriv.calls (k : Nat) (A0 : Option Addr) (c0 : Nat) (l0 : List Int) (a1 : Int) (a2 : Int) (r1 : Int) (r2 : List Int) (r3 : Int) (r4 : Bool) (r5 : List Int) (r6 : List Int) (r7 : Int) (r8 : Int) (r9 : ByteArray) (r10 : List (S25)) (r11 : Int) (r12 : Int) (r13 : List (S42)) (r14 : Int) (r15 : Int) (w : World) (hr0 : Kd.C (Kd.int .u8) w A0 l0.length l0) (hc0 : l0.length ≤ c0) (h : notaryref36_ReadDeriv.f k l0 a1 a2 = some (r1, r2, r3, r4, r5, r6, r7, r8, r9, r10, r11, r12, r13, r14, r15)) :
    Calls Try.prog 22 #[.slice A0 l0.length c0, .int .i64 a1, .int .i64 a2] w fun e w' => ∃ v1_ v4_ v5_ v9_ v12_ : Value, e = .returned (.tuple #[.agg #[.int .i64 r1, v1_, .int .i64 r3, .bool r4, v4_, v5_, .int .i64 r7, .int .i64 r8, .string r9, v9_, .int .i64 r11, .int .i64 r12, v12_], .int .i64 r14, .int .i64 r15]) ∧ Kd.V (Kd.int .i64) 3 w' w.heap.size (fun k_ => (w.heap.size ≤ k_)) v1_ r2 ∧ Kd.V (Kd.int .i64) 3 w' w.heap.size (fun k_ => (w.heap.size ≤ k_)) v4_ r5 ∧ Kd.V (Kd.int .i64) 3 w' w.heap.size (fun k_ => (w.heap.size ≤ k_)) v5_ r6 ∧ Kd.V k25 25 w' w.heap.size (fun k_ => (w.heap.size ≤ k_)) v9_ r10 ∧ Kd.V k42 42 w' w.heap.size (fun k_ => (w.heap.size ≤ k_)) v12_ r13 ∧ Below w.heap.size w w' := by
  obtain ⟨⟨x, p, e⟩, hs, h⟩ := Option.bind_eq_some_iff.mp h
  have e_ := Option.some.inj h
  simp only [Prod.mk.injEq] at e_
  obtain ⟨rfl, rfl, rfl, rfl, rfl, rfl, rfl, rfl, rfl, rfl, rfl, rfl, rfl, rfl, rfl⟩ := e_
  refine (notaryref36_ReadDeriv.d_calls k A0 c0 l0 a1 a2 x _ _ w hr0 hc0 hs).mono ?_
  rintro y w' ⟨A1, c1, A4, c4, A5, c5, A9, c9, A12, c12, rfl, hf, hb⟩
  obtain ⟨B1, n1, B4, n4, B5, n5, B9, n9, B12, n12, he, l1, f1, l4, f4, l5, f5, l9, f9, l12, f12⟩ := k42_openF hf
  have he2 : ([.int .i64 x.f0, .slice A1 x.f1.length c1, .int .i64 x.f2.f0, .bool x.f2.f1, .slice A4 x.f2.f2.length c4, .slice A5 x.f2.f3.length c5, .int .i64 x.f2.f4.f0, .int .i64 x.f2.f4.f1, .string x.f2.f4.f2, .slice A9 x.f2.f4.f3.length c9, .int .i64 x.f2.f4.f4, .int .i64 x.f2.f4.f5, .slice A12 x.f3.length c12] : List Value) = [.int .i64 x.f0, .slice B1 x.f1.length n1, .int .i64 x.f2.f0, .bool x.f2.f1, .slice B4 x.f2.f2.length n4, .slice B5 x.f2.f3.length n5, .int .i64 x.f2.f4.f0, .int .i64 x.f2.f4.f1, .string x.f2.f4.f2, .slice B9 x.f2.f4.f3.length n9, .int .i64 x.f2.f4.f4, .int .i64 x.f2.f4.f5, .slice B12 x.f3.length n12] := he
  simp only [List.cons.injEq, Value.slice.injEq, and_true, true_and] at he2
  obtain ⟨⟨rfl, rfl⟩, ⟨rfl, rfl⟩, ⟨rfl, rfl⟩, ⟨rfl, rfl⟩, rfl, rfl⟩ := he2
  exact ⟨_, _, _, _, _, rfl, Kd.V_mk l1 f1, Kd.V_mk l4 f4, Kd.V_mk l5 f5, Kd.V_mk l9 f9, Kd.V_mk l12 f12, hb⟩

/-! ### notarylaw36_CodeReads: function 5 (given) -/
-- walked by hand elsewhere

end Go.Proofs.Ytiamcmjdoobaeaa.PCe
