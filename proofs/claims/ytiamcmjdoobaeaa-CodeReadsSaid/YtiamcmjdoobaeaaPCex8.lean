-- SLIM: a printed text of which the unused ways are cut off
-- PRINTED by print.py (a twelfth state) out of the translation. Not trusted: Lean checks it.
import Derived.Test.YtiamcmjdoobaeaaPCex0
import Derived.Test.YtiamcmjdoobaeaaPCex1
import Derived.Test.YtiamcmjdoobaeaaPCex4
import Derived.Test.YtiamcmjdoobaeaaPCex7
namespace Go.Proofs.Ytiamcmjdoobaeaa.PCe
open Go.RowKit Go.Proofs.YtiamcmjdoobaeaaW.PrintWords Go.Proofs.YtiamcmjdoobaeaaW.PrintLast Go.Proofs.YtiamcmjdoobaeaaW.PrintMore
attribute [local go_sem] max2_int min2_int max_two min_two max_three min_three max_four min_four   -- for this text's walks alone
set_option linter.unusedVariables false
set_option linter.unusedSimpArgs false

/-! ### code_dw: function 89 (given) -/
/-- a number of a list, behind what was written -/
def code_dw.index (k : Nat) (n : Int) (s : List Int × Int) : Option (List Int × Int) := if s.1.length < 1000000000 then (if n < 0 ∨ n > 2147483647 then some (s.1, if s.2 = 0 then 13 else s.2) else (varint_Bytes.f k n).bind fun b => if b.length ≤ 1000 then some (s.1 ++ b, s.2) else none) else none
def code_dw.idxs (k : Nat) : List Int → List Int × Int → Option (List Int × Int)
  | [], s => some s
  | n :: l, s => if s.2 ≠ 0 then some s else (code_dw.index k n s).bind fun s' => code_dw.idxs k l s'
def code_dw.list (k : Nat) (l : List Int) (s : List Int × Int) : Option (List Int × Int) := if s.1.length < 1000000000 ∧ l.length < 1000000000 then (varint_Bytes.f k (l.length : Int)).bind fun b => if b.length ≤ 1000 then code_dw.idxs k l (s.1 ++ b, s.2) else none else none
theorem code_dw.own {B g : Nat} {w w' : World} {O : Nat → Prop} {b : List Int} {e : Int} {x : Ending} (h : code_wr.Post B g w O b e x w') : x = .returned (.tuple #[]) := by
  obtain ⟨O', h1, _⟩ := h
  exact h1
set_option maxHeartbeats 4000000 in
set_option maxRecDepth 100000 in
theorem code_dw.index_calls (k B g : Nat) (n : Int) (s r : List Int × Int) (O : Nat → Prop) (w : World) (hB : B ≤ w.heap.size) (hI : code_wr.I B g w s.1 s.2 O) (h : code_dw.index k n s = some r) :
    Calls Try.prog 89 #[.pointer (some ⟨g, 0, none⟩), .int .i64 n] w (code_wr.Post B g w O r.1 r.2) := by
  have HI := Aside0.mk hI
  have HB := Aside0.mk hB
  obtain ⟨b, e⟩ := s
  unfold code_dw.index at h
  by_cases hs : b.length < 1000000000
  case neg => rw [if_neg hs] at h; exact absurd h (by simp)
  rw [if_pos hs] at h
  have HS := Aside0.mk hs
  dsimp only at h hI HI
  clear hI hB hs
  by_cases hn : n < 0 ∨ n > 2147483647
  · rw [if_pos hn] at h
    obtain rfl := Option.some.inj h
    obtain ⟨e1, he1⟩ : ∃ e1 : Int, e1 = (if e = 0 then 13 else e) := ⟨_, rfl⟩
    have HE := Aside0.mk he1
    clear h
    dsimp only
    rw [← he1]
    clear he1
    by_cases hn1 : n < 0
    · have hd1 : decide (n < 0) = true := decide_eq_true hn1
      clear hn hn1
      go_enter Try.func89, Try.ntmps89
      go_wp2_with (go_at_call 65; (with_reducible refine (code_wr.fail_calls B g b e 13 O _ HI.out).mono ?_); rintro y w2 hp2; rw [← HE.out] at hp2; (have hy := code_dw.own hp2); subst hy; (have HP2 := Aside0.mk hp2); clear hp2)
      go_end0
      exact HP2.out
    · have hd1 : decide (n < 0) = false := decide_eq_false hn1
      have hd2 : decide (2147483647 < n) = true := decide_eq_true (hn.resolve_left hn1)
      clear hn hn1
      go_enter Try.func89, Try.ntmps89
      go_wp2_with (go_at_call 65; (with_reducible refine (code_wr.fail_calls B g b e 13 O _ HI.out).mono ?_); rintro y w2 hp2; rw [← HE.out] at hp2; (have hy := code_dw.own hp2); subst hy; (have HP2 := Aside0.mk hp2); clear hp2)
      go_end0
      exact HP2.out
  rw [if_neg hn] at h
  have hd1 : decide (n < 0) = false := decide_eq_false (fun h => hn (.inl h))
  have hd2 : decide (2147483647 < n) = false := decide_eq_false (fun h => hn (.inr h))
  have hw : IntKind.u64.wrap n = n := IntWalk.u64_in _ (by omega)
  clear hn
  obtain ⟨nb, hnb, h⟩ := Option.bind_eq_some_iff.mp h
  by_cases hl : nb.length ≤ 1000
  case neg => rw [if_neg hl] at h; exact absurd h (by simp)
  rw [if_pos hl] at h
  obtain rfl := Option.some.inj h
  have HNB := Aside0.mk hnb
  have HL := Aside0.mk hl
  clear h hnb hl
  go_enter Try.func89, Try.ntmps89
  go_wp2_with (go_at_call 66; (with_reducible refine (code_wr.number_calls k B g b e O n nb _ HB.out HI.out (by have := HS.out; have := HL.out; omega) HNB.out).mono ?_); rintro y w2 hp2; (have hy := code_dw.own hp2); subst hy; (have HP2 := Aside0.mk hp2); clear hp2)
  go_end0
  exact HP2.out
set_option maxHeartbeats 4000000 in
set_option maxRecDepth 100000 in
theorem code_dw.list_calls (k B g : Nat) (A : Option Addr) (c : Nat) (l : List Int) (s r : List Int × Int) (O : Nat → Prop) (w : World) (hB : B ≤ w.heap.size) (hF : Kd.F (Kd.int .i64) w (fun q => q < B) A l.length l) (hc : l.length ≤ c) (hI : code_wr.I B g w s.1 s.2 O) (h : code_dw.list k l s = some r) :
    Calls Try.prog 77 #[.pointer (some ⟨g, 0, none⟩), .slice A l.length c] w (code_wr.Post B g w O r.1 r.2) := by
  have hu := Try.underlying65
  have HOW : Aside0 (∀ q, O q → B ≤ q) := ⟨fun q hq => (code_wr.own hI q hq).1⟩
  have HI := Aside0.mk hI
  have HB := Aside0.mk hB
  have HF := Aside0.mk hF
  obtain ⟨b, e⟩ := s
  unfold code_dw.list at h
  by_cases hs : b.length < 1000000000 ∧ l.length < 1000000000
  case neg => rw [if_neg hs] at h; exact absurd h (by simp)
  rw [if_pos hs] at h
  have HS := Aside0.mk hs
  dsimp only at h hI HI
  obtain ⟨nb, hnb, h⟩ := Option.bind_eq_some_iff.mp h
  by_cases hl : nb.length ≤ 1000
  case neg => rw [if_neg hl] at h; exact absurd h (by simp)
  rw [if_pos hl] at h
  have hwl : IntKind.u64.wrap (l.length : Int) = (l.length : Int) := IntWalk.u64_in _ (by omega)
  have HNB := Aside0.mk hnb
  have HL := Aside0.mk hl
  have H := Aside0.mk h
  clear hI hB hs hF h hnb hl
  go_enter Try.func77, Try.ntmps77
  go_wp2_with (go_at_call 66; (with_reducible refine (code_wr.number_calls k B g b e O (l.length : Int) nb _ HB.out HI.out (by have := HS.out; have := HL.out; omega) HNB.out).mono ?_); rintro y w2 hp2; (have hy := code_dw.own hp2); subst hy; (have HP2 := Aside0.mk hp2); clear hp2)
  go_loopg [13] l.length (fun q v13 w' => ∃ (j : Nat) (s' : List Int × Int), v13 = .int .i64 (j : Int) ∧ j + q = l.length ∧ Aside0 (code_dw.idxs k (l.drop j) s' = some r) ∧ Aside0 (code_wr.Post B g w O s'.1 s'.2 (.returned (.tuple #[])) w'))
  case atStart => exact ⟨0, (b ++ nb, e), rfl, by omega, H, HP2⟩
  case round =>
    clear HP2 H
    obtain ⟨j, s', rfl, hjq, H, HP⟩ := hrel
    cases gk with
    | zero =>
      obtain rfl : j = l.length := by omega
      have hdj : decide ((l.length : Int) < (l.length : Int)) = false := by simp
      have hr := H.out
      rw [List.drop_length] at hr
      obtain rfl : s' = r := Option.some.inj hr
      clear hr H
      go_wp2
      go_end0
      exact HP.out
    | succ q =>
      have hjn : j < l.length := by omega
      have hdj : decide ((j : Int) < (l.length : Int)) = true := decide_eq_true (by omega)
      have p0 : 0 ≤ (j : Int) := by omega
      have p1 : (j : Int) < (l.length : Int) := by omega
      have hr := H.out
      rw [List.drop_eq_getElem_cons hjn, code_dw.idxs] at hr
      obtain ⟨O5, _, hi5, hk5, hb5, ho5⟩ := HP.out
      obtain ⟨ad, rfl, m0⟩ := Kd.at_int (Kd.F_now (Kd.F_kept HF.out hk5 (fun q (hq : q < B) ho => by have := HOW.out q ho; omega))) (j : Int) p0 p1
      have x1 : wr.cell? ⟨g, 1, none⟩ = some (.int .i64 s'.2) := by obtain ⟨v, h1, _⟩ := hi5; exact (blk_cell h1 1).trans rfl
      have hrd : rd l (j : Int) = l[j] := by unfold rd; rw [Int.toNat_natCast, List.getD_eq_getElem?_getD, List.getElem?_eq_getElem hjn, Option.getD_some]
      rw [hrd, Int.toNat_natCast] at m0
      obtain ⟨X, hXe⟩ : ∃ X, X = l[j] := ⟨_, rfl⟩
      rw [← hXe] at m0 hr
      clear hrd hXe
      have hwj : IntKind.i64.wrap ((j : Int) + 1) = ((j + 1 : Nat) : Int) := by
        rw [IntWalk.i64_in _ (by have := HS.out; omega)]
        omega
      by_cases he : s'.2 ≠ 0
      · rw [if_pos he] at hr
        obtain rfl := Option.some.inj hr
        have heb : (s'.2 != 0) = true := by simpa using he
        clear hr H he hi5 hk5 hb5 ho5 hjn
        go_wp2
        go_end0
        exact HP.out
      rw [if_neg he] at hr
      have heb : (s'.2 != 0) = false := by simpa using he
      obtain ⟨s2, hs2, hr2⟩ := Option.bind_eq_some_iff.mp hr
      have HZ5 : Aside0 (B ≤ wr.heap.size) := ⟨Nat.le_trans HB.out hk5.1⟩
      have HI5 := Aside0.mk hi5
      have HN5 : Aside0 (∀ {b e x w2}, code_wr.Post B g wr O5 b e x w2 → code_wr.Post B g w O b e x w2) := ⟨fun h => code_wr.then_ hk5 hb5 ho5 h⟩
      have HS2 := Aside0.mk hs2
      have HR2 := Aside0.mk hr2
      clear hr hs2 hr2 H HP he hi5 hk5 hb5 ho5 hjn
      go_wp2_with (go_at_call 89; (with_reducible refine (code_dw.index_calls k B g X s' s2 O5 _ HZ5.out HI5.out HS2.out).mono ?_); rintro y w6 hp6; (have hy := code_dw.own hp6); subst hy; (have HP6 := Aside0.mk (HN5.out hp6)); clear hp6)
      go_roundg q
      case measure => omega
      case rel => exact ⟨j + 1, s2, rfl, by omega, HR2, HP6⟩
def code_dw.step (k : Nat) (x : S39) (s : List Int × Int) : Option (List Int × Int) := (code_dw.index k x.f0 s).bind fun s1 => if s1.1.length < 1000000000 then (if s1.2 ≠ 0 then some (s1.1 ++ [if x.f1 = true then 1 else 0], s1.2) else (code_dw.list k x.f2 (s1.1 ++ [if x.f1 = true then 1 else 0], s1.2)).bind fun s3 => (if s3.2 = 0 then code_dw.list k x.f3 s3 else some s3).bind fun s4 => code_wr.term k x.f4 1 s4) else none
theorem code_dw.e_ {B g : Nat} {w : World} {b : List Int} {e : Int} {O : Nat → Prop} (h : code_wr.I B g w b e O) : w.cell? ⟨g, 1, none⟩ = some (.int .i64 e) := by
  obtain ⟨v, h1, _⟩ := h
  exact (blk_cell h1 1).trans rfl
set_option maxHeartbeats 8000000 in
set_option maxRecDepth 100000 in
theorem code_dw.step_calls (k B g : Nat) (x : S39) (cs : List Value) (s r : List Int × Int) (O : Nat → Prop) (w : World) (hB : B ≤ w.heap.size) (hx : Kd.FK k39 w (fun q => q < B) x cs) (hI : code_wr.I B g w s.1 s.2 O) (h : code_dw.step k x s = some r) :
    Calls Try.prog 76 #[.pointer (some ⟨g, 0, none⟩), .agg cs.toArray] w (code_wr.Post B g w O r.1 r.2) := by
  have hu := Try.underlying65
  have hu2 := Try.underlying39
  obtain ⟨A2, c2, A3, c3, A7, c7, rfl, l2, g2, l3, g3, l7, g7⟩ := k39_openF hx
  obtain ⟨W1, hW1⟩ : ∃ W1 : World, W1 = w.alloc (.cells #[.int .i64 x.f0, .bool x.f1, .slice A2 x.f2.length c2, .slice A3 x.f3.length c3, .int .i64 x.f4.f0, .int .i64 x.f4.f1, .string x.f4.f2, .slice A7 x.f4.f3.length c7, .int .i64 x.f4.f4, .int .i64 x.f4.f5] 39) := ⟨_, rfl⟩
  have hb1 : Below w.heap.size w W1 := by rw [hW1]; exact below_alloc (Below.refl _ _) _
  have hi1 : code_wr.I B g W1 s.1 s.2 O := code_wr.move hI hb1
  have hx1 : W1.heap[w.heap.size]? = some (.cells #[.int .i64 x.f0, .bool x.f1, .slice A2 x.f2.length c2, .slice A3 x.f3.length c3, .int .i64 x.f4.f0, .int .i64 x.f4.f1, .string x.f4.f2, .slice A7 x.f4.f3.length c7, .int .i64 x.f4.f4, .int .i64 x.f4.f5] 39 (0, 0)) := by rw [hW1]; exact blk_new _ _
  have hs1 : W1.heap.size = w.heap.size + 1 := by rw [hW1]; simp
  have HOK : Aside0 (¬ O w.heap.size) := ⟨fun ho => by have := (code_wr.own hI _ ho).2; omega⟩
  have HOW : Aside0 (∀ q, O q → B ≤ q) := ⟨fun q hq => (code_wr.own hI q hq).1⟩
  have HI1 := Aside0.mk hi1
  have HX1 := Aside0.mk hx1
  have HZ1 : Aside0 (B ≤ W1.heap.size) := ⟨by omega⟩
  have G2 := Aside0.mk (Kd.F_below g2 hb1)
  have G3 := Aside0.mk (Kd.F_below g3 hb1)
  have G7 := Aside0.mk (Kd.F_below g7 hb1)
  have L2 := Aside0.mk l2
  have L3 := Aside0.mk l3
  have L7 := Aside0.mk l7
  have PRE : Aside0 (∀ {b e x w2}, code_wr.Post B g W1 O b e x w2 → code_wr.Post B g w O b e x w2) := ⟨fun h => code_wr.then_ ((Kept.refl w O).below hb1) (Below.mono hb1 hB) (fun q hlt hq => hq) h⟩
  unfold code_dw.step at h
  obtain ⟨s1, hs1, h⟩ := Option.bind_eq_some_iff.mp h
  by_cases hl : s1.1.length < 1000000000
  case neg => rw [if_neg hl] at h; exact absurd h (by simp)
  rw [if_pos hl] at h
  obtain ⟨BK, hBK⟩ : ∃ BK : Int, BK = (if x.f1 = true then 1 else 0) := ⟨_, rfl⟩
  rw [← hBK] at h
  have HL := Aside0.mk hl
  have HS := Aside0.mk hs1
  have H := Aside0.mk h
  clear hi1 hb1 hI hB hx g2 g3 g7 l2 l3 l7 h hl hs1
  have y0 : W1.cell? ⟨w.heap.size, 0, none⟩ = some (.int .i64 x.f0) := (blk_cell hx1 0).trans rfl
  go_enter Try.func76, Try.ntmps76
  go_upto_region 2 with (rw [← hW1]; go_at_call 89; (with_reducible refine (code_dw.index_calls k B g x.f0 s s1 O _ HZ1.out HI1.out HS.out).mono ?_); rintro y w2 hp2; (have hy := code_dw.own hp2); subst hy; (have HP2 := Aside0.mk hp2); clear hp2)
  clear hW1 y0
  obtain ⟨O2, _, hi2, hk2, hb2, ho2⟩ := HP2.out
  have hx2 : w2.heap[w.heap.size]? = some (.cells #[.int .i64 x.f0, .bool x.f1, .slice A2 x.f2.length c2, .slice A3 x.f3.length c3, .int .i64 x.f4.f0, .int .i64 x.f4.f1, .string x.f4.f2, .slice A7 x.f4.f3.length c7, .int .i64 x.f4.f4, .int .i64 x.f4.f5] 39 (0, 0)) := (hk2.2 w.heap.size (blk_lt hx1) HOK.out).trans hx1
  have HN2 : Aside0 (¬ O2 w.heap.size) := ⟨fun ho => HOK.out (ho2 _ (blk_lt hx1) ho)⟩
  have y1 : w2.cell? ⟨w.heap.size, 1, none⟩ = some (.bool x.f1) := (blk_cell hx2 1).trans rfl
  obtain ⟨vb, h1, h2, h3, h4⟩ := hi2
  have hv : some g ≠ vb.ownBlock := Kd.N_away h3 (fun q hq => hq.2)
  obtain ⟨A, c, rfl⟩ := Kd.N_slice h3
  have x0 : w2.cell? ⟨g, 0, none⟩ = some (.slice A s1.1.length c) := (blk_cell h1 0).trans rfl
  have H1 := Aside0.mk h1
  have H2 := Aside0.mk h2
  have H3 := Aside0.mk h3
  have H4 := Aside0.mk h4
  have HV := Aside0.mk hv
  have HGL := Aside0.mk (blk_lt h1)
  have HX2 := Aside0.mk hx2
  have HZ2 : Aside0 (B ≤ w2.heap.size) := ⟨Nat.le_trans HZ1.out hk2.1⟩
  have HN : Aside0 (∀ {b e x w3}, code_wr.Post B g w2 O2 b e x w3 → code_wr.Post B g W1 O b e x w3) := ⟨fun h => code_wr.then_ hk2 hb2 ho2 h⟩
  clear h1 h2 h3 h4 hv hx2 hk2 hb2 ho2 hx1
  have key : ∀ (bk : Bool), x.f1 = bk → True := fun _ _ => trivial
  clear key
  have hbr : BK = 1 ∧ x.f1 = true ∨ BK = 0 ∧ x.f1 = false := by
    cases hf : x.f1
    · exact .inr ⟨by rw [hBK, hf]; rfl, rfl⟩
    · exact .inl ⟨by rw [hBK, hf]; rfl, rfl⟩
  rcases hbr with ⟨rfl, hf1⟩ | ⟨rfl, hf1⟩
  · rw [hf1] at y1
    clear hBK
    go_upto_region 6 with ((with_reducible refine gate_builtin (b := .append) (xs := #[.tmp 15, .tmp 17]) rfl ?_); at_builtin; refine Kd.N_append (Kd.int .u8) (w0 := w2) B rfl (.tmp 15) (.tmp 17) 22 5 (.int .u8 0) 1 rfl Try.underlying22 code_wr.info rfl (by decide) (by omega) _ s1.1 1 [.int .u8 1] (fun q => B ≤ q ∧ q ≠ g) (fun _ => False) rfl rfl (fun _ _ => rfl) (fun q hq => hq.elim) (fun q hq => ⟨by have := HZ2.out; have h1 : w2.heap.size ≤ q := hq; omega, by have := HGL.out; have h1 : w2.heap.size ≤ q := hq; omega⟩) H3.out (Below.refl _ _) HZ2.out (by have := HL.out; omega) ?_; intro v9 w9 hn9 hb9 hg9 hat9; (obtain ⟨A9, c9, e9⟩ := Kd.N_slice hn9); rw [List.length_append, List.length_singleton] at e9; subst e9; (have hk9 := blk_grown H1.out hg9 HV.out); (have z9 : w9.cell? ⟨g, 0, none⟩ = some (.slice A s1.1.length c) := (blk_cell hk9 0).trans rfl); (have f9 : w9.frozen? ⟨g, 0, none⟩ = false := blk_frozen hk9 0); (have HN9 := Aside0.mk hn9); (have HB9 := Aside0.mk hb9); (have HG9 := Aside0.mk hg9); (have HAT := Aside0.mk hat9); clear hn9 hb9 hg9 hat9 hk9)
    have hP3 := HN.out (code_wr.done H1.out HZ2.out H2.out HV.out H4.out (Below.refl _ _) HN9.out HB9.out HG9.out HAT.out)
    obtain ⟨W3, hW3⟩ : ∃ W3 : World, W3 = w9.setCell ⟨g, 0, none⟩ (.slice A9 (s1.1.length + 1) c9) := ⟨_, rfl⟩
    try rw [← hW3] at hP3
    try rw [← hW3]
    have HP3 := Aside0.mk hP3
    clear hW3 hP3 HN9 HB9 HG9 HAT H1 H2 H3 H4 HV HGL HX2 HZ2 HN HN2 HP2 z9 f9 x0 y1
    obtain ⟨O3, _, hi3, hk3, hb3, ho3⟩ := HP3.out
    have z1 := code_dw.e_ hi3
    have hx3 := (hk3.2 w.heap.size (blk_lt HX1.out) HOK.out).trans HX1.out
    by_cases he : s1.2 ≠ 0
    · have heb : (s1.2 != 0) = true := by simpa using he
      have h := H.out
      rw [if_pos he] at h
      obtain rfl := Option.some.inj h
      clear h H hi3 hk3 hb3 ho3 hx3 he
      go_wp2
      go_end0
      exact PRE.out HP3.out
    have heb : (s1.2 != 0) = false := by simpa using he
    have h := H.out
    rw [if_neg he] at h
    obtain ⟨s3, hs3, h⟩ := Option.bind_eq_some_iff.mp h
    obtain ⟨s4, hs4, h⟩ := Option.bind_eq_some_iff.mp h
    have y2 : W3.cell? ⟨w.heap.size, 2, none⟩ = some (.slice A2 x.f2.length c2) := (blk_cell hx3 2).trans rfl
    have HI3 := Aside0.mk hi3
    have HZ3 : Aside0 (B ≤ W3.heap.size) := ⟨Nat.le_trans HZ1.out hk3.1⟩
    have HN3 : Aside0 (∀ {b e x w3}, code_wr.Post B g W3 O3 b e x w3 → code_wr.Post B g W1 O b e x w3) := ⟨fun h => code_wr.then_ hk3 hb3 ho3 h⟩
    have J2 := Aside0.mk (Kd.F_kept G2.out hk3 (fun q (hq : q < B) ho => by have := HOW.out q ho; omega))
    have HS3 := Aside0.mk hs3
    have HS4 := Aside0.mk hs4
    have H5 := Aside0.mk h
    clear h H hi3 hk3 hb3 ho3 hx3 he hs3 hs4
    go_upto_region 8 with (go_at_call 77; (with_reducible refine (code_dw.list_calls k B g A2 c2 x.f2 (s1.1 ++ [1], s1.2) s3 O3 _ HZ3.out J2.out L2.out HI3.out HS3.out).mono ?_); rintro y w4 hp4; (have hy := code_dw.own hp4); subst hy; (have HP4 := Aside0.mk (HN3.out hp4)); clear hp4)
    obtain ⟨O4, _, hi4, hk4, hb4, ho4⟩ := HP4.out
    have v1 := code_dw.e_ hi4
    have hx4 := (hk4.2 w.heap.size (blk_lt HX1.out) HOK.out).trans HX1.out
    have HI4 := Aside0.mk hi4
    have HZ4 : Aside0 (B ≤ w4.heap.size) := ⟨Nat.le_trans HZ1.out hk4.1⟩
    have HN4 : Aside0 (∀ {b e x w3}, code_wr.Post B g w4 O4 b e x w3 → code_wr.Post B g W1 O b e x w3) := ⟨fun h => code_wr.then_ hk4 hb4 ho4 h⟩
    have J3 := Aside0.mk (Kd.F_kept G3.out hk4 (fun q (hq : q < B) ho => by have := HOW.out q ho; omega))
    have J7 := Aside0.mk (Kd.F_kept G7.out hk4 (fun q (hq : q < B) ho => by have := HOW.out q ho; omega))
    have q3 : w4.cell? ⟨w.heap.size, 3, none⟩ = some (.slice A3 x.f3.length c3) := (blk_cell hx4 3).trans rfl
    have q4 : w4.cell? ⟨w.heap.size, 4, none⟩ = some (.int .i64 x.f4.f0) := (blk_cell hx4 4).trans rfl
    have q5 : w4.cell? ⟨w.heap.size, 5, none⟩ = some (.int .i64 x.f4.f1) := (blk_cell hx4 5).trans rfl
    have q6 : w4.cell? ⟨w.heap.size, 6, none⟩ = some (.string x.f4.f2) := (blk_cell hx4 6).trans rfl
    have q7 : w4.cell? ⟨w.heap.size, 7, none⟩ = some (.slice A7 x.f4.f3.length c7) := (blk_cell hx4 7).trans rfl
    have q8 : w4.cell? ⟨w.heap.size, 8, none⟩ = some (.int .i64 x.f4.f4) := (blk_cell hx4 8).trans rfl
    have q9 : w4.cell? ⟨w.heap.size, 9, none⟩ = some (.int .i64 x.f4.f5) := (blk_cell hx4 9).trans rfl
    clear hi4 hk4 hb4 ho4 y2 z1 HZ3 HN3 J2 HI3
    have hs5 := HS4.out
    by_cases h3 : s3.2 = 0
    · have hb : (s3.2 == 0) = true := by simpa using h3
      rw [if_pos h3] at hs5
      have HS5 := Aside0.mk hs5
      clear h3 HS4 hs5
      go_upto_region 10 with (go_at_call 77; (with_reducible refine (code_dw.list_calls k B g A3 c3 x.f3 s3 s4 O4 _ HZ4.out J3.out L3.out HI4.out HS5.out).mono ?_); rintro y w5 hp5; (have hy := code_dw.own hp5); subst hy; (have HP5 := Aside0.mk (HN4.out hp5)); clear hp5)
      clear q3 q4 q5 q6 q7 q8 q9
      obtain ⟨O5, _, hi5, hk5, hb5, ho5⟩ := HP5.out
      have hx5 := (hk5.2 w.heap.size (blk_lt HX1.out) HOK.out).trans HX1.out
      have HI5 := Aside0.mk hi5
      have HZ5 : Aside0 (B ≤ w5.heap.size) := ⟨Nat.le_trans HZ1.out hk5.1⟩
      have HN5 : Aside0 (∀ {b e x w3}, code_wr.Post B g w5 O5 b e x w3 → code_wr.Post B g W1 O b e x w3) := ⟨fun h => code_wr.then_ hk5 hb5 ho5 h⟩
      have J75 := Aside0.mk (Kd.F_kept G7.out hk5 (fun q (hq : q < B) ho => by have := HOW.out q ho; omega))
      have t4 : w5.cell? ⟨w.heap.size, 4, none⟩ = some (.int .i64 x.f4.f0) := (blk_cell hx5 4).trans rfl
      have t5 : w5.cell? ⟨w.heap.size, 5, none⟩ = some (.int .i64 x.f4.f1) := (blk_cell hx5 5).trans rfl
      have t6 : w5.cell? ⟨w.heap.size, 6, none⟩ = some (.string x.f4.f2) := (blk_cell hx5 6).trans rfl
      have t7 : w5.cell? ⟨w.heap.size, 7, none⟩ = some (.slice A7 x.f4.f3.length c7) := (blk_cell hx5 7).trans rfl
      have t8 : w5.cell? ⟨w.heap.size, 8, none⟩ = some (.int .i64 x.f4.f4) := (blk_cell hx5 8).trans rfl
      have t9 : w5.cell? ⟨w.heap.size, 9, none⟩ = some (.int .i64 x.f4.f5) := (blk_cell hx5 9).trans rfl
      clear hi5 hk5 hb5 ho5 hx5 hx4
      go_wp2_with (go_at_call 32; (with_reducible refine (code_wr.term_calls k B g x.f4 A7 c7 1 s4 r O5 _ HZ5.out J75.out L7.out HI5.out H5.out).mono ?_); rintro y w6 hp6; (have hy := code_dw.own hp6); subst hy; (have HP6 := Aside0.mk (HN5.out hp6)); clear hp6)
      go_end0
      exact PRE.out HP6.out
    · have hb : (s3.2 == 0) = false := by simpa using h3
      rw [if_neg h3] at hs5
      obtain rfl := Option.some.inj hs5
      clear h3 HS4 hs5 hx4
      go_wp2_with (go_at_call 32; (with_reducible refine (code_wr.term_calls k B g x.f4 A7 c7 1 s3 r O4 _ HZ4.out J7.out L7.out HI4.out H5.out).mono ?_); rintro y w6 hp6; (have hy := code_dw.own hp6); subst hy; (have HP6 := Aside0.mk (HN4.out hp6)); clear hp6)
      go_end0
      exact PRE.out HP6.out
  · rw [hf1] at y1
    clear hBK
    go_upto_region 6 with ((with_reducible refine gate_builtin (b := .append) (xs := #[.tmp 15, .tmp 17]) rfl ?_); at_builtin; refine Kd.N_append (Kd.int .u8) (w0 := w2) B rfl (.tmp 15) (.tmp 17) 22 5 (.int .u8 0) 1 rfl Try.underlying22 code_wr.info rfl (by decide) (by omega) _ s1.1 0 [.int .u8 0] (fun q => B ≤ q ∧ q ≠ g) (fun _ => False) rfl rfl (fun _ _ => rfl) (fun q hq => hq.elim) (fun q hq => ⟨by have := HZ2.out; have h1 : w2.heap.size ≤ q := hq; omega, by have := HGL.out; have h1 : w2.heap.size ≤ q := hq; omega⟩) H3.out (Below.refl _ _) HZ2.out (by have := HL.out; omega) ?_; intro v9 w9 hn9 hb9 hg9 hat9; (obtain ⟨A9, c9, e9⟩ := Kd.N_slice hn9); rw [List.length_append, List.length_singleton] at e9; subst e9; (have hk9 := blk_grown H1.out hg9 HV.out); (have z9 : w9.cell? ⟨g, 0, none⟩ = some (.slice A s1.1.length c) := (blk_cell hk9 0).trans rfl); (have f9 : w9.frozen? ⟨g, 0, none⟩ = false := blk_frozen hk9 0); (have HN9 := Aside0.mk hn9); (have HB9 := Aside0.mk hb9); (have HG9 := Aside0.mk hg9); (have HAT := Aside0.mk hat9); clear hn9 hb9 hg9 hat9 hk9)
    have hP3 := HN.out (code_wr.done H1.out HZ2.out H2.out HV.out H4.out (Below.refl _ _) HN9.out HB9.out HG9.out HAT.out)
    obtain ⟨W3, hW3⟩ : ∃ W3 : World, W3 = w9.setCell ⟨g, 0, none⟩ (.slice A9 (s1.1.length + 1) c9) := ⟨_, rfl⟩
    try rw [← hW3] at hP3
    try rw [← hW3]
    have HP3 := Aside0.mk hP3
    clear hW3 hP3 HN9 HB9 HG9 HAT H1 H2 H3 H4 HV HGL HX2 HZ2 HN HN2 HP2 z9 f9 x0 y1
    obtain ⟨O3, _, hi3, hk3, hb3, ho3⟩ := HP3.out
    have z1 := code_dw.e_ hi3
    have hx3 := (hk3.2 w.heap.size (blk_lt HX1.out) HOK.out).trans HX1.out
    by_cases he : s1.2 ≠ 0
    · have heb : (s1.2 != 0) = true := by simpa using he
      have h := H.out
      rw [if_pos he] at h
      obtain rfl := Option.some.inj h
      clear h H hi3 hk3 hb3 ho3 hx3 he
      go_wp2
      go_end0
      exact PRE.out HP3.out
    have heb : (s1.2 != 0) = false := by simpa using he
    have h := H.out
    rw [if_neg he] at h
    obtain ⟨s3, hs3, h⟩ := Option.bind_eq_some_iff.mp h
    obtain ⟨s4, hs4, h⟩ := Option.bind_eq_some_iff.mp h
    have y2 : W3.cell? ⟨w.heap.size, 2, none⟩ = some (.slice A2 x.f2.length c2) := (blk_cell hx3 2).trans rfl
    have HI3 := Aside0.mk hi3
    have HZ3 : Aside0 (B ≤ W3.heap.size) := ⟨Nat.le_trans HZ1.out hk3.1⟩
    have HN3 : Aside0 (∀ {b e x w3}, code_wr.Post B g W3 O3 b e x w3 → code_wr.Post B g W1 O b e x w3) := ⟨fun h => code_wr.then_ hk3 hb3 ho3 h⟩
    have J2 := Aside0.mk (Kd.F_kept G2.out hk3 (fun q (hq : q < B) ho => by have := HOW.out q ho; omega))
    have HS3 := Aside0.mk hs3
    have HS4 := Aside0.mk hs4
    have H5 := Aside0.mk h
    clear h H hi3 hk3 hb3 ho3 hx3 he hs3 hs4
    go_upto_region 8 with (go_at_call 77; (with_reducible refine (code_dw.list_calls k B g A2 c2 x.f2 (s1.1 ++ [0], s1.2) s3 O3 _ HZ3.out J2.out L2.out HI3.out HS3.out).mono ?_); rintro y w4 hp4; (have hy := code_dw.own hp4); subst hy; (have HP4 := Aside0.mk (HN3.out hp4)); clear hp4)
    obtain ⟨O4, _, hi4, hk4, hb4, ho4⟩ := HP4.out
    have v1 := code_dw.e_ hi4
    have hx4 := (hk4.2 w.heap.size (blk_lt HX1.out) HOK.out).trans HX1.out
    have HI4 := Aside0.mk hi4
    have HZ4 : Aside0 (B ≤ w4.heap.size) := ⟨Nat.le_trans HZ1.out hk4.1⟩
    have HN4 : Aside0 (∀ {b e x w3}, code_wr.Post B g w4 O4 b e x w3 → code_wr.Post B g W1 O b e x w3) := ⟨fun h => code_wr.then_ hk4 hb4 ho4 h⟩
    have J3 := Aside0.mk (Kd.F_kept G3.out hk4 (fun q (hq : q < B) ho => by have := HOW.out q ho; omega))
    have J7 := Aside0.mk (Kd.F_kept G7.out hk4 (fun q (hq : q < B) ho => by have := HOW.out q ho; omega))
    have q3 : w4.cell? ⟨w.heap.size, 3, none⟩ = some (.slice A3 x.f3.length c3) := (blk_cell hx4 3).trans rfl
    have q4 : w4.cell? ⟨w.heap.size, 4, none⟩ = some (.int .i64 x.f4.f0) := (blk_cell hx4 4).trans rfl
    have q5 : w4.cell? ⟨w.heap.size, 5, none⟩ = some (.int .i64 x.f4.f1) := (blk_cell hx4 5).trans rfl
    have q6 : w4.cell? ⟨w.heap.size, 6, none⟩ = some (.string x.f4.f2) := (blk_cell hx4 6).trans rfl
    have q7 : w4.cell? ⟨w.heap.size, 7, none⟩ = some (.slice A7 x.f4.f3.length c7) := (blk_cell hx4 7).trans rfl
    have q8 : w4.cell? ⟨w.heap.size, 8, none⟩ = some (.int .i64 x.f4.f4) := (blk_cell hx4 8).trans rfl
    have q9 : w4.cell? ⟨w.heap.size, 9, none⟩ = some (.int .i64 x.f4.f5) := (blk_cell hx4 9).trans rfl
    clear hi4 hk4 hb4 ho4 y2 z1 HZ3 HN3 J2 HI3
    have hs5 := HS4.out
    by_cases h3 : s3.2 = 0
    · have hb : (s3.2 == 0) = true := by simpa using h3
      rw [if_pos h3] at hs5
      have HS5 := Aside0.mk hs5
      clear h3 HS4 hs5
      go_upto_region 10 with (go_at_call 77; (with_reducible refine (code_dw.list_calls k B g A3 c3 x.f3 s3 s4 O4 _ HZ4.out J3.out L3.out HI4.out HS5.out).mono ?_); rintro y w5 hp5; (have hy := code_dw.own hp5); subst hy; (have HP5 := Aside0.mk (HN4.out hp5)); clear hp5)
      clear q3 q4 q5 q6 q7 q8 q9
      obtain ⟨O5, _, hi5, hk5, hb5, ho5⟩ := HP5.out
      have hx5 := (hk5.2 w.heap.size (blk_lt HX1.out) HOK.out).trans HX1.out
      have HI5 := Aside0.mk hi5
      have HZ5 : Aside0 (B ≤ w5.heap.size) := ⟨Nat.le_trans HZ1.out hk5.1⟩
      have HN5 : Aside0 (∀ {b e x w3}, code_wr.Post B g w5 O5 b e x w3 → code_wr.Post B g W1 O b e x w3) := ⟨fun h => code_wr.then_ hk5 hb5 ho5 h⟩
      have J75 := Aside0.mk (Kd.F_kept G7.out hk5 (fun q (hq : q < B) ho => by have := HOW.out q ho; omega))
      have t4 : w5.cell? ⟨w.heap.size, 4, none⟩ = some (.int .i64 x.f4.f0) := (blk_cell hx5 4).trans rfl
      have t5 : w5.cell? ⟨w.heap.size, 5, none⟩ = some (.int .i64 x.f4.f1) := (blk_cell hx5 5).trans rfl
      have t6 : w5.cell? ⟨w.heap.size, 6, none⟩ = some (.string x.f4.f2) := (blk_cell hx5 6).trans rfl
      have t7 : w5.cell? ⟨w.heap.size, 7, none⟩ = some (.slice A7 x.f4.f3.length c7) := (blk_cell hx5 7).trans rfl
      have t8 : w5.cell? ⟨w.heap.size, 8, none⟩ = some (.int .i64 x.f4.f4) := (blk_cell hx5 8).trans rfl
      have t9 : w5.cell? ⟨w.heap.size, 9, none⟩ = some (.int .i64 x.f4.f5) := (blk_cell hx5 9).trans rfl
      clear hi5 hk5 hb5 ho5 hx5 hx4
      go_wp2_with (go_at_call 32; (with_reducible refine (code_wr.term_calls k B g x.f4 A7 c7 1 s4 r O5 _ HZ5.out J75.out L7.out HI5.out H5.out).mono ?_); rintro y w6 hp6; (have hy := code_dw.own hp6); subst hy; (have HP6 := Aside0.mk (HN5.out hp6)); clear hp6)
      go_end0
      exact PRE.out HP6.out
    · have hb : (s3.2 == 0) = false := by simpa using h3
      rw [if_neg h3] at hs5
      obtain rfl := Option.some.inj hs5
      clear h3 HS4 hs5 hx4
      go_wp2_with (go_at_call 32; (with_reducible refine (code_wr.term_calls k B g x.f4 A7 c7 1 s3 r O4 _ HZ4.out J7.out L7.out HI4.out H5.out).mono ?_); rintro y w6 hp6; (have hy := code_dw.own hp6); subst hy; (have HP6 := Aside0.mk (HN4.out hp6)); clear hp6)
      go_end0
      exact PRE.out HP6.out
def code_dw.fineB (x : S42) : Bool := if x.f0 = 1 then (x.f1.length == 0 && x.f3.length == 0) else (x.f2.f0 == 0 && !x.f2.f1 && x.f2.f2.length == 0 && x.f2.f3.length == 0 && x.f2.f4.f0 == 0 && x.f2.f4.f1 == 0 && x.f2.f4.f2.toList == [] && x.f2.f4.f3.length == 0 && x.f2.f4.f4 == 0 && x.f2.f4.f5 == 0) && (x.f0 == 3 || x.f1.length == 0)
/-- a derivation's bytes behind what was written, and what is wrong -/
def code_dw.all (g : S42 → List Int × Int → Option (List Int × Int)) : List S42 → List Int × Int → Option (List Int × Int)
  | [], s => some s
  | x :: xs, s => (g x s).bind fun s' => code_dw.all g xs s'
def code_dw.deriv : Nat → S42 → Int → List Int × Int → Option (List Int × Int)
  | 0, _, _, _ => none
  | k + 1, x, lv, s => if s.1.length < 1000000000 ∧ x.f3.length < 1000000000 ∧ (-1000000 ≤ lv ∧ lv ≤ 1000000) then
      (if s.2 ≠ 0 then some s else if lv > 64 then some (s.1, 7) else if x.f0 < 1 ∨ x.f0 > 3 then some (s.1, 23) else (code_fine.f x.f0 x.f1 x.f2.f0 x.f2.f1 x.f2.f2 x.f2.f3 x.f2.f4.f0 x.f2.f4.f1 x.f2.f4.f2 x.f2.f4.f3 x.f2.f4.f4 x.f2.f4.f5 x.f3).bind fun fb => if fb = true then
        (if x.f0 = 1 then code_dw.step k x.f2 (s.1 ++ [x.f0], 0) else (if x.f0 = 3 then code_dw.list k x.f1 (s.1 ++ [x.f0], 0) else some (s.1 ++ [x.f0], 0)).bind fun s2 => (varint_Bytes.f k (x.f3.length : Int)).bind fun nb => if s2.1.length < 1000000000 ∧ nb.length ≤ 1000 then code_dw.all (fun x s => code_dw.deriv k x (lv + 1) s) x.f3 (s2.1 ++ nb, s2.2) else none) else some (s.1, 2)) else none
theorem code_dw.get {w : World} {ok : Nat → Prop} {A : Option Addr} {n : Nat} {xs : List S42} (h : Kd.F k42 w ok A n xs) (i : Nat) (h1 : i < xs.length) : ∃ ad A1 c1 A4 c4 A5 c5 A9 c9 A12 c12, A = some ad ∧ Kd.FK k42 w ok xs[i] [.int .i64 (xs[i]).f0, .slice A1 (xs[i]).f1.length c1, .int .i64 (xs[i]).f2.f0, .bool (xs[i]).f2.f1, .slice A4 (xs[i]).f2.f2.length c4, .slice A5 (xs[i]).f2.f3.length c5, .int .i64 (xs[i]).f2.f4.f0, .int .i64 (xs[i]).f2.f4.f1, .string (xs[i]).f2.f4.f2, .slice A9 (xs[i]).f2.f4.f3.length c9, .int .i64 (xs[i]).f2.f4.f4, .int .i64 (xs[i]).f2.f4.f5, .slice A12 (xs[i]).f3.length c12] ∧ w.cell? (ad.add (i * 13)) = some (.int .i64 (xs[i]).f0) ∧ w.cell? ⟨(ad.add (i * 13)).block, (ad.add (i * 13)).off + 1, none⟩ = some (.slice A1 (xs[i]).f1.length c1) ∧ w.cell? ⟨(ad.add (i * 13)).block, (ad.add (i * 13)).off + 2, none⟩ = some (.int .i64 (xs[i]).f2.f0) ∧ w.cell? ⟨(ad.add (i * 13)).block, (ad.add (i * 13)).off + 3, none⟩ = some (.bool (xs[i]).f2.f1) ∧ w.cell? ⟨(ad.add (i * 13)).block, (ad.add (i * 13)).off + 4, none⟩ = some (.slice A4 (xs[i]).f2.f2.length c4) ∧ w.cell? ⟨(ad.add (i * 13)).block, (ad.add (i * 13)).off + 5, none⟩ = some (.slice A5 (xs[i]).f2.f3.length c5) ∧ w.cell? ⟨(ad.add (i * 13)).block, (ad.add (i * 13)).off + 6, none⟩ = some (.int .i64 (xs[i]).f2.f4.f0) ∧ w.cell? ⟨(ad.add (i * 13)).block, (ad.add (i * 13)).off + 7, none⟩ = some (.int .i64 (xs[i]).f2.f4.f1) ∧ w.cell? ⟨(ad.add (i * 13)).block, (ad.add (i * 13)).off + 8, none⟩ = some (.string (xs[i]).f2.f4.f2) ∧ w.cell? ⟨(ad.add (i * 13)).block, (ad.add (i * 13)).off + 9, none⟩ = some (.slice A9 (xs[i]).f2.f4.f3.length c9) ∧ w.cell? ⟨(ad.add (i * 13)).block, (ad.add (i * 13)).off + 10, none⟩ = some (.int .i64 (xs[i]).f2.f4.f4) ∧ w.cell? ⟨(ad.add (i * 13)).block, (ad.add (i * 13)).off + 11, none⟩ = some (.int .i64 (xs[i]).f2.f4.f5) ∧ w.cell? ⟨(ad.add (i * 13)).block, (ad.add (i * 13)).off + 12, none⟩ = some (.slice A12 (xs[i]).f3.length c12) := by
  have hn := Kd.F_len h
  obtain ⟨ad, c, e, _, hK, hc0, _⟩ := Kd.F_get h z42 (i : Int) (by omega) (by omega)
  rw [Int.toNat_natCast, List.getD_eq_getElem?_getD, List.getElem?_eq_getElem h1, Option.getD_some] at hK
  have hc : ∀ j u, c[j]? = some u → w.cell? (ad.add (i * 13 + j)) = some u := hc0
  have hK2 := hK
  obtain ⟨A1, c1, A4, c4, A5, c5, A9, c9, A12, c12, rfl, _⟩ := k42_openF hK
  exact ⟨ad, A1, c1, A4, c4, A5, c5, A9, c9, A12, c12, e, hK2, hc 0 _ rfl, by rw [← add_field _ _ 1 (by omega)]; exact hc 1 _ rfl, by rw [← add_field _ _ 2 (by omega)]; exact hc 2 _ rfl, by rw [← add_field _ _ 3 (by omega)]; exact hc 3 _ rfl, by rw [← add_field _ _ 4 (by omega)]; exact hc 4 _ rfl, by rw [← add_field _ _ 5 (by omega)]; exact hc 5 _ rfl, by rw [← add_field _ _ 6 (by omega)]; exact hc 6 _ rfl, by rw [← add_field _ _ 7 (by omega)]; exact hc 7 _ rfl, by rw [← add_field _ _ 8 (by omega)]; exact hc 8 _ rfl, by rw [← add_field _ _ 9 (by omega)]; exact hc 9 _ rfl, by rw [← add_field _ _ 10 (by omega)]; exact hc 10 _ rfl, by rw [← add_field _ _ 11 (by omega)]; exact hc 11 _ rfl, by rw [← add_field _ _ 12 (by omega)]; exact hc 12 _ rfl⟩
set_option maxHeartbeats 16000000 in
set_option maxRecDepth 100000 in
theorem code_dw.deriv_calls (k : Nat) : ∀ (B g : Nat) (x : S42) (cs : List Value) (lv : Int) (s r : List Int × Int) (O : Nat → Prop) (w : World), B ≤ w.heap.size → Kd.FK k42 w (fun q => q < B) x cs → code_wr.I B g w s.1 s.2 O → code_dw.deriv k x lv s = some r →
    Calls Try.prog 39 #[.pointer (some ⟨g, 0, none⟩), .agg cs.toArray, .int .i64 lv] w (code_wr.Post B g w O r.1 r.2) := by
  induction k with
  | zero => intro B g x cs lv s r O w _ _ _ h; exact absurd h (by simp [code_dw.deriv])
  | succ k ih =>
  intro B g x cs lv s r O w hB hx hI h
  have hu := Try.underlying65
  have hu2 := Try.underlying42
  have hu3 := Try.underlying39
  obtain ⟨A1, c1, A4, c4, A5, c5, A9, c9, A12, c12, rfl, l1, g1, l4, g4, l5, g5, l9, g9, l12, g12⟩ := k42_openF hx
  obtain ⟨b, e⟩ := s
  rw [code_dw.deriv] at h
  by_cases hs : b.length < 1000000000 ∧ x.f3.length < 1000000000 ∧ (-1000000 ≤ lv ∧ lv ≤ 1000000)
  case neg => rw [if_neg hs] at h; exact absurd h (by simp)
  rw [if_pos hs] at h
  dsimp only at h hI
  have HIH := Aside0.mk ih
  have HS := Aside0.mk hs
  obtain ⟨W1, hW1⟩ : ∃ W1 : World, W1 = w.alloc (.cells #[.int .i64 x.f0, .slice A1 x.f1.length c1, .int .i64 x.f2.f0, .bool x.f2.f1, .slice A4 x.f2.f2.length c4, .slice A5 x.f2.f3.length c5, .int .i64 x.f2.f4.f0, .int .i64 x.f2.f4.f1, .string x.f2.f4.f2, .slice A9 x.f2.f4.f3.length c9, .int .i64 x.f2.f4.f4, .int .i64 x.f2.f4.f5, .slice A12 x.f3.length c12] 42) := ⟨_, rfl⟩
  have hb1 : Below w.heap.size w W1 := by rw [hW1]; exact below_alloc (Below.refl _ _) _
  have hi1 : code_wr.I B g W1 b e O := code_wr.move hI hb1
  have hx1 : W1.heap[w.heap.size]? = some (.cells #[.int .i64 x.f0, .slice A1 x.f1.length c1, .int .i64 x.f2.f0, .bool x.f2.f1, .slice A4 x.f2.f2.length c4, .slice A5 x.f2.f3.length c5, .int .i64 x.f2.f4.f0, .int .i64 x.f2.f4.f1, .string x.f2.f4.f2, .slice A9 x.f2.f4.f3.length c9, .int .i64 x.f2.f4.f4, .int .i64 x.f2.f4.f5, .slice A12 x.f3.length c12] 42 (0, 0)) := by rw [hW1]; exact blk_new _ _
  have hs1 : W1.heap.size = w.heap.size + 1 := by rw [hW1]; simp
  have HOK : Aside0 (¬ O w.heap.size) := ⟨fun ho => by have := (code_wr.own hI _ ho).2; omega⟩
  have HOW : Aside0 (∀ q, O q → B ≤ q) := ⟨fun q hq => (code_wr.own hI q hq).1⟩
  have x1 : W1.cell? ⟨g, 1, none⟩ = some (.int .i64 e) := code_dw.e_ hi1
  have HI1 := Aside0.mk hi1
  have HX1 := Aside0.mk hx1
  have HZ1 : Aside0 (B ≤ W1.heap.size) := ⟨by omega⟩
  have G1 := Aside0.mk (Kd.F_below g1 hb1)
  have G4 := Aside0.mk (Kd.F_below g4 hb1)
  have G5 := Aside0.mk (Kd.F_below g5 hb1)
  have G9 := Aside0.mk (Kd.F_below g9 hb1)
  have G12 := Aside0.mk (Kd.F_below g12 hb1)
  have L1 := Aside0.mk l1
  have L4 := Aside0.mk l4
  have L5 := Aside0.mk l5
  have L9 := Aside0.mk l9
  have L12 := Aside0.mk l12
  have PRE : Aside0 (∀ {b e x w2}, code_wr.Post B g W1 O b e x w2 → code_wr.Post B g w O b e x w2) := ⟨fun h => code_wr.then_ ((Kept.refl w O).below hb1) (Below.mono hb1 hB) (fun q hlt hq => hq) h⟩
  clear ih hB hx hI hs hi1 hs1 hb1 l1 l4 l5 l9 l12 g1 g4 g5 g9 g12
  go_enter Try.func39, Try.ntmps39
  go_upto_region 1 with (fail)
  rw [← hW1]
  clear hW1
  by_cases he : e ≠ 0
  · rw [if_pos he] at h
    obtain rfl := Option.some.inj h
    have heb : (e != 0) = true := by simpa using he
    clear h he hx1
    go_wp2
    go_end0
    exact PRE.out ⟨O, rfl, HI1.out, Kept.refl _ _, Below.refl _ _, fun _ _ h => h⟩
  rw [if_neg he] at h
  obtain rfl : e = 0 := by simpa using he
  clear he
  have y0 : W1.cell? ⟨w.heap.size, 0, none⟩ = some (.int .i64 x.f0) := (blk_cell hx1 0).trans rfl
  by_cases hlv : lv > 64
  · rw [if_pos hlv] at h
    obtain rfl := Option.some.inj h
    have hd : decide (64 < lv) = true := decide_eq_true hlv
    clear h hlv hx1
    go_wp2_with (go_at_call 65; (with_reducible refine (code_wr.fail_calls B g b 0 7 O _ HI1.out).mono ?_); rintro y w2 hp2; rw [if_pos rfl] at hp2; (have hy := code_dw.own hp2); subst hy; (have HP2 := Aside0.mk hp2); clear hp2)
    go_end0
    exact PRE.out HP2.out
  rw [if_neg hlv] at h
  have hd : decide (64 < lv) = false := decide_eq_false hlv
  clear hlv
  by_cases hk : x.f0 < 1 ∨ x.f0 > 3
  · rw [if_pos hk] at h
    obtain rfl := Option.some.inj h
    clear h hx1
    by_cases hk1 : x.f0 < 1
    · have hd1 : decide (x.f0 < 1) = true := decide_eq_true hk1
      clear hk hk1
      go_wp2_with (go_at_call 65; (with_reducible refine (code_wr.fail_calls B g b 0 23 O _ HI1.out).mono ?_); rintro y w2 hp2; rw [if_pos rfl] at hp2; (have hy := code_dw.own hp2); subst hy; (have HP2 := Aside0.mk hp2); clear hp2)
      go_end0
      exact PRE.out HP2.out
    · have hd1 : decide (x.f0 < 1) = false := decide_eq_false hk1
      have hd2 : decide (3 < x.f0) = true := decide_eq_true (hk.resolve_left hk1)
      clear hk hk1
      go_wp2_with (go_at_call 65; (with_reducible refine (code_wr.fail_calls B g b 0 23 O _ HI1.out).mono ?_); rintro y w2 hp2; rw [if_pos rfl] at hp2; (have hy := code_dw.own hp2); subst hy; (have HP2 := Aside0.mk hp2); clear hp2)
      go_end0
      exact PRE.out HP2.out
  rw [if_neg hk] at h
  have hd1 : decide (x.f0 < 1) = false := decide_eq_false (fun h => hk (.inl h))
  have hd2 : decide (3 < x.f0) = false := decide_eq_false (fun h => hk (.inr h))
  have hk0 : 1 ≤ x.f0 ∧ x.f0 ≤ 3 := by omega
  have HK0 := Aside0.mk hk0
  clear hk hk0
  obtain ⟨fb, hfb, h⟩ := Option.bind_eq_some_iff.mp h
  have HFN := Aside0.mk hfb
  clear hfb
  have y1 : W1.cell? ⟨w.heap.size, 1, none⟩ = some (.slice A1 x.f1.length c1) := (blk_cell hx1 1).trans rfl
  have y2 : W1.cell? ⟨w.heap.size, 2, none⟩ = some (.int .i64 x.f2.f0) := (blk_cell hx1 2).trans rfl
  have y3 : W1.cell? ⟨w.heap.size, 3, none⟩ = some (.bool x.f2.f1) := (blk_cell hx1 3).trans rfl
  have y4 : W1.cell? ⟨w.heap.size, 4, none⟩ = some (.slice A4 x.f2.f2.length c4) := (blk_cell hx1 4).trans rfl
  have y5 : W1.cell? ⟨w.heap.size, 5, none⟩ = some (.slice A5 x.f2.f3.length c5) := (blk_cell hx1 5).trans rfl
  have y6 : W1.cell? ⟨w.heap.size, 6, none⟩ = some (.int .i64 x.f2.f4.f0) := (blk_cell hx1 6).trans rfl
  have y7 : W1.cell? ⟨w.heap.size, 7, none⟩ = some (.int .i64 x.f2.f4.f1) := (blk_cell hx1 7).trans rfl
  have y8 : W1.cell? ⟨w.heap.size, 8, none⟩ = some (.string x.f2.f4.f2) := (blk_cell hx1 8).trans rfl
  have y9 : W1.cell? ⟨w.heap.size, 9, none⟩ = some (.slice A9 x.f2.f4.f3.length c9) := (blk_cell hx1 9).trans rfl
  have y10 : W1.cell? ⟨w.heap.size, 10, none⟩ = some (.int .i64 x.f2.f4.f4) := (blk_cell hx1 10).trans rfl
  have y11 : W1.cell? ⟨w.heap.size, 11, none⟩ = some (.int .i64 x.f2.f4.f5) := (blk_cell hx1 11).trans rfl
  have y12 : W1.cell? ⟨w.heap.size, 12, none⟩ = some (.slice A12 x.f3.length c12) := (blk_cell hx1 12).trans rfl
  by_cases hf : fb = true
  case neg =>
    rw [if_neg hf] at h
    obtain rfl := Option.some.inj h
    obtain rfl : fb = false := by simpa using hf
    clear h hf hx1
    go_wp2_with (first | (go_at_call 65; (with_reducible refine (code_wr.fail_calls B g b 0 2 O _ HI5.out).mono ?_); rintro y w2 hp2; rw [if_pos rfl] at hp2; (have hy := code_dw.own hp2); subst hy; (have HP2 := Aside0.mk hp2); clear hp2) | (go_at_call 75; (with_reducible refine (code_fine.calls x.f0 A1 c1 x.f1 x.f2.f0 x.f2.f1 A4 c4 x.f2.f2 A5 c5 x.f2.f3 x.f2.f4.f0 x.f2.f4.f1 x.f2.f4.f2 A9 c9 x.f2.f4.f3 x.f2.f4.f4 x.f2.f4.f5 A12 c12 x.f3 _ _ (Kd.F_now G1.out) L1.out (Kd.F_now G4.out) L4.out (Kd.F_now G5.out) L5.out (Kd.F_now G9.out) L9.out (Kd.F_now G12.out) L12.out HFN.out).mono ?_); rintro y w5 ⟨rfl, hb5⟩; (have HB5 := Aside0.mk hb5); (have HI5 := Aside0.mk (code_wr.move HI1.out hb5)); clear hb5))
    go_end0
    exact PRE.out (code_wr.then_ ((Kept.refl W1 O).below HB5.out) (HB5.out.mono HZ1.out) (fun q hlt hq => hq) HP2.out)
  subst hf
  rw [if_pos rfl] at h
  have H := Aside0.mk h
  clear h
  go_upto_region 8 with (go_at_call 75; (with_reducible refine (code_fine.calls x.f0 A1 c1 x.f1 x.f2.f0 x.f2.f1 A4 c4 x.f2.f2 A5 c5 x.f2.f3 x.f2.f4.f0 x.f2.f4.f1 x.f2.f4.f2 A9 c9 x.f2.f4.f3 x.f2.f4.f4 x.f2.f4.f5 A12 c12 x.f3 _ _ (Kd.F_now G1.out) L1.out (Kd.F_now G4.out) L4.out (Kd.F_now G5.out) L5.out (Kd.F_now G9.out) L9.out (Kd.F_now G12.out) L12.out HFN.out).mono ?_); rintro y w5 ⟨rfl, hb5⟩; (have HB5 := Aside0.mk hb5); (have HI5 := Aside0.mk (code_wr.move HI1.out hb5)); clear hb5)
  have hI5 := HI5.out
  obtain ⟨vb, h1, h2, h3, h4⟩ := hI5
  have hv : some g ≠ vb.ownBlock := Kd.N_away h3 (fun q hq => hq.2)
  obtain ⟨A, c, rfl⟩ := Kd.N_slice h3
  have hx5 := blk_below hx1 HB5.out
  clear y0 y1 y2 y3 y4 y5 y6 y7 y8 y9 y10 y11 y12 x1
  have x0 : w5.cell? ⟨g, 0, none⟩ = some (.slice A b.length c) := (blk_cell h1 0).trans rfl
  have y0 : w5.cell? ⟨w.heap.size, 0, none⟩ = some (.int .i64 x.f0) := (blk_cell hx5 0).trans rfl
  have H1 := Aside0.mk h1
  have H2 := Aside0.mk h2
  have H3 := Aside0.mk h3
  have H4 := Aside0.mk h4
  have HV := Aside0.mk hv
  have HGL := Aside0.mk (blk_lt h1)
  have HBW : Aside0 (B ≤ w5.heap.size) := ⟨Nat.le_trans HZ1.out HB5.out.size⟩
  clear h1 h2 h3 h4 hv hx5 hx1
  refine start_ (n := 13) (S := fun w' => w'.cell? ⟨g, 0, none⟩ = some (.slice A b.length c) ∧ w'.cell? ⟨w.heap.size, 0, none⟩ = some (.int .i64 x.f0)) (ds := [9, 12]) (bl 13 0) (by kernel_rfl) rfl rfl ⟨x0, y0⟩ (fun hHeld => ?_)
  refine pure_ (i := 0) (N := some 36) (v := ?_) (a' := ?_) (bl 13 1) rfl rfl (by kernel_rfl) (fun _ _ _ h => h) (Or.inl ⟨by rfl, ?_⟩) ?_ ?_
  rotate_left
  · intro w'; go_simp; with_reducible rfl
  rotate_left
  · simp only [Act.put, sa_, sz_, ss_, i64_w, i32_w]; rfl
  refine pure_ (i := 1) (N := some 37) (v := ?_) (a' := ?_) (bl 13 3) rfl rfl (by kernel_rfl) (fun _ _ _ h => h) (Or.inl ⟨by rfl, ?_⟩) ?_ ?_
  rotate_left
  · intro w'; go_simp; with_reducible rfl
  rotate_left
  · simp only [Act.put, sa_, sz_, ss_, i64_w, i32_w]; rfl
  refine pure_ (i := 5) (N := some 41) (v := ?_) (a' := ?_) (bl 13 35) rfl rfl (by kernel_rfl) (fun _ _ _ h => h) (Or.inl ⟨by rfl, ?_⟩) ?_ ?_
  rotate_left
  · intro w'; go_simp; with_reducible rfl
  rotate_left
  · simp only [Act.put, sa_, sz_, ss_, i64_w, i32_w]; rfl
  refine pure_ (i := 2) (N := some 38) (v := ?_) (a' := ?_) (bl 13 39) rfl rfl (by kernel_rfl) (fun _ _ _ h => h) (Or.inl ⟨by rfl, ?_⟩) ?_ ?_
  rotate_left
  · intro w'; go_simp; with_reducible rfl
  rotate_left
  · simp only [Act.put, sa_, sz_, ss_, i64_w, i32_w]; rfl
  refine pure_ (i := 3) (N := some 39) (v := ?_) (a' := ?_) (bl 13 47) rfl rfl (by kernel_rfl) (fun _ _ _ h => h) (Or.inl ⟨by rfl, ?_⟩) ?_ ?_
  rotate_left
  · intro w'; go_simp; with_reducible rfl
  rotate_left
  · simp only [Act.put, sa_, sz_, ss_, i64_w, i32_w]; rfl
  refine take_ (i := 4) (N := some 40) (v := ?_) (a' := ?_) (bl 13 63) rfl rfl (by kernel_rfl) (fun _ _ _ h => h) (Or.inl ⟨by rfl, ?_⟩) hHeld ?_ ?_
  rotate_left
  · rintro w' ⟨s0, s1⟩
    go_simp
    with_reducible rfl
  rotate_left
  · simp only [Act.put, sa_, sz_, ss_, i64_w, i32_w]; rfl
  refine take_ (i := 6) (N := some 42) (v := ?_) (a' := ?_) (bl 13 127) rfl rfl (by kernel_rfl) (fun _ _ _ h => h) (Or.inl ⟨by rfl, ?_⟩) hHeld ?_ ?_
  rotate_left
  · rintro w' ⟨s0, s1⟩
    go_simp
    with_reducible rfl
  rotate_left
  · simp only [Act.put, sa_, sz_, ss_, i64_w, i32_w]; rfl
  refine pure_ (i := 7) (N := some 43) (v := ?_) (a' := ?_) (bl 13 255) rfl rfl (by kernel_rfl) (fun _ _ _ h => h) (Or.inl ⟨by rfl, ?_⟩) ?_ ?_
  rotate_left
  · intro w'; go_simp; with_reducible rfl
  rotate_left
  · simp only [Act.put, sa_, sz_, ss_, i64_w, i32_w]; rfl
  refine one_ (i := 8) (N := some 44) (bl 13 511) rfl rfl (by kernel_rfl) (by decide) (fun K hK => ?_)
  refine value_ (v := .slice (some ⟨w5.heap.size, 0, none⟩) 1 1) (w1 := w5.drew.alloc (.cells #[.int .u8 (x.f0 % 256)] 5)) (by rfl) rfl (by go_simp <;> rfl) ?_
  refine hK.out _ _ ⟨pw_cell_below (below_alloc (below_drew (Below.refl _ _)) _) x0, pw_cell_below (below_alloc (below_drew (Below.refl _ _)) _) y0⟩ (fun hHeld => ?_)
  clear hK K
  refine norm_ (a' := ?_) ?_ ?_
  rotate_left
  · show Act.put _ (some 44) _ = _
    simp only [Act.put, sa_, sz_, ss_, i64_w, i32_w]
    rfl
  refine last_ (i := 9) (N := some 45) (bl 13 1023) rfl rfl (by kernel_rfl) (by decide) (fun K hK => ?_)
  refine code_wr.step (Kd.int .u8) (W := w5.drew) B rfl (.tmp 40) (.tmp 44) 22 5 (.int .u8 0) 1 rfl Try.underlying22 code_wr.info rfl (by decide) (by omega) (.slice A b.length c) b (x.f0 % 256) [.int .u8 (x.f0 % 256)] (fun q => B ≤ q ∧ q ≠ g) (fun _ => False) rfl rfl (fun W2 _ => rfl) (fun q hq => hq.elim) (fun q hq => ⟨by have := HBW.out; have h1 : w5.heap.size ≤ q := hq; omega, by have := HGL.out; have h1 : w5.heap.size ≤ q := hq; omega⟩) (Kd.N_drew H3.out) (show B ≤ w5.heap.size from HBW.out) (by have := HS.out; omega) ?_
  intro v9 w9 hn9 hb9 hg9 hat9
  obtain ⟨A0, c0, e9⟩ := Kd.N_slice hn9
  rw [List.length_append, List.length_singleton] at e9
  subst e9
  have hk9 := blk_grown (w := w5.drew) (show w5.drew.heap[g]? = _ from H1.out) hg9 HV.out
  have z9 : w9.cell? ⟨g, 0, none⟩ = some (.slice A b.length c) := (blk_cell hk9 0).trans rfl
  have f9 : w9.frozen? ⟨g, 0, none⟩ = false := blk_frozen hk9 0
  have HN9 := Aside0.mk hn9
  have HB9 := Aside0.mk hb9
  have HG9 := Aside0.mk hg9
  have HAT := Aside0.mk hat9
  clear hn9 hb9 hg9 hat9 hk9
  refine hK.out _ _ ?_
  clear hK K
  refine norm_ (a' := ?_) ?_ ?_
  rotate_left
  · show Act.put _ (some 45) _ = _
    simp only [Act.put, sa_, sz_, ss_, i64_w, i32_w]
    rfl
  refine pure_ (i := 10) (N := some 46) (v := ?_) (a' := ?_) (bl 13 2047) rfl rfl (by kernel_rfl) (fun _ _ _ h => h) (Or.inl ⟨by rfl, ?_⟩) ?_ ?_
  rotate_left
  · intro w'; go_simp; with_reducible rfl
  rotate_left
  · simp only [Act.put, sa_, sz_, ss_, i64_w, i32_w]; rfl
  refine pure_ (i := 11) (N := some 47) (v := ?_) (a' := ?_) (bl 13 4095) rfl rfl (by kernel_rfl) (fun _ _ _ h => h) (Or.inl ⟨by rfl, ?_⟩) ?_ ?_
  rotate_left
  · intro w'; go_simp; with_reducible rfl
  rotate_left
  · simp only [Act.put, sa_, sz_, ss_, i64_w, i32_w]; rfl
  refine last_ (i := 12) (N := none) (bl 13 8191) rfl rfl (by kernel_rfl) (by decide) (fun K hK => ?_)
  refine skip_ (w1 := ?_) (by rfl) rfl ?_ ?_
  rotate_left
  · go_simp
    rfl
  refine hK.out _ _ ?_
  clear hK K
  refine done_ (by kernel_rfl) ?_
  have hP8 := code_wr.then_ ((Kept.refl W1 O).below HB5.out) (HB5.out.mono HZ1.out) (fun q hlt hq => hq) (code_wr.done H1.out HBW.out H2.out HV.out H4.out (below_drew (Below.refl _ _)) HN9.out HB9.out HG9.out HAT.out)
  obtain ⟨W8, hW8⟩ : ∃ W8 : World, W8 = w9.setCell ⟨g, 0, none⟩ (.slice A0 (b.length + 1) c0) := ⟨_, rfl⟩
  try rw [← hW8] at hP8
  try rw [← hW8]
  rw [show x.f0 % 256 = x.f0 by have := HK0.out; omega] at hP8
  have HP8 := Aside0.mk hP8
  clear hP8 hW8 HN9 HB9 HG9 HAT H1 H2 H3 H4 HV HGL HBW HI5 HB5 HI1 x0 y0 z9 f9 hHeld
  obtain ⟨O8, _, hi8, hk8, hb8, ho8⟩ := HP8.out
  have hx8 := (hk8.2 w.heap.size (blk_lt HX1.out) HOK.out).trans HX1.out
  have HI8 := Aside0.mk hi8
  have HZ8 : Aside0 (B ≤ W8.heap.size) := ⟨Nat.le_trans HZ1.out hk8.1⟩
  have HN8 : Aside0 (∀ {b e x w3}, code_wr.Post B g W8 O8 b e x w3 → code_wr.Post B g W1 O b e x w3) := ⟨fun h => code_wr.then_ hk8 hb8 ho8 h⟩
  have e0 : W8.cell? ⟨w.heap.size, 0, none⟩ = some (.int .i64 x.f0) := (blk_cell hx8 0).trans rfl
  have h := H.out
  by_cases hs1 : x.f0 = 1
  · have hd3 : (x.f0 == 1) = true := by simpa using hs1
    rw [if_pos hs1] at h
    have H5 := Aside0.mk h
    have hlt8 : ∀ q, q < B → ¬ O q := fun q hq ho => by have := HOW.out q ho; omega
    have HFK : Aside0 (Kd.FK k39 W8 (fun q => q < B) x.f2 [.int .i64 x.f2.f0, .bool x.f2.f1, .slice A4 x.f2.f2.length c4, .slice A5 x.f2.f3.length c5, .int .i64 x.f2.f4.f0, .int .i64 x.f2.f4.f1, .string x.f2.f4.f2, .slice A9 x.f2.f4.f3.length c9, .int .i64 x.f2.f4.f4, .int .i64 x.f2.f4.f5]) := ⟨k39_mkF W8 _ x.f2 L4.out (Kd.F_kept G4.out hk8 hlt8) L5.out (Kd.F_kept G5.out hk8 hlt8) L9.out (Kd.F_kept G9.out hk8 hlt8)⟩
    have e2 : W8.cell? ⟨w.heap.size, 2, none⟩ = some (.int .i64 x.f2.f0) := (blk_cell hx8 2).trans rfl
    have e3 : W8.cell? ⟨w.heap.size, 3, none⟩ = some (.bool x.f2.f1) := (blk_cell hx8 3).trans rfl
    have e4 : W8.cell? ⟨w.heap.size, 4, none⟩ = some (.slice A4 x.f2.f2.length c4) := (blk_cell hx8 4).trans rfl
    have e5 : W8.cell? ⟨w.heap.size, 5, none⟩ = some (.slice A5 x.f2.f3.length c5) := (blk_cell hx8 5).trans rfl
    have e6 : W8.cell? ⟨w.heap.size, 6, none⟩ = some (.int .i64 x.f2.f4.f0) := (blk_cell hx8 6).trans rfl
    have e7 : W8.cell? ⟨w.heap.size, 7, none⟩ = some (.int .i64 x.f2.f4.f1) := (blk_cell hx8 7).trans rfl
    have e8 : W8.cell? ⟨w.heap.size, 8, none⟩ = some (.string x.f2.f4.f2) := (blk_cell hx8 8).trans rfl
    have e9 : W8.cell? ⟨w.heap.size, 9, none⟩ = some (.slice A9 x.f2.f4.f3.length c9) := (blk_cell hx8 9).trans rfl
    have e10 : W8.cell? ⟨w.heap.size, 10, none⟩ = some (.int .i64 x.f2.f4.f4) := (blk_cell hx8 10).trans rfl
    have e11 : W8.cell? ⟨w.heap.size, 11, none⟩ = some (.int .i64 x.f2.f4.f5) := (blk_cell hx8 11).trans rfl
    clear h H hs1 hi8 hk8 hb8 ho8 hx8 hlt8
    go_wp2_with (go_at_call 76; (with_reducible refine (code_dw.step_calls k B g x.f2 [.int .i64 x.f2.f0, .bool x.f2.f1, .slice A4 x.f2.f2.length c4, .slice A5 x.f2.f3.length c5, .int .i64 x.f2.f4.f0, .int .i64 x.f2.f4.f1, .string x.f2.f4.f2, .slice A9 x.f2.f4.f3.length c9, .int .i64 x.f2.f4.f4, .int .i64 x.f2.f4.f5] (b ++ [x.f0], 0) r O8 _ HZ8.out HFK.out HI8.out H5.out).mono ?_); rintro y w6 hp6; (have hy := code_dw.own hp6); subst hy; (have HP6 := Aside0.mk (HN8.out hp6)); clear hp6)
    go_end0
    exact PRE.out HP6.out
  have hd3 : (x.f0 == 1) = false := by simpa using hs1
  rw [if_neg hs1] at h
  obtain ⟨s2, hs2, h⟩ := Option.bind_eq_some_iff.mp h
  obtain ⟨nb, hnb, h⟩ := Option.bind_eq_some_iff.mp h
  by_cases hln : s2.1.length < 1000000000 ∧ nb.length ≤ 1000
  case neg => rw [if_neg hln] at h; exact absurd h (by simp)
  rw [if_pos hln] at h
  have HLN := Aside0.mk hln
  have HNB := Aside0.mk hnb
  have H6 := Aside0.mk h
  have hwl : IntKind.u64.wrap (x.f3.length : Int) = (x.f3.length : Int) := IntWalk.u64_in _ (by have := HS.out; omega)
  have hwv : IntKind.i64.wrap (lv + 1) = lv + 1 := IntWalk.i64_in _ (by have := HS.out; omega)
  clear h H hs1 hln hnb
  by_cases h3 : x.f0 = 3
  · have hd4 : (x.f0 == 3) = true := by simpa using h3
    rw [if_pos h3] at hs2
    have HS2 := Aside0.mk hs2
    have J1 := Aside0.mk (Kd.F_kept G1.out hk8 (fun q (hq : q < B) ho => by have := HOW.out q ho; omega))
    have e1 : W8.cell? ⟨w.heap.size, 1, none⟩ = some (.slice A1 x.f1.length c1) := (blk_cell hx8 1).trans rfl
    clear h3 hs2 hi8 hk8 hb8 ho8 hx8
    go_upto_region 13 with (go_at_call 77; (with_reducible refine (code_dw.list_calls k B g A1 c1 x.f1 (b ++ [x.f0], 0) s2 O8 _ HZ8.out J1.out L1.out HI8.out HS2.out).mono ?_); rintro y wt hpt; (have hy := code_dw.own hpt); subst hy; (have HPT := Aside0.mk (HN8.out hpt)); clear hpt)
    clear e0 e1
    obtain ⟨OT, _, hit, hkt, hbt, hot⟩ := HPT.out
    have hxt := (hkt.2 w.heap.size (blk_lt HX1.out) HOK.out).trans HX1.out
    have t3 : wt.cell? ⟨w.heap.size, 12, none⟩ = some (.slice A12 x.f3.length c12) := (blk_cell hxt 12).trans rfl
    have HIT := Aside0.mk hit
    have HZT : Aside0 (B ≤ wt.heap.size) := ⟨Nat.le_trans HZ1.out hkt.1⟩
    have HNT : Aside0 (∀ {b e x w3}, code_wr.Post B g wt OT b e x w3 → code_wr.Post B g W1 O b e x w3) := ⟨fun h => code_wr.then_ hkt hbt hot h⟩
    clear hit hkt hbt hot hxt
    go_upto_region 14 with (go_at_call 66; (with_reducible refine (code_wr.number_calls k B g s2.1 s2.2 OT (x.f3.length : Int) nb _ HZT.out HIT.out (by have := HLN.out; simp only [List.length_append, List.length_singleton] at *; omega) HNB.out).mono ?_); rintro y w4 hp4; (have hy := code_dw.own hp4); subst hy; (have HP4 := Aside0.mk (HNT.out hp4)); clear hp4)
    obtain ⟨O4, _, hi4, hk4, hb4, ho4⟩ := HP4.out
    have hx4 := (hk4.2 w.heap.size (blk_lt HX1.out) HOK.out).trans HX1.out
    have c4' : w4.cell? ⟨w.heap.size, 12, none⟩ = some (.slice A12 x.f3.length c12) := (blk_cell hx4 12).trans rfl
    clear hi4 hk4 hb4 ho4 hx4 t3
    go_wp2
    go_loopg [71] x.f3.length (fun q v71 w' => ∃ (j : Nat) (s' : List Int × Int), v71 = .int .i64 (j : Int) ∧ j + q = x.f3.length ∧ Aside0 (code_dw.all (fun x s => code_dw.deriv k x (lv + 1) s) (x.f3.drop j) s' = some r) ∧ Aside0 (code_wr.Post B g W1 O s'.1 s'.2 (.returned (.tuple #[])) w'))
    case atStart => exact ⟨0, (s2.1 ++ nb, s2.2), rfl, by omega, H6, HP4⟩
    case round =>
      clear HP4 H6 HPT HP8
      obtain ⟨j, s', rfl, hjq, H, HP⟩ := hrel
      cases gk with
      | zero =>
        obtain rfl : j = x.f3.length := by omega
        have hdj : decide ((x.f3.length : Int) < (x.f3.length : Int)) = false := by simp
        have hr := H.out
        rw [List.drop_length] at hr
        obtain rfl : s' = r := Option.some.inj hr
        clear hr H
        go_wp2
        go_end0
        exact PRE.out HP.out
      | succ q =>
        have hjn : j < x.f3.length := by omega
        have hdj : decide ((j : Int) < (x.f3.length : Int)) = true := decide_eq_true (by omega)
        have p0 : 0 ≤ (j : Int) := by omega
        have p1 : (j : Int) < (x.f3.length : Int) := by omega
        have hr := H.out
        rw [List.drop_eq_getElem_cons hjn, code_dw.all] at hr
        obtain ⟨s3, hs3, hr2⟩ := Option.bind_eq_some_iff.mp hr
        clear hr
        obtain ⟨O5, _, hi5, hk5, hb5, ho5⟩ := HP.out
        obtain ⟨ad, D1, d1, D4, d4, D5, d5, D9, d9, D12, d12, e0, hfk, m0, m1, m2, m3, m4, m5, m6, m7, m8, m9, m10, m11, m12⟩ := code_dw.get (Kd.F_kept G12.out hk5 (fun q (hq : q < B) ho => by have := HOW.out q ho; omega)) j hjn
        obtain ⟨X, hXe⟩ : ∃ X, X = x.f3[j] := ⟨_, rfl⟩
        rw [← hXe] at hs3 hfk m0 m1 m2 m3 m4 m5 m6 m7 m8 m9 m10 m11 m12
        clear hXe
        subst e0
        have hwj : IntKind.i64.wrap ((j : Int) + 1) = ((j + 1 : Nat) : Int) := by
          rw [IntWalk.i64_in _ (by have := HS.out; omega)]
          omega
        have HZW : Aside0 (∀ o, B ≤ (wr.alloc o).heap.size) := ⟨fun o => by have := HZ1.out; have := hk5.1; simp; omega⟩
        have HFW : Aside0 (∀ o, Kd.FK k42 (wr.alloc o) (fun q => q < B) X [.int .i64 X.f0, .slice D1 X.f1.length d1, .int .i64 X.f2.f0, .bool X.f2.f1, .slice D4 X.f2.f2.length d4, .slice D5 X.f2.f3.length d5, .int .i64 X.f2.f4.f0, .int .i64 X.f2.f4.f1, .string X.f2.f4.f2, .slice D9 X.f2.f4.f3.length d9, .int .i64 X.f2.f4.f4, .int .i64 X.f2.f4.f5, .slice D12 X.f3.length d12]) := ⟨fun o => Kd.FK_below hfk (below_alloc (Below.refl _ _) _)⟩
        have HIW : Aside0 (∀ o, code_wr.I B g (wr.alloc o) s'.1 s'.2 O5) := ⟨fun o => code_wr.move hi5 (below_alloc (Below.refl _ _) _)⟩
        have HNW : Aside0 (∀ o {b e x w2}, code_wr.Post B g (wr.alloc o) O5 b e x w2 → code_wr.Post B g W1 O b e x w2) := ⟨fun o {b e x w2} h => code_wr.then_ hk5 hb5 ho5 (code_wr.then_ ((Kept.refl wr O5).below (below_alloc (Below.refl _ _) _)) (Below.mono (below_alloc (Below.refl wr.heap.size _) _) (Nat.le_trans HZ1.out hk5.1)) (fun q hlt hq => hq) h)⟩
        have HS3 := Aside0.mk hs3
        have HR := Aside0.mk hr2
        clear hs3 hr2 hfk hi5 hk5 hb5 ho5 H HP hjn
        go_wp2_with (go_at_call 39; (with_reducible refine (HIH.out B g X [.int .i64 X.f0, .slice D1 X.f1.length d1, .int .i64 X.f2.f0, .bool X.f2.f1, .slice D4 X.f2.f2.length d4, .slice D5 X.f2.f3.length d5, .int .i64 X.f2.f4.f0, .int .i64 X.f2.f4.f1, .string X.f2.f4.f2, .slice D9 X.f2.f4.f3.length d9, .int .i64 X.f2.f4.f4, .int .i64 X.f2.f4.f5, .slice D12 X.f3.length d12] (lv + 1) s' s3 O5 _ (HZW.out _) (HFW.out _) (HIW.out _) HS3.out).mono ?_); rintro y w6 hp6; (have hy := code_dw.own hp6); subst hy; (have HP6 := Aside0.mk (HNW.out _ hp6)); clear hp6)
        go_roundg q
        case measure => omega
        case rel => exact ⟨j + 1, s3, rfl, by omega, HR, HP6⟩
  · have hd4 : (x.f0 == 3) = false := by simpa using h3
    rw [if_neg h3] at hs2
    obtain rfl := Option.some.inj hs2
    clear h3 hs2 hi8 hk8 hb8 ho8 hx8
    go_upto_region 13 with (fail)
    have HPT := HP8
    obtain ⟨OT, _, hit, hkt, hbt, hot⟩ := HPT.out
    have hxt := (hkt.2 w.heap.size (blk_lt HX1.out) HOK.out).trans HX1.out
    have t3 : W8.cell? ⟨w.heap.size, 12, none⟩ = some (.slice A12 x.f3.length c12) := (blk_cell hxt 12).trans rfl
    have HIT := Aside0.mk hit
    have HZT : Aside0 (B ≤ W8.heap.size) := ⟨Nat.le_trans HZ1.out hkt.1⟩
    have HNT : Aside0 (∀ {b e x w3}, code_wr.Post B g W8 OT b e x w3 → code_wr.Post B g W1 O b e x w3) := ⟨fun h => code_wr.then_ hkt hbt hot h⟩
    clear hit hkt hbt hot hxt
    go_upto_region 14 with (go_at_call 66; (with_reducible refine (code_wr.number_calls k B g (b ++ [x.f0]) 0 OT (x.f3.length : Int) nb _ HZT.out HIT.out (by have := HLN.out; simp only [List.length_append, List.length_singleton] at *; omega) HNB.out).mono ?_); rintro y w4 hp4; (have hy := code_dw.own hp4); subst hy; (have HP4 := Aside0.mk (HNT.out hp4)); clear hp4)
    obtain ⟨O4, _, hi4, hk4, hb4, ho4⟩ := HP4.out
    have hx4 := (hk4.2 w.heap.size (blk_lt HX1.out) HOK.out).trans HX1.out
    have c4' : w4.cell? ⟨w.heap.size, 12, none⟩ = some (.slice A12 x.f3.length c12) := (blk_cell hx4 12).trans rfl
    clear hi4 hk4 hb4 ho4 hx4 t3
    go_wp2
    go_loopg [71] x.f3.length (fun q v71 w' => ∃ (j : Nat) (s' : List Int × Int), v71 = .int .i64 (j : Int) ∧ j + q = x.f3.length ∧ Aside0 (code_dw.all (fun x s => code_dw.deriv k x (lv + 1) s) (x.f3.drop j) s' = some r) ∧ Aside0 (code_wr.Post B g W1 O s'.1 s'.2 (.returned (.tuple #[])) w'))
    case atStart => exact ⟨0, ((b ++ [x.f0]) ++ nb, 0), rfl, by omega, H6, HP4⟩
    case round =>
      clear HP4 H6 HPT HP8
      obtain ⟨j, s', rfl, hjq, H, HP⟩ := hrel
      cases gk with
      | zero =>
        obtain rfl : j = x.f3.length := by omega
        have hdj : decide ((x.f3.length : Int) < (x.f3.length : Int)) = false := by simp
        have hr := H.out
        rw [List.drop_length] at hr
        obtain rfl : s' = r := Option.some.inj hr
        clear hr H
        go_wp2
        go_end0
        exact PRE.out HP.out
      | succ q =>
        have hjn : j < x.f3.length := by omega
        have hdj : decide ((j : Int) < (x.f3.length : Int)) = true := decide_eq_true (by omega)
        have p0 : 0 ≤ (j : Int) := by omega
        have p1 : (j : Int) < (x.f3.length : Int) := by omega
        have hr := H.out
        rw [List.drop_eq_getElem_cons hjn, code_dw.all] at hr
        obtain ⟨s3, hs3, hr2⟩ := Option.bind_eq_some_iff.mp hr
        clear hr
        obtain ⟨O5, _, hi5, hk5, hb5, ho5⟩ := HP.out
        obtain ⟨ad, D1, d1, D4, d4, D5, d5, D9, d9, D12, d12, e0, hfk, m0, m1, m2, m3, m4, m5, m6, m7, m8, m9, m10, m11, m12⟩ := code_dw.get (Kd.F_kept G12.out hk5 (fun q (hq : q < B) ho => by have := HOW.out q ho; omega)) j hjn
        obtain ⟨X, hXe⟩ : ∃ X, X = x.f3[j] := ⟨_, rfl⟩
        rw [← hXe] at hs3 hfk m0 m1 m2 m3 m4 m5 m6 m7 m8 m9 m10 m11 m12
        clear hXe
        subst e0
        have hwj : IntKind.i64.wrap ((j : Int) + 1) = ((j + 1 : Nat) : Int) := by
          rw [IntWalk.i64_in _ (by have := HS.out; omega)]
          omega
        have HZW : Aside0 (∀ o, B ≤ (wr.alloc o).heap.size) := ⟨fun o => by have := HZ1.out; have := hk5.1; simp; omega⟩
        have HFW : Aside0 (∀ o, Kd.FK k42 (wr.alloc o) (fun q => q < B) X [.int .i64 X.f0, .slice D1 X.f1.length d1, .int .i64 X.f2.f0, .bool X.f2.f1, .slice D4 X.f2.f2.length d4, .slice D5 X.f2.f3.length d5, .int .i64 X.f2.f4.f0, .int .i64 X.f2.f4.f1, .string X.f2.f4.f2, .slice D9 X.f2.f4.f3.length d9, .int .i64 X.f2.f4.f4, .int .i64 X.f2.f4.f5, .slice D12 X.f3.length d12]) := ⟨fun o => Kd.FK_below hfk (below_alloc (Below.refl _ _) _)⟩
        have HIW : Aside0 (∀ o, code_wr.I B g (wr.alloc o) s'.1 s'.2 O5) := ⟨fun o => code_wr.move hi5 (below_alloc (Below.refl _ _) _)⟩
        have HNW : Aside0 (∀ o {b e x w2}, code_wr.Post B g (wr.alloc o) O5 b e x w2 → code_wr.Post B g W1 O b e x w2) := ⟨fun o {b e x w2} h => code_wr.then_ hk5 hb5 ho5 (code_wr.then_ ((Kept.refl wr O5).below (below_alloc (Below.refl _ _) _)) (Below.mono (below_alloc (Below.refl wr.heap.size _) _) (Nat.le_trans HZ1.out hk5.1)) (fun q hlt hq => hq) h)⟩
        have HS3 := Aside0.mk hs3
        have HR := Aside0.mk hr2
        clear hs3 hr2 hfk hi5 hk5 hb5 ho5 H HP hjn
        go_wp2_with (go_at_call 39; (with_reducible refine (HIH.out B g X [.int .i64 X.f0, .slice D1 X.f1.length d1, .int .i64 X.f2.f0, .bool X.f2.f1, .slice D4 X.f2.f2.length d4, .slice D5 X.f2.f3.length d5, .int .i64 X.f2.f4.f0, .int .i64 X.f2.f4.f1, .string X.f2.f4.f2, .slice D9 X.f2.f4.f3.length d9, .int .i64 X.f2.f4.f4, .int .i64 X.f2.f4.f5, .slice D12 X.f3.length d12] (lv + 1) s' s3 O5 _ (HZW.out _) (HFW.out _) (HIW.out _) HS3.out).mono ?_); rintro y w6 hp6; (have hy := code_dw.own hp6); subst hy; (have HP6 := Aside0.mk (HNW.out _ hp6)); clear hp6)
        go_roundg q
        case measure => omega
        case rel => exact ⟨j + 1, s3, rfl, by omega, HR, HP6⟩

-- NOT PRINTED: function 77 (code_writer_list)

-- NOT PRINTED: function 76 (code_writer_step)

-- NOT PRINTED: function 39 (code_writer_deriv)

/-! ### code_Deriv: function 16 (given) -/
theorem code_Deriv.heapT : Kd.Heap k25 := Kd.heap_fix (fun d hd => Kd.heap_iso _ (Kd.heap_pair (Kd.heap_int _) (Kd.heap_pair (Kd.heap_int _) (Kd.heap_pair Kd.heap_string (Kd.heap_pair (Kd.heap_slice _ hd) (Kd.heap_pair (Kd.heap_int _) (Kd.heap_int _)))))))
theorem code_Deriv.heapS : Kd.Heap k39 := Kd.heap_iso _ (Kd.heap_pair (Kd.heap_int _) (Kd.heap_pair Kd.heap_bool (Kd.heap_pair (Kd.heap_slice _ (Kd.heap_int _)) (Kd.heap_pair (Kd.heap_slice _ (Kd.heap_int _)) code_Deriv.heapT))))
theorem code_Deriv.heapD : Kd.Heap k42 := Kd.heap_fix (fun d hd => Kd.heap_iso _ (Kd.heap_pair (Kd.heap_int _) (Kd.heap_pair (Kd.heap_slice _ (Kd.heap_int _)) (Kd.heap_pair code_Deriv.heapS (Kd.heap_slice _ hd)))))
def code_Deriv.f (k : Nat) (a0 : Int) (l1 : List Int) (a2 : Int) (a3 : Bool) (l4 : List Int) (l5 : List Int) (a6 : Int) (a7 : Int) (a8 : ByteArray) (l9 : List S25) (a10 : Int) (a11 : Int) (l12 : List S42) : Option (List Int × Int) := (code_dw.deriv k ⟨a0, l1, ⟨a2, a3, l4, l5, ⟨a6, a7, a8, l9, a10, a11⟩⟩, l12⟩ 1 ([], 0)).bind fun s => some (if s.2 = 0 then s.1 else [], s.2)
set_option maxHeartbeats 4000000 in
set_option maxRecDepth 100000 in
theorem code_Deriv.calls (k : Nat) (a0 : Int) (A1 : Option Addr) (c1 : Nat) (l1 : List Int) (a2 : Int) (a3 : Bool) (A4 : Option Addr) (c4 : Nat) (l4 : List Int) (A5 : Option Addr) (c5 : Nat) (l5 : List Int) (a6 : Int) (a7 : Int) (a8 : ByteArray) (A9 : Option Addr) (c9 : Nat) (l9 : List S25) (a10 : Int) (a11 : Int) (A12 : Option Addr) (c12 : Nat) (l12 : List S42) (r1 : List Int) (r2 : Int) (w : World) (hr1 : Kd.C (Kd.int .i64) w A1 l1.length l1) (hc1 : l1.length ≤ c1) (hr4 : Kd.C (Kd.int .i64) w A4 l4.length l4) (hc4 : l4.length ≤ c4) (hr5 : Kd.C (Kd.int .i64) w A5 l5.length l5) (hc5 : l5.length ≤ c5) (hr9 : Kd.C k25 w A9 l9.length l9) (hc9 : l9.length ≤ c9) (hr12 : Kd.C k42 w A12 l12.length l12) (hc12 : l12.length ≤ c12) (h : code_Deriv.f k a0 l1 a2 a3 l4 l5 a6 a7 a8 l9 a10 a11 l12 = some (r1, r2)) :
    Calls Try.prog 16 #[.agg #[.int .i64 a0, .slice A1 l1.length c1, .int .i64 a2, .bool a3, .slice A4 l4.length c4, .slice A5 l5.length c5, .int .i64 a6, .int .i64 a7, .string a8, .slice A9 l9.length c9, .int .i64 a10, .int .i64 a11, .slice A12 l12.length c12]] w fun e w' => ∃ v0_ : Value, e = .returned (.tuple #[v0_, .int .i64 r2]) ∧ Kd.V (Kd.int .u8) 5 w' w.heap.size (fun k_ => (w.heap.size ≤ k_)) v0_ r1 ∧ Below w.heap.size w w' := by
  have hu := Try.underlying65
  have hu2 := Try.underlying42
  obtain ⟨s, hs, h⟩ := Option.bind_eq_some_iff.mp h
  have e := Option.some.inj h
  simp only [Prod.mk.injEq] at e
  obtain ⟨e1, rfl⟩ := e
  have E1 := Aside0.mk e1
  clear e1
  obtain ⟨W2, hW2⟩ : ∃ W2 : World, W2 = (w.alloc (.cells #[.int .i64 a0, .slice A1 l1.length c1, .int .i64 a2, .bool a3, .slice A4 l4.length c4, .slice A5 l5.length c5, .int .i64 a6, .int .i64 a7, .string a8, .slice A9 l9.length c9, .int .i64 a10, .int .i64 a11, .slice A12 l12.length c12] 42)).alloc (.cells #[.slice none 0 0, .int .i64 0] 65) := ⟨_, rfl⟩
  have hz : (w.alloc (.cells #[.int .i64 a0, .slice A1 l1.length c1, .int .i64 a2, .bool a3, .slice A4 l4.length c4, .slice A5 l5.length c5, .int .i64 a6, .int .i64 a7, .string a8, .slice A9 l9.length c9, .int .i64 a10, .int .i64 a11, .slice A12 l12.length c12] 42)).heap.size = w.heap.size + 1 := by simp
  have hb2 : Below w.heap.size w W2 := by rw [hW2]; exact below_alloc (below_alloc (Below.refl _ _) _) _
  have hi : code_wr.I w.heap.size (w.heap.size + 1) W2 [] 0 (fun q => q = w.heap.size + 1) := by
    refine ⟨.slice none 0 0, ?_, by omega, Kd.N_nil _ _ _ _ _, fun q => ?_⟩
    · rw [hW2, ← hz]; exact blk_new _ _
    · simp [Value.ownBlock]
  have HI := Aside0.mk hi
  have HB2 := Aside0.mk hb2
  have HS := Aside0.mk hs
  have HFK : Aside0 (Kd.FK k42 W2 (fun q => q < w.heap.size) ⟨a0, l1, ⟨a2, a3, l4, l5, ⟨a6, a7, a8, l9, a10, a11⟩⟩, l12⟩ [.int .i64 a0, .slice A1 l1.length c1, .int .i64 a2, .bool a3, .slice A4 l4.length c4, .slice A5 l5.length c5, .int .i64 a6, .int .i64 a7, .string a8, .slice A9 l9.length c9, .int .i64 a10, .int .i64 a11, .slice A12 l12.length c12]) := ⟨k42_mkF W2 _ ⟨a0, l1, ⟨a2, a3, l4, l5, ⟨a6, a7, a8, l9, a10, a11⟩⟩, l12⟩ hc1 (Kd.F_below (Kd.C_F (Kd.heap_int _) hr1) hb2) hc4 (Kd.F_below (Kd.C_F (Kd.heap_int _) hr4) hb2) hc5 (Kd.F_below (Kd.C_F (Kd.heap_int _) hr5) hb2) hc9 (Kd.F_below (Kd.C_F code_Deriv.heapT hr9) hb2) hc12 (Kd.F_below (Kd.C_F code_Deriv.heapD hr12) hb2)⟩
  clear hs hr1 hc1 hr4 hc4 hr5 hc5 hr9 hc9 hr12 hc12 h hi hb2 hz
  go_enter Try.func16, Try.ntmps16
  go_wp2_with (first | (go_at_call 33; (with_reducible refine (code_wr.done_calls w.heap.size (w.heap.size + 1) s.1 s.2 O3 _ HI3.out).mono ?_); rintro y w4 ⟨v, rfl, hv4, hb4⟩; rw [E1.out] at hv4; (have HV4 := Aside0.mk hv4); (have HB4 := Aside0.mk (below_step HB3.out hb4)); clear hv4 hb4) | (rw [← hW2]; go_at_call 39; (with_reducible refine (code_dw.deriv_calls k w.heap.size (w.heap.size + 1) ⟨a0, l1, ⟨a2, a3, l4, l5, ⟨a6, a7, a8, l9, a10, a11⟩⟩, l12⟩ [.int .i64 a0, .slice A1 l1.length c1, .int .i64 a2, .bool a3, .slice A4 l4.length c4, .slice A5 l5.length c5, .int .i64 a6, .int .i64 a7, .string a8, .slice A9 l9.length c9, .int .i64 a10, .int .i64 a11, .slice A12 l12.length c12] 1 ([], 0) s _ _ HB2.out.size HFK.out HI.out HS.out).mono ?_); rintro y w3 ⟨O3, rfl, hi3, hk3, hb3, ho3⟩; (have HI3 := Aside0.mk hi3); (have HB3 := Aside0.mk (HB2.out.trans hb3)); clear hi3 hk3 hb3 ho3))
  go_ret2
  exact ⟨_, rfl, HV4.out, HB4.out⟩

-- NOT PRINTED: function 82 (api_Deriv)

-- NOT PRINTED: function 43 (code_reader_deriv)

end Go.Proofs.Ytiamcmjdoobaeaa.PCe
