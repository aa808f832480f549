-- SLIM: a printed text of which the unused ways are cut off
-- PRINTED by print.py (a twelfth state) out of the translation. Not trusted: Lean checks it.
import Derived.Test.YtogjnipojakfjaaPJdx0
import Derived.Test.YtogjnipojakfjaaPJdx1
import Derived.Test.YtogjnipojakfjaaPJdx2
namespace Go.Proofs.Ytogjnipojakfjaa.PJd
open Go.RowKit Go.Proofs.YtogjnipojakfjaaW.PrintWords Go.Proofs.YtogjnipojakfjaaW.PrintLast Go.Proofs.YtogjnipojakfjaaW.PrintMore
attribute [local go_sem] max2_int min2_int max_two min_two max_three min_three max_four min_four   -- for this text's walks alone
set_option linter.unusedVariables false
set_option linter.unusedSimpArgs false

/-! ### sha_Sum: function 68 (given) -/
def sha_Sum.run (kk : List Int) : Nat → List Int → sha_behind.St → Option sha_behind.St
  | 0, _, s => some s
  | q + 1, l, s => (sha_spread.f (l.take 64)).bind fun ws => (sha_behind.rnds kk ws s).bind fun x => sha_Sum.run kk q (l.drop 64) (sha_Block.st (sha_behind.add x s))
def sha_Sum.bytes (x : Int) : List Int := [x / 16777216 % 256, x / 65536 % 256, x / 256 % 256, x % 256]
def sha_Sum.f (k : Nat) (l : List Int) : Option (List Int) :=
  if l.length < 100000000000000 then
    sha_rounds.f.bind fun kk => sha_first.f.bind fun s0 => (sha_Sum.run kk (l.length / 64) l (sha_Block.st s0)).bind fun s1 => (sha_Tail.f k (l.length : Int)).bind fun tl =>
      if (l.drop (l.length / 64 * 64) ++ tl).length % 64 = 0 ∧ tl.length < 1000 then
        (sha_Sum.run kk ((l.drop (l.length / 64 * 64) ++ tl).length / 64) (l.drop (l.length / 64 * 64) ++ tl) s1).bind fun s2 => some (s2.list.flatMap sha_Sum.bytes)
      else none
  else none
theorem sha_Sum.keep_row {W w2 : World} {g base : Nat} {v : Value} {xs : List Int} {old : Array Value} {ok : Nat → Prop} (h : Kd.R (Kd.int .u8) 5 W base ok v xs) (hg : W.heap[g]? = some (.cells old 108 (0, 0))) (ho : ∀ k, k ≠ g → w2.heap[k]? = W.heap[k]?) : Kd.R (Kd.int .u8) 5 w2 base ok v xs := by
  refine Kd.R_mono (Kd.R_step (Kd.R_bound h) (fun k hk _ => ho k ?_)) (fun _ hk => hk.1)
  rintro rfl
  obtain ⟨_, _, _, q, hq, cells, hc⟩ := hk
  rw [hg] at hc
  injection hc with hc
  injection hc with _ ht
  subst ht
  exact absurd hq (by decide)
theorem sha_Sum.C_grown {W w1 : World} {A : Option Addr} {n : Nat} {xs : List Int} (h : Kd.C (Kd.int .u8) W A n xs) (hg : W.grownBy w1 none) : Kd.C (Kd.int .u8) w1 A n xs :=
  Kd.C_below h ⟨hg.os, hg.tape, hg.output, hg.size, fun k hk => hg.block k hk (by simp)⟩
theorem sha_Sum.ne_own {W : World} {g base : Nat} {v : Value} {xs : List Int} {cs : Array Value} {t : TypeId} {ok : Nat → Prop} (h : Kd.R (Kd.int .u8) 5 W base ok v xs) (hg : W.heap[g]? = some (.cells cs t (0, 0))) (hne : 5 ≠ t) : some g ≠ v.ownBlock := by
  obtain ⟨_, inner, ho, _⟩ := h
  exact own_ne ho hg hne
theorem sha_Sum.make0 (W : World) (base : Nat) (hb : base ≤ W.heap.size) : ∃ w', (Instr.makeSlice 22 (.int .i64 0) (.int .i64 32)).run Try.prog W = .ok (.slice (some ⟨W.heap.size, 0, none⟩) 0 32) w' ∧ Kd.R (Kd.int .u8) 5 w' base (fun _ => True) (.slice (some ⟨W.heap.size, 0, none⟩) 0 32) [] ∧ W.grownBy w' none := by
  obtain ⟨i0, hi0, hz, hsz, hby⟩ := info_parts info5
  obtain ⟨w', h1, h2, h3⟩ := run_make_own (P := Try.prog) W base 22 5 i0 _ 1 Try.underlying22 hi0 hz hsz .i64 .i64 32 (by omega) (by simp [maxLen]) hb
  exact ⟨w', h1, ⟨fun _ _ => trivial, [], h2, Reps.none _ _⟩, h3⟩
theorem sha_Sum.index (s : sha_behind.St) (o : Nat) (h : o < 8) : ∀ W : World, (Instr.index 108 (.agg s.cells) (.int .i64 (o : Int))).run Try.prog W = .ok (.int .u32 (rd s.list (o : Int))) W := by
  intro W
  obtain ⟨i0, hi0, hz, hsz, hby⟩ := info_parts info87
  have hu := Try.underlying108
  have hu2 := Try.underlying87
  have hc : s.cells[o]? = some (.int .u32 (rd s.list (o : Int))) := by
    rw [← sha_behind.St.cells_eq, sha_rounds.arr_get _ _ _ (by simpa [sha_behind.St.list] using h), sha_spread.rd_get s.list o o (by omega) (by simpa [sha_behind.St.list] using h)]
  simp [Instr.index, asIntOf, run_underlying hu, run_underlying hu2, sizeOf, typeInfo, hi0, hsz, h, part, isAgg, hc]
theorem sha_Sum.bytes_length (l : List Int) : (l.flatMap sha_Sum.bytes).length = 4 * l.length := by
  induction l with
  | nil => rfl
  | cons a l ih => rw [List.flatMap_cons, List.length_append, ih]; simp [sha_Sum.bytes]; omega
theorem sha_Sum.step (s : sha_behind.St) (o : Nat) (h : o < 8) : (s.list.take (o + 1)).flatMap sha_Sum.bytes = (s.list.take o).flatMap sha_Sum.bytes ++ sha_Sum.bytes (rd s.list (o : Int)) := by
  match o, h with
  | 0, _ => rfl
  | 1, _ => rfl
  | 2, _ => rfl
  | 3, _ => rfl
  | 4, _ => rfl
  | 5, _ => rfl
  | 6, _ => rfl
  | 7, _ => rfl
/-- a whole array read, in a region that draws its order -/
theorem sha_Sum.still_load {P : Program} {ops : Array Oper} {rest : List Oper} {o : Oper} {a : Act} {w : World} {Q : Act → Prop} (hgd : Region.wanted o (yielded ops a.tmps) = true) (ty : TypeId) (x : Operand) (ho : o.op = .load ty x)
    (g : Nat) (hx : a.eval x = .pointer (some ⟨g, 0, none⟩)) (t : TypeId) (cs : Array Value) (n : Nat) (el : TypeId) (hg : w.heap[g]? = some (.cells cs t (0, 0)))
    (hu : P.underlying ty = some (.array n el)) (hi : (P.info? ty).map (·.size) = some cs.size)
    (h : wpStill P ops w Q rest (a.put o.dst (.agg cs))) : wpStill P ops w Q (o :: rest) a := by
  refine wpStill_step (fun K hK => ?_)
  rw [if_pos hgd]
  unfold Oper.still execOp
  simp only [ho, hx, Instr.loadAt, Instr.sureAddr, Sem.run_bind, Sem.run_pure, Result.andThen_ok, run_loadVar_row w g t ty cs (0, 0) (.array n el) hg hu rfl hi]
  exact (Oper.stillUpon_value _ _ _ _ _).symm ▸ hK _ h
theorem sha_Sum.add_len (x s : sha_behind.St) : (sha_behind.add x s).length = 8 := by simp [sha_behind.add, sha_behind.St.list]
theorem sha_Sum.add_size (x s : sha_behind.St) : (Try.prog.info? 108).map (·.size) = some (nums .u32 (sha_behind.add x s)).toArray.size := by
  rw [show (Try.prog.info? 108).map (·.size) = some 8 from by kernel_rfl]; simp [nums, sha_Sum.add_len]
theorem sha_Sum.take_drop (l : List Int) (j : Nat) : (l.take (64 * j + 64)).drop (64 * j) = (l.drop (64 * j)).take 64 := by
  rw [List.drop_take]; congr 1; omega
set_option maxHeartbeats 8000000 in
set_option maxRecDepth 100000 in
theorem sha_Sum.calls (k : Nat) (A0 : Option Addr) (c0 : Nat) (l0 : List Int) (r : List Int) (w : World) (hr0 : Kd.C (Kd.int .u8) w A0 l0.length l0) (hc0 : l0.length ≤ c0) (h : sha_Sum.f k l0 = some r) :
    Calls Try.prog 68 #[.slice A0 l0.length c0] w fun e w' => ∃ v0_ : Value, e = .returned (v0_) ∧ Kd.R (Kd.int .u8) 5 w' w.heap.size (fun _ => True) v0_ r ∧ Below w.heap.size w w' := by
  have HR := Aside0.mk hr0
  have HC := Aside0.mk hc0
  have hf := h
  clear hr0 hc0 h
  unfold sha_Sum.f at hf
  by_cases hbig : l0.length < 100000000000000
  case neg => rw [if_neg hbig] at hf; exact absurd hf (by simp)
  rw [if_pos hbig] at hf
  obtain ⟨kk, hkk, hf1⟩ := Option.bind_eq_some_iff.mp hf
  obtain ⟨s0, hs0, hf2⟩ := Option.bind_eq_some_iff.mp hf1
  obtain ⟨s1, hs1, hf3⟩ := Option.bind_eq_some_iff.mp hf2
  obtain ⟨tl, htl, hf4⟩ := Option.bind_eq_some_iff.mp hf3
  by_cases hmod : (l0.drop (l0.length / 64 * 64) ++ tl).length % 64 = 0 ∧ tl.length < 1000
  case neg => rw [if_neg hmod] at hf4; exact absurd hf4 (by simp)
  rw [if_pos hmod] at hf4
  obtain ⟨s2, hs2, hf5⟩ := Option.bind_eq_some_iff.mp hf4
  obtain rfl := Option.some.inj hf5
  have HKK := Aside0.mk hkk
  have HKL := Aside0.mk (sha_rounds.len64 hkk)
  have HS0 := Aside0.mk hs0
  have HS8 := Aside0.mk (sha_first.len8 hs0)
  have HS1 := Aside0.mk hs1
  have HTL := Aside0.mk htl
  have HMOD := Aside0.mk hmod
  have HS2 := Aside0.mk hs2
  clear hf hf1 hf2 hf3 hf4 hf5 hkk hs0 hs1 htl hmod hs2
  obtain ⟨n, hn⟩ : ∃ n, n = l0.length / 64 := ⟨_, rfl⟩
  rw [← hn] at HS1 HMOD HS2
  have hnw : IntKind.i64.wrap ((l0.length : Int) - Int.tmod (l0.length : Int) 64) = 64 * (n : Int) := by
    rw [Int.tmod_eq_emod_of_nonneg (by omega)]
    rw [IntWalk.i64_in _ (by omega)]
    omega
  go_enter Try.func68, Try.ntmps68
  go_wp2_with (first | (go_at_call 72; (with_reducible refine (sha_rounds.calls kk _ HKK.out).mono ?_); rintro e w1 ⟨rfl, hb⟩; have HB := Aside0.mk hb; clear hb) | ((refine sha_behind.put_row (w0 := w) rfl 105 (.tmp 3) (.tmp 12) rfl w1.heap.size _ rfl rfl 105 _ (blk_new _ _) (sha_rounds.size kk HKL.out) (by have := HKL.out; simp [nums, this]) (sha_rounds.ones _ _) (below_alloc HB.out _) (below_size HB.out) ?_); intro w2 hg2 ho2 hz2 hb2; (have HK2 : Aside0 (sha_rounds.Blk w2 w1.heap.size kk) := ⟨⟨hg2⟩⟩); (have HB2 : Aside0 (Below w.heap.size w w2) := ⟨hb2⟩); (have HZ2 : Aside0 (w2.heap.size = w1.heap.size + 1) := ⟨by rw [hz2]; simp⟩); clear hg2 ho2 hz2 hb2) | (go_at_call 73; (with_reducible refine (sha_first.calls s0 _ HS0.out).mono ?_); rintro e w3 ⟨rfl, hb⟩; have HB3 := Aside0.mk (below_step HB2.out hb); (have HK3 : Aside0 (sha_rounds.Blk w3 w1.heap.size kk) := ⟨⟨blk_below HK2.out.out hb⟩⟩); (have HZ3 : Aside0 (w1.heap.size < w3.heap.size) := ⟨by have := hb.size; have := HZ2.out; omega⟩); clear hb) | ((refine sha_behind.put_row (w0 := w) rfl 108 (.tmp 4) (.tmp 13) rfl w3.heap.size _ rfl rfl 108 _ (blk_new _ _) (sha_first.size s0 HS8.out) (by have := HS8.out; simp [nums, this]) (sha_rounds.ones _ _) (below_alloc HB3.out _) (below_size HB3.out) ?_); intro w4 hg4 ho4 hz4 hb4; (have HX4 : Aside0 (sha_behind.Blk w4 w3.heap.size (sha_Block.st s0)) := ⟨⟨by rw [← sha_behind.St.cells_eq, sha_Block.st_list HS8.out]; exact hg4⟩⟩); (have HK4 : Aside0 (sha_rounds.Blk w4 w1.heap.size kk) := ⟨⟨(ho4 _ (by have := HZ3.out; omega)).trans (blk_alloc HK3.out.out _)⟩⟩); (have HB4 : Aside0 (Below w.heap.size w w4) := ⟨hb4⟩); clear hg4 ho4 hz4 hb4))
  have hne : ((l0.length : Int) - (l0.length : Int) % 64) = 64 * (n : Int) := by omega
  rw [hne]
  clear hne hnw
  obtain ⟨g0, hg0⟩ : ∃ g0, g0 = w1.heap.size := ⟨_, rfl⟩
  obtain ⟨g1, hg1⟩ : ∃ g1, g1 = w3.heap.size := ⟨_, rfl⟩
  have HG : Aside0 (w.heap.size ≤ g0 ∧ g0 < g1) := ⟨by have := HB.out.size; have := HZ3.out; omega⟩
  rw [← hg0, ← hg1]
  rw [← hg0] at HK4
  rw [← hg1] at HX4
  have HN : Aside0 (n = l0.length / 64) := ⟨hn⟩
  clear hg0 hg1 HZ2 HZ3 HK2 HK3 HB HB2 HB3 hn
  go_loopg [6] n (fun q v6 w' => ∃ (j : Nat) (s : sha_behind.St), v6 = .int .i64 (64 * (j : Int)) ∧ j + q = n ∧ Aside0 (sha_Sum.run kk q (l0.drop (64 * j)) s = some s1) ∧ Aside0 (sha_behind.Blk w' g1 s) ∧ Aside0 (sha_rounds.Blk w' g0 kk) ∧ Aside0 (Below w.heap.size w w'))
  case atStart => exact ⟨0, _, by go_num, by omega, HS1, HX4, HK4, HB4⟩
  case round =>
    clear HX4 HK4 HB4 HS1
    obtain ⟨j, s, rfl, hjq, HM, HX, HK, HB⟩ := hrel
    cases gk with
    | zero =>
      obtain rfl : j = n := by omega
      have hjb : decide ((64 * (j : Int)) < 64 * (j : Int)) = false := by simp
      have hm := HM.out
      simp only [sha_Sum.run] at hm
      obtain rfl := Option.some.inj hm
      clear hm HM
      obtain ⟨rest, hrest⟩ : ∃ rest, rest = l0.drop (64 * j) := ⟨_, rfl⟩
      have hC := Kd.C_below HR.out HB.out
      have hle : 64 * j ≤ l0.length := by have := HN.out; omega
      have hrl : rest.length < 64 := by have := HN.out; rw [hrest, List.length_drop]; omega
      have hr := Kd.C_drop hC hle HC.out
      obtain ⟨i0, hi0, _, hsz, _⟩ := info_parts info5
      have hcut := cut_from (P := Try.prog) 22 5 .i64 Try.underlying22 hi0 1 hsz A0 l0.length c0 (64 * (j : Int)) (by omega) (by omega)
      rw [show (64 * (j : Int)).toNat = 64 * j by omega] at hcut
      obtain ⟨A1, hA1⟩ : ∃ A1, A1 = (if c0 = 64 * j then A0 else A0.map (·.add (64 * j * 1))) := ⟨_, rfl⟩
      obtain ⟨c1, hc1⟩ : ∃ c1, c1 = c0 - 64 * j := ⟨_, rfl⟩
      rw [← hA1, ← hc1] at hcut
      rw [← hrest] at hr
      rw [show l0.length - 64 * j = rest.length by rw [hrest, List.length_drop]] at hcut
      have HRB : Aside0 (Kd.C (Kd.int .u8) wr A1 rest.length rest) := ⟨by rw [hA1]; exact hr⟩
      have HC1 : Aside0 (rest.length ≤ c1) := ⟨by rw [hrest, hc1, List.length_drop]; have := HC.out; omega⟩
      have HMOD2 : Aside0 ((rest ++ tl).length % 64 = 0 ∧ tl.length < 1000 ∧ rest.length < 64) := ⟨by rw [hrest]; have := HMOD.out; rw [Nat.mul_comm j 64] at this; exact ⟨this.1, this.2, by rw [← hrest]; exact hrl⟩⟩
      have HS22 : Aside0 (sha_Sum.run kk ((rest ++ tl).length / 64) (rest ++ tl) s = some s2) := ⟨by rw [hrest]; have := HS2.out; rw [Nat.mul_comm j 64] at this; exact this⟩
      clear hC hr hi0 hsz hA1 hc1 hrest HMOD HS2 hrl
      go_wp2_with (first | ((with_reducible refine gate_dst (N := 32) rfl ?_); refine Kd.R_lit (Kd.int .u8) _ 5 ?hg (N := 32) ?hd (xs := ([] : List Int)) (inner := []) (ok := fun _ => True) (okp := fun _ => True) ?hr ?hp (fun _ hk => hk) trivial HB.out HB.out.size (by simp) ?_; (case hd => rfl); (case hg => rfl); (case hr => (go_simp; done)); (case hp => exact (Reps.none _ _)); intro v1 w5 ho5 hb5 hg5 hat5; (have HX5 : Aside0 (sha_behind.Blk w5 g1 s) := ⟨⟨blk_grown HX.out.out hg5 (by simp)⟩⟩); (have HK5 : Aside0 (sha_rounds.Blk w5 g0 kk) := ⟨⟨blk_grown HK.out.out hg5 (by simp)⟩⟩); (have HO5 : Aside0 (Kd.R (Kd.int .u8) 5 w5 w.heap.size (fun _ => True) v1 []) := ⟨ho5⟩); (have HB5 : Aside0 (Below w.heap.size w w5) := ⟨hb5⟩); (have HRB5 : Aside0 (Kd.C (Kd.int .u8) w5 A1 rest.length rest) := ⟨sha_Sum.C_grown HRB.out hg5⟩); clear ho5 hb5 hg5 hat5 HX HK HB HRB) | ((with_reducible refine gate_builtin (b := .append) (xs := #[.tmp 32, .tmp 35]) rfl ?_); at_builtin; refine Kd.R_append_rows (Kd.int .u8) (w0 := w) w.heap.size rfl (.tmp 32) (.tmp 35) 22 5 (.int .u8 0) 1 rfl Try.underlying22 info5 rfl (by decide) (by omega) v1 ([] : List Int) rest _ _ _ (fun _ => True) (fun _ => False) rfl rfl HO5.out HRB5.out (fun _ _ h => h) (fun _ h => h.elim) (fun _ _ => trivial) HB5.out HB5.out.size (by have := HMOD2.out; simp; omega) ?_; intro v2 w6 ho6 hb6 hg6 hat6; (have HX6 : Aside0 (sha_behind.Blk w6 g1 s) := ⟨⟨blk_grown HX5.out.out hg6 (sha_Sum.ne_own HO5.out HX5.out.out (by decide))⟩⟩); (have HK6 : Aside0 (sha_rounds.Blk w6 g0 kk) := ⟨⟨blk_grown HK5.out.out hg6 (sha_Sum.ne_own HO5.out HK5.out.out (by decide))⟩⟩); (have HO6 : Aside0 (Kd.R (Kd.int .u8) 5 w6 w.heap.size (fun _ => True) v2 rest) := ⟨ho6⟩); (have HB6 : Aside0 (Below w.heap.size w w6) := ⟨hb6⟩); clear ho6 hb6 hg6 hat6 HX5 HK5 HB5 HRB5 HO5) | (go_at_call 75; (with_reducible refine (sha_Tail.calls k _ tl _ HTL.out).mono ?_); rintro e w7 ⟨v3, rfl, ho7, hb7⟩; (have HX7 : Aside0 (sha_behind.Blk w7 g1 s) := ⟨⟨blk_below HX6.out.out hb7⟩⟩); (have HK7 : Aside0 (sha_rounds.Blk w7 g0 kk) := ⟨⟨blk_below HK6.out.out hb7⟩⟩); (have HO7 : Aside0 (Kd.R (Kd.int .u8) 5 w7 w.heap.size (fun _ => True) v2 rest) := ⟨Kd.R_below HO6.out hb7⟩); (have HB7 : Aside0 (Below w.heap.size w w7) := ⟨below_step HB6.out hb7⟩); (obtain ⟨A3, c3, e3⟩ := Kd.R_slice ho7); (have HT7 : Aside0 (Kd.C (Kd.int .u8) w7 A3 tl.length tl ∧ ∀ k, A3.map (·.block) = some k → True) := ⟨by rw [e3] at ho7; exact ⟨(Kd.R_reads' ho7).2.2, fun _ _ => trivial⟩⟩); subst e3; clear ho7 hb7 HX6 HK6 HB6 HO6) | ((with_reducible refine gate_builtin (b := .append) (xs := #[.tmp 37, .tmp 40]) rfl ?_); at_builtin; refine Kd.R_append_rows (Kd.int .u8) (w0 := w) w.heap.size rfl (.tmp 37) (.tmp 40) 22 5 (.int .u8 0) 1 rfl Try.underlying22 info5 rfl (by decide) (by omega) v2 rest tl _ _ _ (fun _ => True) (fun _ => False) rfl rfl HO7.out HT7.out.1 (fun _ _ h => h) (fun _ h => h.elim) (fun _ _ => trivial) HB7.out HB7.out.size (by have := HMOD2.out; omega) ?_; intro v4 w8 ho8 hb8 hg8 hat8; (have HX8 : Aside0 (sha_behind.Blk w8 g1 s) := ⟨⟨blk_grown HX7.out.out hg8 (sha_Sum.ne_own HO7.out HX7.out.out (by decide))⟩⟩); (have HK8 : Aside0 (sha_rounds.Blk w8 g0 kk) := ⟨⟨blk_grown HK7.out.out hg8 (sha_Sum.ne_own HO7.out HK7.out.out (by decide))⟩⟩); (have HO8 : Aside0 (Kd.R (Kd.int .u8) 5 w8 w.heap.size (fun _ => True) v4 (rest ++ tl)) := ⟨ho8⟩); (have HB8 : Aside0 (Below w.heap.size w w8) := ⟨hb8⟩); clear ho8 hb8 hg8 hat8 HX7 HK7 HB7 HT7 HO7))
      obtain ⟨al, hal⟩ : ∃ al, al = rest ++ tl := ⟨_, rfl⟩
      obtain ⟨m, hm⟩ : ∃ m, m = al.length / 64 := ⟨_, rfl⟩
      have HS23 : Aside0 (sha_Sum.run kk m al s = some s2) := ⟨by rw [hm, hal]; exact HS22.out⟩
      have hl1 : (rest ++ tl).length = rest.length + tl.length := by simp
      have HAL : Aside0 (al.length = 64 * m ∧ al.length < 2000) := ⟨by
        have := HMOD2.out
        rw [← hal] at this hl1
        omega⟩
      clear hl1
      rw [← hal] at HO8
      clear hal hm HS22 HMOD2 hcut HC1
      obtain ⟨wo, rfl⟩ : ∃ wo : World, wo = wr := ⟨_, rfl⟩
      obtain ⟨A2, c2, e2⟩ := Kd.R_slice HO8.out
      subst e2
      have HC2 : Aside0 (al.length ≤ c2) := ⟨(Kd.R_reads' HO8.out).2.1⟩
      go_loopg [8] m (fun q v8 w' => ∃ (i : Nat) (s : sha_behind.St), v8 = .int .i64 (64 * (i : Int)) ∧ i + q = m ∧ Aside0 (sha_Sum.run kk q (al.drop (64 * i)) s = some s2) ∧ Aside0 (sha_behind.Blk w' g1 s) ∧ Aside0 (sha_rounds.Blk w' g0 kk) ∧ Aside0 (Kd.R (Kd.int .u8) 5 w' w.heap.size (fun _ => True) (.slice A2 al.length c2) al) ∧ Aside0 (Below w.heap.size w w'))
      case atStart => exact ⟨0, _, by go_num, by omega, HS23, HX8, HK8, HO8, HB8⟩
      case round =>
        clear HX8 HK8 HB8 HO8 HS23
        obtain ⟨i, s, rfl, hiq, HM, HX, HK, HO, HB⟩ := hrel
        cases gk with
        | zero =>
          obtain rfl : i = m := by omega
          have hal := HAL.out.1
          have hjb : decide ((64 * (i : Int)) < (al.length : Int)) = false := decide_eq_false (by omega)
          have hm := HM.out
          simp only [sha_Sum.run] at hm
          obtain rfl := Option.some.inj hm
          clear hm HM hal
          obtain ⟨w5, hmk, ho5, hg5⟩ := sha_Sum.make0 wr w.heap.size HB.out.size
          have HX5 : Aside0 (sha_behind.Blk w5 g1 s) := ⟨⟨blk_grown HX.out.out hg5 (by simp)⟩⟩
          have HO5 := Aside0.mk ho5
          have HB5 : Aside0 (Below w.heap.size w w5) := ⟨HB.out.grown hg5 HB.out.size (by simp)⟩
          clear HX HK HO HB ho5 hg5
          go_wp2_with (refine wpList_load_row rfl 108 (.tmp 4) rfl g1 rfl 108 _ (0, 0) _ HX5.out.out Try.underlying108 rfl (sha_behind.size s) ?_)
          clear hmk
          obtain ⟨w6, rfl⟩ : ∃ wo : World, wo = wr := ⟨_, rfl⟩
          go_loopg [9, 57] 8 (fun q v9 v57 w' => ∃ (o : Nat), v57 = .int .i64 (o : Int) ∧ o + q = 8 ∧ Aside0 (Kd.R (Kd.int .u8) 5 w' w.heap.size (fun _ => True) v9 ((s.list.take o).flatMap sha_Sum.bytes)) ∧ Aside0 (Below w.heap.size w w'))
          case atStart => exact ⟨0, by go_num, by omega, HO5, HB5⟩
          case round =>
            clear HO5 HB5
            obtain ⟨o, rfl, hoq, HO, HB⟩ := hrel
            cases gk with
            | zero =>
              obtain rfl : o = 8 := by omega
              have hjb : decide (((8 : Nat) : Int) < 8) = false := by decide
              go_wp2
              go_ret
              exact ⟨_, rfl, by have := HO.out; rw [List.take_of_length_le (by simp [sha_behind.St.list])] at this; exact this, HB.out⟩
            | succ q =>
              have hjn : (o : Int) < 8 := by omega
              have hjb : decide ((o : Int) < 8) = true := decide_eq_true hjn
              have hidx := sha_Sum.index s o (by omega)
              have hstep := sha_Sum.step s o (by omega)
              have HST := Aside0.mk hstep
              have HTL2 : Aside0 (((s.list.take o).flatMap sha_Sum.bytes).length = 4 * o) := ⟨by rw [sha_Sum.bytes_length, List.length_take]; simp [sha_behind.St.list]; omega⟩
              clear hstep
              generalize (s.list.take o).flatMap sha_Sum.bytes = d at *
              generalize rd s.list (o : Int) = z at *
              go_wp2_with (first | ((with_reducible refine gate_dst (N := 72) rfl ?_); refine Kd.R_lit (Kd.int .u8) w.heap.size 5 ?hg (N := 72) ?hd (xs := sha_Sum.bytes z) (inner := nums .u8 (sha_Sum.bytes z)) (ok := fun _ => True) (okp := fun _ => True) ?hr ?hp (fun _ hk => hk) trivial HB.out HB.out.size (by simp [sha_Sum.bytes]) ?_; (case hd => rfl); (case hg => rfl); (case hr => (go_simp; exact ⟨rfl, rfl⟩)); (case hp => exact Reps.one rfl (Reps.one rfl (Reps.one rfl (Reps.one rfl (Reps.none _ _))))); intro v5 w7 ho7 hb7 hg7 hat7; (have HO7 : Aside0 (Kd.R (Kd.int .u8) 5 w7 w.heap.size (fun _ => True) u9 d) := ⟨Kd.R_grown HO.out hg7 (fun _ _ => by simp)⟩); (have HB7 : Aside0 (Below w.heap.size w w7) := ⟨hb7⟩); (obtain ⟨A5, c5, e5⟩ := Kd.R_slice ho7); subst e5; (have HT7 : Aside0 (Kd.C (Kd.int .u8) w7 A5 (sha_Sum.bytes z).length (sha_Sum.bytes z)) := ⟨(Kd.R_reads' ho7).2.2⟩); clear ho7 hb7 hg7 hat7 HO HB) | ((with_reducible refine gate_builtin (b := .append) (xs := #[.tmp 60, .tmp 72]) rfl ?_); at_builtin; refine Kd.R_append_rows (Kd.int .u8) (w0 := w) w.heap.size rfl (.tmp 60) (.tmp 72) 22 5 (.int .u8 0) 1 rfl Try.underlying22 info5 rfl (by decide) (by omega) u9 d (sha_Sum.bytes z) _ _ _ (fun _ => True) (fun _ => False) rfl rfl HO7.out HT7.out (fun _ _ h => h) (fun _ h => h.elim) (fun _ _ => trivial) HB7.out HB7.out.size (by have := HTL2.out; simp [sha_Sum.bytes]; omega) ?_; intro v8 w8 ho8 hb8 hg8 hat8; (have HO8 : Aside0 (Kd.R (Kd.int .u8) 5 w8 w.heap.size (fun _ => True) v8 (d ++ sha_Sum.bytes z)) := ⟨ho8⟩); (have HB8 : Aside0 (Below w.heap.size w w8) := ⟨hb8⟩); clear ho8 hb8 hg8 hat8 HB7 HT7 HO7))
              go_roundg q
              case measure => omega
              case rel => exact ⟨o + 1, by go_num, by omega, by rw [HST.out]; exact HO8, HB8⟩
        | succ q =>
          have hal := HAL.out.1
          have hal2 := HAL.out.2
          have hjn : (64 * (i : Int)) < (al.length : Int) := by omega
          have hjb : decide ((64 * (i : Int)) < (al.length : Int)) = true := decide_eq_true hjn
          have hlen : 64 * i + 64 ≤ al.length := by omega
          have hm := HM.out
          simp only [sha_Sum.run] at hm
          obtain ⟨ws, hws, hm1⟩ := Option.bind_eq_some_iff.mp hm
          obtain ⟨x, hx, hm2⟩ := Option.bind_eq_some_iff.mp hm1
          have HWS := Aside0.mk hws
          have HXR := Aside0.mk hx
          have HM2 : Aside0 (sha_Sum.run kk q (al.drop (64 * (i + 1))) (sha_Block.st (sha_behind.add x s)) = some s2) := ⟨by rw [← hm2, List.drop_drop]; congr 1⟩
          clear hm hm1 hm2 hws hx HM
          have hw6 : IntKind.i64.wrap (64 * (i : Int) + 64) = 64 * (i : Int) + 64 := IntWalk.i64_in _ (by omega)
          have hz := sha_Sum.take_drop al i
          have hC := Kd.C_drew (Kd.R_reads' HO.out).2.2
          have hr := Kd.C_mid (lo := 64 * i) (hi := 64 * i + 64) (c := c2) hC (by omega) hlen HC2.out
          obtain ⟨i0, hi0, _, hsz, _⟩ := info_parts info5
          have hcut := cut_mid (P := Try.prog) 22 5 .i64 .i64 Try.underlying22 hi0 1 hsz A2 al.length c2 (64 * (i : Int)) (64 * (i : Int) + 64) (by omega) (by omega) (by omega) HC2.out
          rw [show (64 * (i : Int)).toNat = 64 * i by omega, show (64 * (i : Int) + 64).toNat = 64 * i + 64 by omega] at hcut
          rw [hz] at hr
          have hyl : ((al.drop (64 * i)).take 64).length = 64 := by rw [List.length_take, List.length_drop]; omega
          rw [show 64 * i + 64 - 64 * i = 64 by omega] at hcut
          obtain ⟨A1', hA1⟩ : ∃ A1, A1 = (if c2 = 64 * i then A2 else A2.map (·.add (64 * i * 1))) := ⟨_, rfl⟩
          obtain ⟨c1', hc1⟩ : ∃ c1, c1 = c2 - 64 * i := ⟨_, rfl⟩
          rw [← hA1, ← hc1] at hcut
          have HRB : Aside0 (Kd.C (Kd.int .u8) wr.drew A1' ((al.drop (64 * i)).take 64).length ((al.drop (64 * i)).take 64)) := ⟨by rw [hA1]; exact hr⟩
          have HC1 : Aside0 (((al.drop (64 * i)).take 64).length ≤ c1') := ⟨by rw [hyl, hc1]; have := HC2.out; omega⟩
          have HYL := Aside0.mk hyl
          clear hz hC hr hi0 hsz hA1 hc1 hyl hal hal2
          generalize (al.drop (64 * i)).take 64 = y at *
          have hcut2 : ∀ W : World, (Instr.slice 22 (.slice A2 al.length c2) (some (.int .i64 (64 * (i : Int)))) (some (.int .i64 (64 * (i : Int) + 64))) none).run Try.prog W = .ok (.slice A1' y.length c1') W := fun W => by rw [HYL.out]; exact hcut W
          clear hcut
          go_wp2
          refine wp_region_still_tail 6 (by kernel_rfl) (by kernel_rfl) ?_
          simp only [List.take_succ_cons, List.take_zero, List.drop_succ_cons, List.drop_zero]
          refine sha_Sum.still_load rfl 108 (.tmp 4) rfl g1 rfl 108 s.cells 8 87 HX.out.out Try.underlying108 (sha_behind.size s) ?_
          repeat still_step
          refine wpStill_nil ?_
          change wpList _ _ _ _ _ wr.drew
          obtain ⟨W4, hW4⟩ : ∃ W4, W4 = wr.drew := ⟨_, rfl⟩
          have HX4 : Aside0 (sha_behind.Blk W4 g1 s) := ⟨⟨by rw [hW4]; exact HX.out.out⟩⟩
          have HK4 : Aside0 (sha_rounds.Blk W4 g0 kk) := ⟨⟨by rw [hW4]; exact HK.out.out⟩⟩
          have HO4 : Aside0 (Kd.R (Kd.int .u8) 5 W4 w.heap.size (fun _ => True) (.slice A2 al.length c2) al) := ⟨by rw [hW4]; exact Kd.R_drew HO.out⟩
          have HB4 : Aside0 (Below w.heap.size w W4) := ⟨by rw [hW4]; exact below_drew HB.out⟩
          rw [← hW4] at HRB
          rw [← hW4]
          clear hW4 HX HK HB HO hcut2
          go_wp2_with (first | (go_at_call 74; (with_reducible refine (sha_behind.calls s A1' c1' y g0 kk _ HRB.out HC1.out HYL.out HK4.out HKL.out ws HWS.out x HXR.out).mono ?_); rintro e w5 ⟨rfl, hb5⟩; (have HB5 : Aside0 (Below w.heap.size w w5) := ⟨below_step HB4.out hb5⟩); (have HX5 : Aside0 (sha_behind.Blk w5 g1 s) := ⟨⟨blk_below HX4.out.out hb5⟩⟩); (have HK5 : Aside0 (sha_rounds.Blk w5 g0 kk) := ⟨⟨blk_below HK4.out.out hb5⟩⟩); (have HO5 : Aside0 (Kd.R (Kd.int .u8) 5 w5 w.heap.size (fun _ => True) (.slice A2 al.length c2) al) := ⟨Kd.R_below HO4.out hb5⟩); clear hb5 HX4 HK4 HB4 HO4) | ((refine sha_behind.put_row (w0 := w) rfl 108 (.tmp 4) (.tmp 54) rfl g1 _ rfl rfl 108 _ HX5.out.out (sha_Sum.add_size x s) (by simp [nums, sha_behind.add, sha_behind.St.list, sha_behind.St.cells]) (sha_rounds.ones _ _) HB5.out (by have := HG.out; omega) ?_); intro w6 hg6 ho6 hz6 hb6; (have HX6 : Aside0 (sha_behind.Blk w6 g1 (sha_Block.st (sha_behind.add x s))) := ⟨⟨by rw [← sha_behind.St.cells_eq, sha_Block.st_list (sha_Sum.add_len x s)]; exact hg6⟩⟩); (have HK6 : Aside0 (sha_rounds.Blk w6 g0 kk) := ⟨⟨(ho6 _ (by have := HG.out; omega)).trans HK5.out.out⟩⟩); (have HO6 : Aside0 (Kd.R (Kd.int .u8) 5 w6 w.heap.size (fun _ => True) (.slice A2 al.length c2) al) := ⟨sha_Sum.keep_row HO5.out HX5.out.out ho6⟩); (have HB6 : Aside0 (Below w.heap.size w w6) := ⟨hb6⟩); clear hg6 ho6 hz6 hb6 HX5 HK5 HB5 HO5))
          go_roundg q
          case measure => omega
          case rel => exact ⟨i + 1, _, by go_num, by omega, HM2, HX6, HK6, HO6, HB6⟩
    | succ q =>
      have hjn : (64 * (j : Int)) < 64 * (n : Int) := by omega
      have hjb : decide ((64 * (j : Int)) < 64 * (n : Int)) = true := decide_eq_true hjn
      have hlen : 64 * j + 64 ≤ l0.length := by have := HN.out; omega
      have hm := HM.out
      simp only [sha_Sum.run] at hm
      obtain ⟨ws, hws, hm1⟩ := Option.bind_eq_some_iff.mp hm
      obtain ⟨x, hx, hm2⟩ := Option.bind_eq_some_iff.mp hm1
      have HWS := Aside0.mk hws
      have HXR := Aside0.mk hx
      have HM2 : Aside0 (sha_Sum.run kk q (l0.drop (64 * (j + 1))) (sha_Block.st (sha_behind.add x s)) = some s1) := ⟨by rw [← hm2, List.drop_drop]; congr 1⟩
      clear hm hm1 hm2 hws hx HM
      have hw6 : IntKind.i64.wrap (64 * (j : Int) + 64) = 64 * (j : Int) + 64 := IntWalk.i64_in _ (by omega)
      have hz := sha_Sum.take_drop l0 j
      have hC := Kd.C_below HR.out (below_drew HB.out)
      have hr := Kd.C_mid (lo := 64 * j) (hi := 64 * j + 64) (c := c0) hC (by omega) hlen HC.out
      obtain ⟨i0, hi0, _, hsz, _⟩ := info_parts info5
      have hcut := cut_mid (P := Try.prog) 22 5 .i64 .i64 Try.underlying22 hi0 1 hsz A0 l0.length c0 (64 * (j : Int)) (64 * (j : Int) + 64) (by omega) (by omega) (by omega) HC.out
      rw [show (64 * (j : Int)).toNat = 64 * j by omega, show (64 * (j : Int) + 64).toNat = 64 * j + 64 by omega] at hcut
      rw [hz] at hr
      have hyl : ((l0.drop (64 * j)).take 64).length = 64 := by rw [List.length_take, List.length_drop]; omega
      rw [show 64 * j + 64 - 64 * j = 64 by omega] at hcut
      obtain ⟨A1, hA1⟩ : ∃ A1, A1 = (if c0 = 64 * j then A0 else A0.map (·.add (64 * j * 1))) := ⟨_, rfl⟩
      obtain ⟨c1, hc1⟩ : ∃ c1, c1 = c0 - 64 * j := ⟨_, rfl⟩
      rw [← hA1, ← hc1] at hcut
      have HRB : Aside0 (Kd.C (Kd.int .u8) wr.drew A1 ((l0.drop (64 * j)).take 64).length ((l0.drop (64 * j)).take 64)) := ⟨by rw [hA1]; exact hr⟩
      have HC1 : Aside0 (((l0.drop (64 * j)).take 64).length ≤ c1) := ⟨by rw [hyl, hc1]; have := HC.out; omega⟩
      have HYL := Aside0.mk hyl
      clear hz hC hr hi0 hsz hA1 hc1 hyl
      generalize (l0.drop (64 * j)).take 64 = y at *
      have hcut2 : ∀ W : World, (Instr.slice 22 (.slice A0 l0.length c0) (some (.int .i64 (64 * (j : Int)))) (some (.int .i64 (64 * (j : Int) + 64))) none).run Try.prog W = .ok (.slice A1 y.length c1) W := fun W => by rw [HYL.out]; exact hcut W
      clear hcut
      go_wp2
      refine wp_region_still_tail 6 (by kernel_rfl) (by kernel_rfl) ?_
      simp only [List.take_succ_cons, List.take_zero, List.drop_succ_cons, List.drop_zero]
      refine sha_Sum.still_load rfl 108 (.tmp 4) rfl g1 rfl 108 s.cells 8 87 HX.out.out Try.underlying108 (sha_behind.size s) ?_
      repeat still_step
      refine wpStill_nil ?_
      change wpList _ _ _ _ _ wr.drew
      obtain ⟨W4, hW4⟩ : ∃ W4, W4 = wr.drew := ⟨_, rfl⟩
      have HX4 : Aside0 (sha_behind.Blk W4 g1 s) := ⟨⟨by rw [hW4]; exact HX.out.out⟩⟩
      have HK4 : Aside0 (sha_rounds.Blk W4 g0 kk) := ⟨⟨by rw [hW4]; exact HK.out.out⟩⟩
      have HB4 : Aside0 (Below w.heap.size w W4) := ⟨by rw [hW4]; exact below_drew HB.out⟩
      rw [← hW4] at HRB
      rw [← hW4]
      clear hW4 HX HK HB hcut2
      go_wp2_with (first | (go_at_call 74; (with_reducible refine (sha_behind.calls s A1 c1 y g0 kk _ HRB.out HC1.out HYL.out HK4.out HKL.out ws HWS.out x HXR.out).mono ?_); rintro e w5 ⟨rfl, hb5⟩; (have HB5 : Aside0 (Below w.heap.size w w5) := ⟨below_step HB4.out hb5⟩); (have HX5 : Aside0 (sha_behind.Blk w5 g1 s) := ⟨⟨blk_below HX4.out.out hb5⟩⟩); (have HK5 : Aside0 (sha_rounds.Blk w5 g0 kk) := ⟨⟨blk_below HK4.out.out hb5⟩⟩); clear hb5 HX4 HK4 HB4) | ((refine sha_behind.put_row (w0 := w) rfl 108 (.tmp 4) (.tmp 31) rfl g1 _ rfl rfl 108 _ HX5.out.out (sha_Sum.add_size x s) (by simp [nums, sha_behind.add, sha_behind.St.list, sha_behind.St.cells]) (sha_rounds.ones _ _) HB5.out (by have := HG.out; omega) ?_); intro w6 hg6 ho6 hz6 hb6; (have HX6 : Aside0 (sha_behind.Blk w6 g1 (sha_Block.st (sha_behind.add x s))) := ⟨⟨by rw [← sha_behind.St.cells_eq, sha_Block.st_list (sha_Sum.add_len x s)]; exact hg6⟩⟩); (have HK6 : Aside0 (sha_rounds.Blk w6 g0 kk) := ⟨⟨(ho6 _ (by have := HG.out; omega)).trans HK5.out.out⟩⟩); (have HB6 : Aside0 (Below w.heap.size w w6) := ⟨hb6⟩); clear hg6 ho6 hz6 hb6 HX5 HK5 HB5))
      go_roundg q
      case measure => omega
      case rel => exact ⟨j + 1, _, by go_num, by omega, HM2, HX6, HK6, HB6⟩

/-! ### hmac_block: function 65 (given) -/
/-- a key with zeros behind it, 64 bytes -/
def hmac_block.pad (kb : List Int) : List Int := kb.take 64 ++ List.replicate (64 - kb.length) 0
def hmac_block.cell (z c : Int) : Int := Go.bits .xor .u8 z c
def hmac_block.f (k : Nat) (l : List Int) (c : Int) : Option (List Int) :=
  (if 64 < l.length then sha_Sum.f k l else some l).bind fun kb => some ((hmac_block.pad kb).map (fun z => hmac_block.cell z c))
theorem hmac_block.pad_eq (kb : List Int) : hmac_block.pad kb = kb.take (min kb.length (List.replicate 64 (0 : Int)).length) ++ (List.replicate 64 (0 : Int)).drop (min kb.length (List.replicate 64 (0 : Int)).length) := by
  unfold hmac_block.pad
  simp only [List.length_replicate, List.drop_replicate]
  congr 1
  · by_cases h : kb.length ≤ 64
    · rw [Nat.min_eq_left h, List.take_of_length_le h, List.take_of_length_le (Nat.le_refl _)]
    · rw [Nat.min_eq_right (by omega)]
  · congr 1; omega
theorem hmac_block.pad_length (kb : List Int) : (hmac_block.pad kb).length = 64 := by simp [hmac_block.pad]; omega
def hmac_block.row (kz : List Int) (c : Int) (n : Nat) : List Int := (kz.take n).map (fun z => hmac_block.cell z c) ++ kz.drop n
theorem hmac_block.row_zero (kz : List Int) (c : Int) : hmac_block.row kz c 0 = kz := by simp [hmac_block.row]
theorem hmac_block.row_all (kz : List Int) (c : Int) (h : kz.length = 64) : hmac_block.row kz c 64 = kz.map (fun z => hmac_block.cell z c) := by
  unfold hmac_block.row
  rw [List.take_of_length_le (by omega), List.drop_eq_nil_of_le (by omega), List.append_nil]
theorem hmac_block.row_rd (kz : List Int) (c : Int) (n : Nat) (h : n < kz.length) : rd (hmac_block.row kz c n) (n : Int) = kz[n] := by
  unfold hmac_block.row
  unfold rd
  rw [Int.toNat_natCast, List.getD_eq_getElem?_getD, List.getElem?_append_right (by simp; omega)]
  simp [show min n kz.length = n by omega, List.getElem?_eq_getElem h]
theorem hmac_block.row_succ (kz : List Int) (c : Int) (n : Nat) (h : n < kz.length) : (hmac_block.row kz c n).set n (hmac_block.cell kz[n] c) = hmac_block.row kz c (n + 1) := by
  unfold hmac_block.row
  rw [List.set_append_right _ _ (by simp; omega), List.drop_eq_getElem_cons h, List.take_succ_eq_append_getElem h]
  rw [show n - ((kz.take n).map (fun z => hmac_block.cell z c)).length = 0 by simp; omega]
  simp only [List.set_cons_zero, List.map_append, List.map_cons, List.map_nil, List.append_assoc, List.singleton_append, List.cons_append, List.nil_append]
set_option maxHeartbeats 8000000 in
set_option maxRecDepth 100000 in
theorem hmac_block.calls (F : Nat) (c : Int) (hF : ∀ (z : Int) (w : World), Calls Try.prog F #[.int .u8 z] w fun e w' => e = .returned (.int .u8 (hmac_block.cell z c)) ∧ Drawn0 w w') (hE : ∀ (z : Int) (w : World), (callFunc F #[.int .u8 z]).run Try.prog w = .ok (.enter F #[.int .u8 z]) w) (k : Nat) (A0 : Option Addr) (c0 : Nat) (l0 : List Int) (r : List Int) (w : World) (hr0 : Kd.C (Kd.int .u8) w A0 l0.length l0) (hc0 : l0.length ≤ c0) (h : hmac_block.f k l0 c = some r) :
    Calls Try.prog 65 #[.slice A0 l0.length c0, .func (.func F) #[] #[]] w fun e w' => ∃ v0_ : Value, e = .returned (v0_) ∧ Kd.R (Kd.int .u8) 5 w' w.heap.size (fun _ => True) v0_ r ∧ Below w.heap.size w w' := by
  have HR := Aside0.mk hr0
  have HC := Aside0.mk hc0
  have HF := Aside0.mk hF
  obtain ⟨kb, hkb, hrow⟩ := Option.bind_eq_some_iff.mp h
  obtain rfl := Option.some.inj hrow
  clear hr0 hc0 h hrow hF
  go_enter Try.func65, Try.ntmps65
  by_cases hbig : 64 < l0.length
  · rw [if_pos hbig] at hkb
    have HKB := Aside0.mk hkb
    have hd : decide (64 < (l0.length : Int)) = true := decide_eq_true (by omega)
    have hd2 : decide (64 < l0.length) = true := decide_eq_true (by omega)
    clear hkb hbig
    go_wp2_with (first | (go_at_call 68; (with_reducible refine (sha_Sum.calls k A0 c0 l0 kb _ HR.out HC.out HKB.out).mono ?_); rintro e W1 ⟨v5, rfl, ho5, hb5⟩; (obtain ⟨A5, c5, e5⟩ := Kd.R_slice ho5); subst e5; (have HC5 : Aside0 (Kd.C (Kd.int .u8) W1 A5 kb.length kb) := ⟨(Kd.R_reads' ho5).2.2⟩); (have HB1 : Aside0 (Below w.heap.size w W1) := ⟨hb5⟩); clear ho5 hb5) | ((with_reducible refine gate_dst (N := 13) rfl ?_); refine Kd.R_make (Kd.int .u8) (w0 := W1) W1.heap.size 5 rfl (N := 13) rfl 22 _ _ rfl 64 rfl rfl Try.underlying22 (.int .u8 0) 1 info5 rfl (by decide) (by omega) 0 (ok := fun _ => True) (okp := fun _ => True) rfl (fun _ hk => hk) trivial (by omega) (by omega) (Below.refl _ _) (Nat.le_refl _) ?_; intro v13 W2 ho2 hb2 hg2 hn2; (have HB2 : Aside0 (Below W1.heap.size W1 W2) := ⟨hb2⟩); (have HC6 : Aside0 (Kd.C (Kd.int .u8) W2 A5 kb.length kb) := ⟨Kd.C_below HC5.out hb2⟩); (obtain ⟨g, cap, e13, hgb, _⟩ := Kd.R_form ho2 (by simp)); rw [List.length_replicate] at e13; (have HG : Aside0 (W1.heap.size ≤ g) := ⟨hgb⟩); subst e13; (have HO2 : Aside0 (Kd.R (Kd.int .u8) 5 W2 W1.heap.size (fun _ => True) (.slice (some ⟨g, 0, none⟩) 64 cap) (List.replicate 64 0)) := ⟨ho2⟩); clear ho2 hb2 hg2 hn2 HC5 hgb) | ((with_reducible refine gate_builtin (b := .copy) (xs := #[.tmp 14, .tmp 15]) rfl ?_); refine Kd.R_copy (enc := Value.int .u8) 0 (w0 := W1) W1.heap.size rfl (.tmp 14) (.tmp 15) 22 22 5 rfl Try.underlying22 (by kernel_rfl) _ (List.replicate 64 0) kb A5 _ _ (fun _ => True) rfl rfl HO2.out HC6.out HB2.out HB2.out.size ?_; intro W3 ho3 hb3 hg3; (have HO3 : Aside0 (Kd.R (Kd.int .u8) 5 W3 W1.heap.size (fun _ => True) (.slice (some ⟨g, 0, none⟩) 64 cap) (hmac_block.pad kb)) := ⟨by rw [hmac_block.pad_eq]; exact ho3⟩); (have HB3 : Aside0 (Below W1.heap.size W1 W3) := ⟨hb3⟩); clear ho3 hb3 hg3 HO2 HB2 HC6))
    clear HR HC hd hd2 HKB
    have HKZ := Aside0.mk (hmac_block.pad_length kb)
    obtain ⟨kz, hkz⟩ : ∃ kz, kz = hmac_block.pad kb := ⟨_, rfl⟩
    have HKE := Aside0.mk hkz
    rw [← hkz] at HKZ HO3
    clear hkz
    go_loopg [19] 64 (fun q v19 w' => ∃ j : Nat, v19 = .int .i64 (j : Int) ∧ j + q = 64 ∧ Aside0 (Kd.R (Kd.int .u8) 5 w' W1.heap.size (fun _ => True) (.slice (some ⟨g, 0, none⟩) 64 cap) (hmac_block.row kz c j)) ∧ Aside0 (Below W1.heap.size W1 w'))
    case atStart => exact ⟨0, by go_num, by omega, by rw [hmac_block.row_zero]; exact HO3, HB3⟩
    case round =>
      clear HO3 HB3
      obtain ⟨j, rfl, hjq, HO, HB⟩ := hrel
      cases gk with
      | zero =>
        obtain rfl : j = 64 := by omega
        have hjb : decide (((64 : Nat) : Int) < 64) = false := by decide
        go_wp2
        go_ret
        exact ⟨_, rfl, by rw [← HKE.out, ← hmac_block.row_all kz c HKZ.out]; exact Kd.R_lower HO.out HB1.out.size, below_step HB1.out HB.out⟩
      | succ q =>
        have hin : (j : Int) < 64 := by omega
        have hin2 : j < 64 := by omega
        have hjb : decide ((j : Int) < 64) = true := decide_eq_true hin
        have hkl : j < kz.length := by rw [HKZ.out]; exact hin2
        have hrd := hmac_block.row_rd kz c j hkl
        have hst := Aside0.mk (hmac_block.row_succ kz c j hkl)
        have hcell : wr.cell? ⟨g, j, none⟩ = some (.int .u8 (rd (hmac_block.row kz c j) (j : Int))) := (Kd.R_celln 0 HO.out (j : Int) (by omega) (by omega)).1
        rw [hrd] at hcell
        generalize kz[j] = z at *
        have hput : ∀ m, Kd.R (Kd.int .u8) 5 ((wr.drewN m).setCell ⟨g, j, none⟩ (.int .u8 (hmac_block.cell z c))) W1.heap.size (fun _ => True) (.slice (some ⟨g, 0, none⟩) 64 cap) ((hmac_block.row kz c j).set j (hmac_block.cell z c)) := fun m => (Kd.R_putg (Kd.R_drewN HO.out m) (j : Int) (hmac_block.cell z c)).1
        have HPUT := Aside0.mk hput
        have hfz : ∀ m, (wr.drewN m).frozen? ⟨g, j, none⟩ = false := fun m => (Kd.R_celln 0 (Kd.R_drewN HO.out m) (j : Int) (by omega) (by omega)).2
        have hcl : ∀ m, (wr.drewN m).cell? ⟨g, j, none⟩ = some (.int .u8 z) := fun m => hcell
        clear hrd hput
        go_wp2_with ((with_reducible refine (HF.out _ _).mono ?_); rintro e w' ⟨rfl, ⟨nd, rfl⟩⟩; have hcl2 := hcl nd; have hfz2 := hfz nd)
        go_roundg q
        case measure => omega
        case rel => exact ⟨j + 1, by go_num, by omega, by rw [← hst.out]; exact ⟨HPUT.out nd⟩, ⟨below_set (pw_below_drewN HB.out nd) HG.out⟩⟩
  · rw [if_neg hbig] at hkb
    obtain rfl := Option.some.inj hkb
    have hd : decide (64 < (l0.length : Int)) = false := decide_eq_false (by omega)
    have hd2 : decide (64 < l0.length) = false := decide_eq_false (by omega)
    clear hkb hbig
    obtain ⟨W1, rfl⟩ : ∃ wo : World, wo = w := ⟨_, rfl⟩
    obtain ⟨kb, rfl⟩ : ∃ kb, kb = l0 := ⟨_, rfl⟩
    obtain ⟨A5, rfl⟩ : ∃ A, A = A0 := ⟨_, rfl⟩
    have HC5 := HR
    have HB1 : Aside0 (Below W1.heap.size W1 W1) := ⟨Below.refl _ _⟩
    go_wp2_with (first | ((with_reducible refine gate_dst (N := 13) rfl ?_); refine Kd.R_make (Kd.int .u8) (w0 := W1) W1.heap.size 5 rfl (N := 13) rfl 22 _ _ rfl 64 rfl rfl Try.underlying22 (.int .u8 0) 1 info5 rfl (by decide) (by omega) 0 (ok := fun _ => True) (okp := fun _ => True) rfl (fun _ hk => hk) trivial (by omega) (by omega) (Below.refl _ _) (Nat.le_refl _) ?_; intro v13 W2 ho2 hb2 hg2 hn2; (have HB2 : Aside0 (Below W1.heap.size W1 W2) := ⟨hb2⟩); (have HC6 : Aside0 (Kd.C (Kd.int .u8) W2 A5 kb.length kb) := ⟨Kd.C_below HC5.out hb2⟩); (obtain ⟨g, cap, e13, hgb, _⟩ := Kd.R_form ho2 (by simp)); rw [List.length_replicate] at e13; (have HG : Aside0 (W1.heap.size ≤ g) := ⟨hgb⟩); subst e13; (have HO2 : Aside0 (Kd.R (Kd.int .u8) 5 W2 W1.heap.size (fun _ => True) (.slice (some ⟨g, 0, none⟩) 64 cap) (List.replicate 64 0)) := ⟨ho2⟩); clear ho2 hb2 hg2 hn2 HC5 hgb) | ((with_reducible refine gate_builtin (b := .copy) (xs := #[.tmp 14, .tmp 15]) rfl ?_); refine Kd.R_copy (enc := Value.int .u8) 0 (w0 := W1) W1.heap.size rfl (.tmp 14) (.tmp 15) 22 22 5 rfl Try.underlying22 (by kernel_rfl) _ (List.replicate 64 0) kb A5 _ _ (fun _ => True) rfl rfl HO2.out HC6.out HB2.out HB2.out.size ?_; intro W3 ho3 hb3 hg3; (have HO3 : Aside0 (Kd.R (Kd.int .u8) 5 W3 W1.heap.size (fun _ => True) (.slice (some ⟨g, 0, none⟩) 64 cap) (hmac_block.pad kb)) := ⟨by rw [hmac_block.pad_eq]; exact ho3⟩); (have HB3 : Aside0 (Below W1.heap.size W1 W3) := ⟨hb3⟩); clear ho3 hb3 hg3 HO2 HB2 HC6))
    clear HR HC hd hd2
    have HKZ := Aside0.mk (hmac_block.pad_length kb)
    obtain ⟨kz, hkz⟩ : ∃ kz, kz = hmac_block.pad kb := ⟨_, rfl⟩
    have HKE := Aside0.mk hkz
    rw [← hkz] at HKZ HO3
    clear hkz
    go_loopg [19] 64 (fun q v19 w' => ∃ j : Nat, v19 = .int .i64 (j : Int) ∧ j + q = 64 ∧ Aside0 (Kd.R (Kd.int .u8) 5 w' W1.heap.size (fun _ => True) (.slice (some ⟨g, 0, none⟩) 64 cap) (hmac_block.row kz c j)) ∧ Aside0 (Below W1.heap.size W1 w'))
    case atStart => exact ⟨0, by go_num, by omega, by rw [hmac_block.row_zero]; exact HO3, HB3⟩
    case round =>
      clear HO3 HB3
      obtain ⟨j, rfl, hjq, HO, HB⟩ := hrel
      cases gk with
      | zero =>
        obtain rfl : j = 64 := by omega
        have hjb : decide (((64 : Nat) : Int) < 64) = false := by decide
        go_wp2
        go_ret
        exact ⟨_, rfl, by rw [← HKE.out, ← hmac_block.row_all kz c HKZ.out]; exact Kd.R_lower HO.out HB1.out.size, below_step HB1.out HB.out⟩
      | succ q =>
        have hin : (j : Int) < 64 := by omega
        have hin2 : j < 64 := by omega
        have hjb : decide ((j : Int) < 64) = true := decide_eq_true hin
        have hkl : j < kz.length := by rw [HKZ.out]; exact hin2
        have hrd := hmac_block.row_rd kz c j hkl
        have hst := Aside0.mk (hmac_block.row_succ kz c j hkl)
        have hcell : wr.cell? ⟨g, j, none⟩ = some (.int .u8 (rd (hmac_block.row kz c j) (j : Int))) := (Kd.R_celln 0 HO.out (j : Int) (by omega) (by omega)).1
        rw [hrd] at hcell
        generalize kz[j] = z at *
        have hput : ∀ m, Kd.R (Kd.int .u8) 5 ((wr.drewN m).setCell ⟨g, j, none⟩ (.int .u8 (hmac_block.cell z c))) W1.heap.size (fun _ => True) (.slice (some ⟨g, 0, none⟩) 64 cap) ((hmac_block.row kz c j).set j (hmac_block.cell z c)) := fun m => (Kd.R_putg (Kd.R_drewN HO.out m) (j : Int) (hmac_block.cell z c)).1
        have HPUT := Aside0.mk hput
        have hfz : ∀ m, (wr.drewN m).frozen? ⟨g, j, none⟩ = false := fun m => (Kd.R_celln 0 (Kd.R_drewN HO.out m) (j : Int) (by omega) (by omega)).2
        have hcl : ∀ m, (wr.drewN m).cell? ⟨g, j, none⟩ = some (.int .u8 z) := fun m => hcell
        clear hrd hput
        go_wp2_with ((with_reducible refine (HF.out _ _).mono ?_); rintro e w' ⟨rfl, ⟨nd, rfl⟩⟩; have hcl2 := hcl nd; have hfz2 := hfz nd)
        go_roundg q
        case measure => omega
        case rel => exact ⟨j + 1, by go_num, by omega, by rw [← hst.out]; exact ⟨HPUT.out nd⟩, ⟨below_set (pw_below_drewN HB.out nd) HG.out⟩⟩

/-! ### hmac_Tag: function 55 (given) -/
def hmac_Tag.f (k : Nat) (key msg : List Int) : Option (List Int) :=
  (hmac_block.f k key 54).bind fun i => (hmac_block.f k key 92).bind fun o =>
    if i.length + msg.length < 100000000000000 then (sha_Sum.f k (i ++ msg)).bind fun s =>
      if o.length + s.length < 100000000000000 then (sha_Sum.f k (o ++ s)).bind fun t => if 32 ≤ t.length then some (t.take 32) else none else none
    else none
theorem hmac_Tag1.calls (z : Int) (w : World) : Calls Try.prog 66 #[.int .u8 z] w fun e w' => e = .returned (.int .u8 (hmac_block.cell z 54)) ∧ Drawn0 w w' := by
  go_enter Try.func66, Try.ntmps66
  go_wp2
  go_ret
  exact ⟨rfl, by repeat (exact Drawn0.refl _)⟩
theorem hmac_Tag2.calls (z : Int) (w : World) : Calls Try.prog 67 #[.int .u8 z] w fun e w' => e = .returned (.int .u8 (hmac_block.cell z 92)) ∧ Drawn0 w w' := by
  go_enter Try.func67, Try.ntmps67
  go_wp2
  go_ret
  exact ⟨rfl, by repeat (exact Drawn0.refl _)⟩
theorem hmac_Tag1.goes (z : Int) (w : World) : (callFunc 66 #[.int .u8 z]).run Try.prog w = .ok (.enter 66 #[.int .u8 z]) w := by go_simp
theorem hmac_Tag2.goes (z : Int) (w : World) : (callFunc 67 #[.int .u8 z]).run Try.prog w = .ok (.enter 67 #[.int .u8 z]) w := by go_simp
set_option maxHeartbeats 8000000 in
set_option maxRecDepth 100000 in
theorem hmac_Tag.calls (k : Nat) (A0 : Option Addr) (c0 : Nat) (l0 : List Int) (A1 : Option Addr) (c1 : Nat) (l1 : List Int) (r : List Int) (w : World) (hr0 : Kd.C (Kd.int .u8) w A0 l0.length l0) (hc0 : l0.length ≤ c0) (hr1 : Kd.C (Kd.int .u8) w A1 l1.length l1) (hc1 : l1.length ≤ c1) (h : hmac_Tag.f k l0 l1 = some r) :
    Calls Try.prog 55 #[.slice A0 l0.length c0, .slice A1 l1.length c1] w fun e w' => ∃ v0_ : Value, e = .returned (v0_) ∧ Kd.R (Kd.int .u8) 5 w' w.heap.size (fun _ => True) v0_ r ∧ Below w.heap.size w w' := by
  have HR0 := Aside0.mk hr0
  have HC0 := Aside0.mk hc0
  have HR1 := Aside0.mk hr1
  have HC1 := Aside0.mk hc1
  unfold hmac_Tag.f at h
  obtain ⟨i, hi, h1⟩ := Option.bind_eq_some_iff.mp h
  obtain ⟨o, ho, h2⟩ := Option.bind_eq_some_iff.mp h1
  by_cases hli : i.length + l1.length < 100000000000000
  case neg => rw [if_neg hli] at h2; exact absurd h2 (by simp)
  rw [if_pos hli] at h2
  obtain ⟨s, hs, h3⟩ := Option.bind_eq_some_iff.mp h2
  by_cases hlo : o.length + s.length < 100000000000000
  case neg => rw [if_neg hlo] at h3; exact absurd h3 (by simp)
  rw [if_pos hlo] at h3
  obtain ⟨t, ht, h4⟩ := Option.bind_eq_some_iff.mp h3
  by_cases hlt : 32 ≤ t.length
  case neg => rw [if_neg hlt] at h4; exact absurd h4 (by simp)
  rw [if_pos hlt] at h4
  obtain rfl := Option.some.inj h4
  obtain ⟨iy, hiy⟩ : ∃ y, y = i ++ l1 := ⟨_, rfl⟩
  obtain ⟨oy, hoy⟩ : ∃ y, y = o ++ s := ⟨_, rfl⟩
  rw [← hiy] at hs
  rw [← hoy] at ht
  have HIY := Aside0.mk hiy
  have HOY := Aside0.mk hoy
  have HI := Aside0.mk hi
  have HO := Aside0.mk ho
  have HS := Aside0.mk hs
  have HT := Aside0.mk ht
  have HLI := Aside0.mk hli
  have HLO := Aside0.mk hlo
  have HLT := Aside0.mk hlt
  clear hiy hoy hr0 hc0 hr1 hc1 h h1 h2 h3 h4 hi ho hs ht hli hlo hlt
  obtain ⟨i0, hi0, _⟩ := info_parts info5
  have hcut : ∀ (A : Option Addr) (c : Nat), t.length ≤ c → ∀ W : World, (Instr.slice 22 (.slice A t.length c) none (some (.int .i64 32)) none).run Try.prog W = .ok (.slice A 32 c) W := fun A c hc => cut_to (P := Try.prog) 22 5 .i64 Try.underlying22 hi0 A t.length c 32 (by omega) (by have := HLT.out; omega) hc
  have HCUT := Aside0.mk hcut
  clear hi0 hcut
  go_enter Try.func55, Try.ntmps55
  go_wp2_with (first | (go_at_call 65; (with_reducible refine (hmac_block.calls 66 54 hmac_Tag1.calls hmac_Tag1.goes k A0 c0 l0 i _ HR0.out HC0.out HI.out).mono ?_); rintro e w1 ⟨v5, rfl, ho1, hb1⟩; (have HV1 : Aside0 (Kd.R (Kd.int .u8) 5 w1 w.heap.size (fun k => k < w1.heap.size) v5 i) := ⟨Kd.R_mono (Kd.R_bound ho1) (fun _ hk => hk.2.2.1)⟩); (have HB1 : Aside0 (Below w.heap.size w w1) := ⟨hb1⟩); clear ho1 hb1) | (go_at_call 65; (with_reducible refine (hmac_block.calls 67 92 hmac_Tag2.calls hmac_Tag2.goes k A0 c0 l0 o _ (Kd.C_below HR0.out HB1.out) HC0.out HO.out).mono ?_); rintro e w2 ⟨v6, rfl, ho2, hb2⟩; (have HV2 : Aside0 (Kd.R (Kd.int .u8) 5 w2 w.heap.size (fun k => k < w1.heap.size) v5 i) := ⟨Kd.R_below HV1.out hb2⟩); (have HU2 : Aside0 (Kd.R (Kd.int .u8) 5 w2 w.heap.size (fun k => w1.heap.size ≤ k) v6 o) := ⟨Kd.R_lower (Kd.R_mono (Kd.R_bound ho2) (fun _ hk => hk.2.1)) HB1.out.size⟩); (have HB2 : Aside0 (Below w.heap.size w w2) := ⟨below_step HB1.out hb2⟩); clear ho2 hb2 HV1 HB1) | ((with_reducible refine gate_builtin (b := .append) (xs := #[.tmp 11, .tmp 12]) rfl ?_); at_builtin; refine Kd.R_append_rows (Kd.int .u8) (w0 := w) w.heap.size rfl (.tmp 11) (.tmp 12) 22 5 (.int .u8 0) 1 rfl Try.underlying22 info5 rfl (by decide) (by omega) v5 i l1 _ _ _ (fun _ => True) (fun _ => False) rfl rfl (Kd.R_mono HV2.out (fun _ _ => trivial)) (Kd.C_below HR1.out HB2.out) (fun _ _ h => h) (fun _ h => h.elim) (fun _ _ => trivial) HB2.out HB2.out.size (by have := HLI.out; omega) ?_; intro v7 w3 ho3 hb3 hg3 hat3; (have HU3 : Aside0 (Kd.R (Kd.int .u8) 5 w3 w.heap.size (fun _ => True) v6 o) := ⟨Kd.R_mono (Kd.R_grown HU2.out hg3 (fun k hk he => by have := HV2.out.1 k he.symm; omega)) (fun _ _ => trivial)⟩); (have HV3 : Aside0 (Kd.R (Kd.int .u8) 5 w3 w.heap.size (fun _ => True) v7 iy) := ⟨by rw [HIY.out]; exact ho3⟩); (have HB3 : Aside0 (Below w.heap.size w w3) := ⟨hb3⟩); clear ho3 hb3 hg3 hat3 HU2 HV2 HB2; (obtain ⟨A7, c7, e7⟩ := Kd.R_slice HV3.out); subst e7) | (go_at_call 68; (with_reducible refine (sha_Sum.calls k A7 c7 iy s _ (Kd.R_reads' HV3.out).2.2 (Kd.R_reads' HV3.out).2.1 HS.out).mono ?_); rintro e w4 ⟨v8, rfl, ho4, hb4⟩; (have HU4 : Aside0 (Kd.R (Kd.int .u8) 5 w4 w.heap.size (fun _ => True) v6 o) := ⟨Kd.R_below HU3.out hb4⟩); (obtain ⟨A8, c8, e8⟩ := Kd.R_slice ho4); subst e8; (have HC8 : Aside0 (Kd.C (Kd.int .u8) w4 A8 s.length s) := ⟨(Kd.R_reads' ho4).2.2⟩); (have HB4 : Aside0 (Below w.heap.size w w4) := ⟨below_step HB3.out hb4⟩); clear ho4 hb4 HU3 HB3 HV3) | ((with_reducible refine gate_builtin (b := .append) (xs := #[.tmp 14, .tmp 16]) rfl ?_); at_builtin; refine Kd.R_append_rows (Kd.int .u8) (w0 := w) w.heap.size rfl (.tmp 14) (.tmp 16) 22 5 (.int .u8 0) 1 rfl Try.underlying22 info5 rfl (by decide) (by omega) v6 o s _ _ _ (fun _ => True) (fun _ => False) rfl rfl HU4.out HC8.out (fun _ _ h => h) (fun _ h => h.elim) (fun _ _ => trivial) HB4.out HB4.out.size (by have := HLO.out; omega) ?_; intro v9 w5 ho5 hb5 hg5 hat5; (have HV5 : Aside0 (Kd.R (Kd.int .u8) 5 w5 w.heap.size (fun _ => True) v9 oy) := ⟨by rw [HOY.out]; exact ho5⟩); (have HB5 : Aside0 (Below w.heap.size w w5) := ⟨hb5⟩); clear ho5 hb5 hg5 hat5 HU4 HC8 HB4; (obtain ⟨A9, c9, e9⟩ := Kd.R_slice HV5.out); subst e9) | (go_at_call 68; (with_reducible refine (sha_Sum.calls k A9 c9 oy t _ (Kd.R_reads' HV5.out).2.2 (Kd.R_reads' HV5.out).2.1 HT.out).mono ?_); rintro e w6 ⟨v10, rfl, ho6, hb6⟩; (obtain ⟨A10, c10, e10⟩ := Kd.R_slice ho6); subst e10; (have HV6 : Aside0 (Kd.R (Kd.int .u8) 5 w6 w.heap.size (fun _ => True) (.slice A10 32 c10) (t.take 32)) := ⟨Kd.R_take (Kd.R_lower ho6 HB5.out.size) HLT.out⟩); (have hcut10 := HCUT.out A10 c10 (Kd.R_reads' ho6).2.1); (have HB6 : Aside0 (Below w.heap.size w w6) := ⟨below_step HB5.out hb6⟩); clear ho6 hb6 HB5 HV5))
  go_ret
  exact ⟨_, rfl, HV6.out, HB6.out⟩

/-! ### hmac_Same: function 37 -/
def hmac_Same.l0 : Nat → List Int → List Int → Int → Int → Int → Option (Bool)
  | 0, _, _, _, _, _ => none
  | k + 1, x0, x1, x5, x13, x14 => if x14 < x13 then (if 0 ≤ x14 then (if x14 < (x0.length : Int) then (if x14 < (x1.length : Int) then (hmac_Same.l0 k x0 x1 (Go.bits .or .u8 x5 (Go.bits .xor .u8 (rd x0 x14) (rd x1 x14))) x13 (wrap64 (x14 + 1))) else (none)) else (none)) else (none)) else (some (x5 == 0))
def hmac_Same.f (k : Nat) (l0 : List Int) (l1 : List Int) : Option (Bool) := if (l0.length : Int) = (l1.length : Int) then (hmac_Same.l0 k l0 l1 0 (l0.length : Int) 0) else (some false)
set_option maxHeartbeats 8000000 in
set_option maxRecDepth 100000 in
theorem hmac_Same.calls (k : Nat) (A0 : Option Addr) (c0 : Nat) (l0 : List Int) (A1 : Option Addr) (c1 : Nat) (l1 : List Int) (r : Bool) (w : World) (hr0 : Kd.C (Kd.int .u8) w A0 l0.length l0) (hc0 : l0.length ≤ c0) (hr1 : Kd.C (Kd.int .u8) w A1 l1.length l1) (hc1 : l1.length ≤ c1) (h : hmac_Same.f k l0 l1 = some r) :
    Calls Try.prog 37 #[.slice A0 l0.length c0, .slice A1 l1.length c1] w fun e w' => e = .returned (.bool r) ∧ Drawn0 w w' := by
  have HR0 := Aside0.mk hr0
  have HC0 := Aside0.mk hc0
  clear hr0 hc0
  have HR1 := Aside0.mk hr1
  have HC1 := Aside0.mk hc1
  clear hr1 hc1
  have H : (if (l0.length : Int) = (l1.length : Int) then (hmac_Same.l0 k l0 l1 0 (l0.length : Int) 0) else (some false)) = some r := h
  clear h
  by_cases c3 : (l0.length : Int) = (l1.length : Int)
  rotate_left
  · rw [if_neg c3] at H
    have c3b0 : ((l0.length : Int) == (l1.length : Int)) = false := beq_eq_false_iff_ne.mpr c3
    have c3b1 : ((l0.length : Int) != (l1.length : Int)) = true := bne_iff_ne.mpr c3
    have c3b2 : (l0.length == l1.length) = false := by (simp at c3 ⊢; omega)
    obtain rfl := Option.some.inj H
    go_enter Try.func37, Try.ntmps37
    go_wp2
    repeat (go_quiet (fail); skip)
    go_ret
    exact ⟨by (rfl), by repeat (exact Drawn0.refl _)⟩


  rw [if_pos c3] at H
  have c3b0 : ((l0.length : Int) == (l1.length : Int)) = true := beq_iff_eq.mpr c3
  have c3b1 : ((l0.length : Int) != (l1.length : Int)) = false := bne_eq_false_iff_eq.mpr c3
  have c3b2 : (l0.length == l1.length) = true := by (simp at c3 ⊢; omega)
  clear c3
  have H' := Aside0.mk H
  clear H
  go_enter Try.func37, Try.ntmps37
  go_wp2
  repeat (go_quiet (fail); skip)
  go_loopg [5, 14] k (fun kq v5 v14 w' => ∃ (x5_1 : Int) (x14_1 : Int), v5 = .int .u8 x5_1 ∧ v14 = .int .i64 x14_1 ∧ Aside0 (hmac_Same.l0 kq l0 l1 x5_1 (l0.length : Int) x14_1 = some r) ∧ Aside0 (kq ≤ k) ∧ Drawn0 w w')
  case atStart => exact ⟨(0), (0), (by (rfl)), (by (rfl)), H', ⟨Nat.le_refl _⟩, by repeat (exact Drawn0.refl _)⟩
  clear H'
  try clear c3b0
  try clear c3b1
  try clear c3b2
  obtain ⟨x5_1, x14_1, rfl, rfl, HA, HK1, ⟨m1, rfl⟩⟩ := hrel
  rcases gk with _ | k1
  · exact absurd HA.out (by simp [hmac_Same.l0])
  have H := HA.out
  clear HA
  simp only [hmac_Same.l0] at H
  by_cases c4 : x14_1 < (l0.length : Int)
  rotate_left
  · rw [if_neg c4] at H
    have c4b0 : decide (x14_1 < (l0.length : Int)) = false := decide_eq_false c4
    clear c4
    obtain rfl := Option.some.inj H
    go_wp2
    repeat (go_quiet (fail); skip)
    go_ret
    exact ⟨by (rfl), by repeat (first | exact Drawn0.refl _ | apply Drawn0.step)⟩
  rw [if_pos c4] at H
  have c4b0 : decide (x14_1 < (l0.length : Int)) = true := decide_eq_true c4
  clear c4
  by_cases c5 : 0 ≤ x14_1
  rotate_left
  · rw [if_neg c5] at H
    exact absurd H (by simp)
  rw [if_pos c5] at H
  have c5b0 : decide (0 ≤ x14_1) = true := decide_eq_true c5
  clear c5
  by_cases c6 : x14_1 < (l0.length : Int)
  rotate_left
  · rw [if_neg c6] at H
    exact absurd H (by simp)
  rw [if_pos c6] at H
  have c6b0 : decide (x14_1 < (l0.length : Int)) = true := decide_eq_true c6
  clear c6
  by_cases c7 : x14_1 < (l1.length : Int)
  rotate_left
  · rw [if_neg c7] at H
    exact absurd H (by simp)
  rw [if_pos c7] at H
  have c7b0 : decide (x14_1 < (l1.length : Int)) = true := decide_eq_true c7
  clear c7
  have H' := Aside0.mk H
  clear H
  have p110 : 0 ≤ (x14_1 : Int) := of_decide_eq_true (by (with_reducible assumption))
  have q110 : x14_1 < (l0.length : Int) := of_decide_eq_true (by (with_reducible assumption))
  obtain ⟨ad110, e110, hx110_0⟩ := Kd.at_int HR0.out x14_1 p110 q110
  cases e110
  replace p110 := eq_true p110
  replace q110 := eq_true q110
  have p111 : 0 ≤ (x14_1 : Int) := of_decide_eq_true (by (with_reducible assumption))
  have q111 : x14_1 < (l1.length : Int) := of_decide_eq_true (by (with_reducible assumption))
  obtain ⟨ad111, e111, hx111_0⟩ := Kd.at_int HR1.out x14_1 p111 q111
  cases e111
  replace p111 := eq_true p111
  replace q111 := eq_true q111
  go_wp2
  repeat (go_quiet (fail); try go_wp2)
  go_roundg k1
  case measure => have := HK1.out; omega
  case rel => exact ⟨(Go.bits .or .u8 x5_1 (Go.bits .xor .u8 (rd l0 x14_1) (rd l1 x14_1))), (wrap64 (x14_1 + 1)), (by (rfl)), (by (rfl)), H', ⟨by have := HK1.out; omega⟩, by repeat (first | exact Drawn0.refl _ | apply Drawn0.step)⟩/-! ### device_held: function 40 -/
def device_held.f (a0 : Int) (a1 : Int) : Option (Int) := some (mn (mx a0 0) a1)
set_option maxHeartbeats 8000000 in
set_option maxRecDepth 100000 in
theorem device_held.calls (a0 : Int) (a1 : Int) (r : Int) (w : World) (h : device_held.f a0 a1 = some r) :
    Calls Try.prog 40 #[.int .i64 a0, .int .i64 a1] w fun e w' => e = .returned (.int .i64 r) ∧ Below w.heap.size w w' := by
  have HB := Aside0.mk (Below.refl w.heap.size w)
  have H : (some (mn (mx a0 0) a1)) = some r := h
  clear h
  obtain ⟨ji3, hji3⟩ : ∃ j_ : Int, (mx a0 0) = j_ := ⟨_, rfl⟩
  replace H : (some (mn (ji3) a1)) = some r := by (rw [hji3] at H; exact H)
  (try (have hji3l : 0 ≤ ji3 := by (rw [← hji3]; unfold mx; (repeat' split) <;> omega)))
  (try (have hji3m : 0 ≤ ji3 := by omega))
  have hji3_ : (if a0 < 0 then 0 else a0) = ji3 := hji3
  obtain ⟨ji4, hji4⟩ : ∃ j_ : Int, (mn (ji3) a1) = j_ := ⟨_, rfl⟩
  replace H : (some ji4) = some r := by (rw [hji4] at H; exact H)
  have hji4_ : (if a1 < (ji3) then a1 else (ji3)) = ji4 := hji4
  obtain rfl := Option.some.inj H
  go_enter Try.func40, Try.ntmps40
  go_wp2
  go_ret
  exact ⟨by (rfl), HB.out⟩

/-! ### notaryref46_Payload: function 63 -/
def notaryref46_Payload.j0 : Nat → Bool → Int → List Int → Option (List Int × Int)
  | 0, _, _, _ => none
  | k + 1, x11, x113000, x113001 => if x11 = true then (some (([] : List Int), 23)) else (if (x113001.length : Int) > 1024 then (some (([] : List Int), 3)) else ((some (([(x113000) % 256] : List Int) : List Int)).bind fun y119 => (if y119.length + x113001.length < 140737488355328 then (some ((y119 ++ x113001), 0)) else (none))))
def notaryref46_Payload.f (k : Nat) (a0_0 : Int) (l0_1 : List Int) : Option (List Int × Int) := if a0_0 < 1 then (notaryref46_Payload.j0 k true a0_0 l0_1) else (notaryref46_Payload.j0 k (decide (a0_0 > 3)) a0_0 l0_1)
set_option maxHeartbeats 8000000 in
set_option maxRecDepth 100000 in
theorem notaryref46_Payload.calls (k : Nat) (a0_0 : Int) (A0_1 : Option Addr) (c0_1 : Nat) (l0_1 : List Int) (r1 : List Int) (r2 : Int) (w : World) (hr0_1 : Kd.C (Kd.int .u8) w A0_1 l0_1.length l0_1) (hc0_1 : l0_1.length ≤ c0_1) (h : notaryref46_Payload.f k a0_0 l0_1 = some (r1, r2)) :
    Calls Try.prog 63 #[.agg #[.int .i64 a0_0, .slice A0_1 l0_1.length c0_1]] w fun e w' => ∃ v0_ : Value, e = .returned (.tuple #[v0_, .int .i64 r2]) ∧ Kd.R (Kd.int .u8) 5 w' w.heap.size (fun _ => True) v0_ r1 ∧ Below w.heap.size w w' := by
  have hu35 := Try.underlying35
  have HR0_1 := Aside0.mk hr0_1
  have HC0_1 := Aside0.mk hc0_1
  clear hr0_1 hc0_1
  have HB := Aside0.mk (Below.refl w.heap.size w)
  have H : (if a0_0 < 1 then (notaryref46_Payload.j0 k true a0_0 l0_1) else (notaryref46_Payload.j0 k (decide (a0_0 > 3)) a0_0 l0_1)) = some (r1, r2) := h
  clear h
  have HC2 := Aside0.mk H
  clear H
  go_enter Try.func63, Try.ntmps63
  go_upto_region 1 with ((((with_reducible refine gate_dst (N := 1) rfl ?_); refine box_event ?hg (N := 1) ?hd (cs := #[.int .i64 a0_0, .slice A0_1 l0_1.length c0_1]) (t := 35) ?hr ?_; (case hd => rfl); (case hg => rfl); (case hr => (go_simp; done)); intro gb112 hg w3 hbox hb; have n0_ := Aside0.mk (below_step HB.out hb); have n1_ := Aside0.mk (hbox); have n2_ := Aside0.mk ((by rw [hg]; exact (below_size HB.out) : w.heap.size ≤ gb112)); have n3_ := Aside0.mk ((by rw [hg]; exact (below_size HB.out) : w.heap.size ≤ gb112)); clear HB; have HB := n0_; have BK112 := n1_; have GW112 := n2_; have GE112 := n3_; clear n0_ n1_ n2_ n3_; clear hb hbox hg)))
  (skip)
  go_cut [11] (fun v11 wc => ∃ (kq : Nat) (x11_1 : Bool), v11 = .bool x11_1 ∧ Aside0 (notaryref46_Payload.j0 kq x11_1 a0_0 l0_1 = some (r1, r2)) ∧ Aside0 (kq ≤ k) ∧ Aside0 (wc.heap[gb112]? = some (.cells #[.int .i64 a0_0, (.slice A0_1 l0_1.length c0_1)] 35 (0, 0))) ∧ Aside0 (Below w.heap.size w wc))
  case first =>
    have H := HC2.out
    clear HC2
    by_cases c4 : a0_0 < 1
    · rw [if_pos c4] at H
      have c4b0 : decide (a0_0 < 1) = true := decide_eq_true c4
      clear c4
      (skip)
      have H' := Aside0.mk H
      clear H
      have hcz5_0 : w3.cell? ⟨gb112, 0, none⟩ = some (.int .i64 a0_0) := (blk_cell BK112.out 0).trans rfl
      have hcz5_1 : w3.cell? ⟨gb112, 1, none⟩ = some (.slice A0_1 l0_1.length c0_1) := (blk_cell BK112.out 1).trans rfl
      have hfz5_0 := blk_frozen BK112.out 0
      have hfz5_1 := blk_frozen BK112.out 1
      go_wp2
      go_meet
      case rel => exact ⟨_, (true), (by (rfl)), H', ⟨by (omega)⟩, ⟨by exact BK112.out⟩, ⟨HB.out⟩⟩
    rw [if_neg c4] at H
    have c4b0 : decide (a0_0 < 1) = false := decide_eq_false c4
    clear c4
    (skip)
    have H' := Aside0.mk H
    clear H
    have hcz6_0 : w3.cell? ⟨gb112, 0, none⟩ = some (.int .i64 a0_0) := (blk_cell BK112.out 0).trans rfl
    have hcz6_1 : w3.cell? ⟨gb112, 1, none⟩ = some (.slice A0_1 l0_1.length c0_1) := (blk_cell BK112.out 1).trans rfl
    have hfz6_0 := blk_frozen BK112.out 0
    have hfz6_1 := blk_frozen BK112.out 1
    go_wp2
    go_meet
    case rel => exact ⟨_, (decide (a0_0 > 3)), (by (rfl)), H', ⟨by (omega)⟩, ⟨by exact BK112.out⟩, ⟨HB.out⟩⟩
  clear HC2
  obtain ⟨kq, x11_1, rfl, HA, HJ1, BK112, HB⟩ := hcut
  rcases kq with _ | kj1
  · exact absurd HA.out (by simp [notaryref46_Payload.j0])
  have H := HA.out
  clear HA
  simp only [notaryref46_Payload.j0] at H
  by_cases c7 : x11_1 = true
  · subst c7
    have H1 : (some (([] : List Int), 23)) = some (r1, r2) := by rw [if_pos rfl] at H; exact H
    clear H
    have H := H1
    clear H1
    obtain ⟨y113, hy113⟩ : ∃ y_ : List Int, y_ = ([] : List Int) := ⟨_, rfl⟩
    replace H : (some (y113, 23)) = some (r1, r2) := by (rw [hy113]; with_reducible exact H)
    have Ny113 := Aside0.mk hy113
    clear hy113
    simp only [Option.some.injEq, Prod.mk.injEq] at H
    obtain ⟨rfl, rfl⟩ := H
    go_wp2_with ((((with_reducible refine gate_dst (N := 12) rfl ?_); refine Kd.R_lit (Kd.int .u8) _ 5 ?hg (N := 12) ?hd (xs := ([] : List Int)) (inner := []) (ok := fun _ => True) (okp := fun _ => True) ?hr ?hp (fun _ hk => hk) trivial (Below.refl _ _) (Nat.le_refl _) (by simp) ?_; (case hd => rfl); (case hg => rfl); (case hr => (go_simp; done)); (case hp => exact (Reps.none _ _)); intro v114 w8 ho9 hb hg_ hnew_; clear hg_ hnew_; (rw [← Ny113.out] at ho9); have n0_ := Aside0.mk (Kd.R_lower ho9 (below_size HB.out)); have n1_ := Aside0.mk (blk_below (g := gb112) (o := .cells #[.int .i64 a0_0, .slice A0_1 l0_1.length c0_1] 35 (0, 0)) (by exact BK112.out) hb); have n2_ := Aside0.mk (below_step HB.out hb); clear BK112; clear HB; have HO115 := n0_; have BK112 := n1_; have HB := n2_; clear n0_ n1_ n2_; clear hb ho9)))
    go_ret2
    exact ⟨_, by (rfl), by exact HO115.out, HB.out⟩
  replace c7 := Bool.eq_false_iff.mpr c7
  subst c7
  have H1 : (if (l0_1.length : Int) > 1024 then (some (([] : List Int), 3)) else ((some (([(a0_0) % 256] : List Int) : List Int)).bind fun y119 => (if y119.length + l0_1.length < 140737488355328 then (some ((y119 ++ l0_1), 0)) else (none)))) = some (r1, r2) := by rw [if_neg (show ¬ (false = true) by decide)] at H; exact H
  clear H
  have H := H1
  clear H1
  by_cases c10 : (l0_1.length : Int) > 1024
  · rw [if_pos c10] at H
    have c10b0 : decide (1024 < (l0_1.length : Int)) = true := decide_eq_true c10
    have c10b1 : decide (1024 < l0_1.length) = true := decide_eq_true (by omega)
    clear c10
    obtain ⟨y116, hy116⟩ : ∃ y_ : List Int, y_ = ([] : List Int) := ⟨_, rfl⟩
    replace H : (some (y116, 3)) = some (r1, r2) := by (rw [hy116]; with_reducible exact H)
    have Ny116 := Aside0.mk hy116
    clear hy116
    simp only [Option.some.injEq, Prod.mk.injEq] at H
    obtain ⟨rfl, rfl⟩ := H
    have hcz11_0 : wc.cell? ⟨gb112, 0, none⟩ = some (.int .i64 a0_0) := (blk_cell BK112.out 0).trans rfl
    have hcz11_1 : wc.cell? ⟨gb112, 1, none⟩ = some (.slice A0_1 l0_1.length c0_1) := (blk_cell BK112.out 1).trans rfl
    have hfz11_0 := blk_frozen BK112.out 0
    have hfz11_1 := blk_frozen BK112.out 1
    go_wp2_with ((((with_reducible refine gate_dst (N := 17) rfl ?_); refine Kd.R_lit (Kd.int .u8) _ 5 ?hg (N := 17) ?hd (xs := ([] : List Int)) (inner := []) (ok := fun _ => True) (okp := fun _ => True) ?hr ?hp (fun _ hk => hk) trivial (Below.refl _ _) (Nat.le_refl _) (by simp) ?_; (case hd => rfl); (case hg => rfl); (case hr => (go_simp; done)); (case hp => exact (Reps.none _ _)); intro v117 w12 ho13 hb hg_ hnew_; clear hg_ hnew_; (rw [← Ny116.out] at ho13); have n0_ := Aside0.mk (Kd.R_lower ho13 (below_size HB.out)); have n1_ := Aside0.mk (blk_below (g := gb112) (o := .cells #[.int .i64 a0_0, .slice A0_1 l0_1.length c0_1] 35 (0, 0)) (by exact BK112.out) hb); have n2_ := Aside0.mk (below_step HB.out hb); clear BK112; clear HB; have HO118 := n0_; have BK112 := n1_; have HB := n2_; clear n0_ n1_ n2_; clear hb ho13)))
    go_ret2
    exact ⟨_, by (rfl), by exact HO118.out, HB.out⟩
  rw [if_neg c10] at H
  have c10b0 : decide (1024 < (l0_1.length : Int)) = false := decide_eq_false c10
  have c10b1 : decide (1024 < l0_1.length) = false := decide_eq_false (by omega)
  clear c10
  obtain ⟨y119, hy119⟩ : ∃ y_ : List Int, y_ = (([(a0_0) % 256] : List Int)) := ⟨_, rfl⟩
  replace H : (if y119.length + l0_1.length < 140737488355328 then (some ((y119 ++ l0_1), 0)) else (none)) = some (r1, r2) := by ((have H2_ := (Option.bind_some _ _).symm.trans H; rw [hy119]; with_reducible exact H2_))
  have Ny119 := Aside0.mk hy119
  clear hy119
  by_cases c14 : y119.length + l0_1.length < 140737488355328
  rotate_left
  · rw [if_neg c14] at H
    exact absurd H (by simp)

  rw [if_pos c14] at H
  have LMc14 := Aside0.mk c14
  clear c14
  obtain ⟨y122, hy122⟩ : ∃ y_ : List Int, y_ = (y119 ++ l0_1) := ⟨_, rfl⟩
  replace H : (some (y122, 0)) = some (r1, r2) := by (rw [hy122]; with_reducible exact H)
  have Ny122 := Aside0.mk hy122
  clear hy122
  simp only [Option.some.injEq, Prod.mk.injEq] at H
  obtain ⟨rfl, rfl⟩ := H
  have hcz15_0 : wc.cell? ⟨gb112, 0, none⟩ = some (.int .i64 a0_0) := (blk_cell BK112.out 0).trans rfl
  have hcz15_1 : wc.cell? ⟨gb112, 1, none⟩ = some (.slice A0_1 l0_1.length c0_1) := (blk_cell BK112.out 1).trans rfl
  have hfz15_0 := blk_frozen BK112.out 0
  have hfz15_1 := blk_frozen BK112.out 1
  go_wp2_with (first | ((with_reducible refine gate_dst (N := 21) rfl ?_); refine Kd.R_lit (Kd.int .u8) _ 5 ?hg (N := 21) ?hd (xs := ([(a0_0) % 256] : List Int)) (inner := [.int .u8 ((a0_0) % 256)]) (ok := fun _ => True) (okp := fun _ => True) ?hr ?hp (fun _ hk => hk) trivial (Below.refl _ _) (Nat.le_refl _) (by simp) ?_; (case hd => rfl); (case hg => rfl); (case hr => (go_simp; done)); (case hp => exact (Reps.one (show Kd.M (Kd.int .u8) _ _ _ ((a0_0) % 256) [.int .u8 ((a0_0) % 256)] from rfl) (Reps.none _ _))); intro v120 w16 ho17 hb hg_ hnew_; clear hg_ hnew_; (rw [← Ny119.out] at ho17); have n0_ := Aside0.mk (Kd.R_lower ho17 (below_size HB.out)); have n1_ := Aside0.mk (blk_below (g := gb112) (o := .cells #[.int .i64 a0_0, .slice A0_1 l0_1.length c0_1] 35 (0, 0)) (by exact BK112.out) hb); have n2_ := Aside0.mk (below_step HB.out hb); clear BK112; clear HB; have HO121 := n0_; have BK112 := n1_; have HB := n2_; clear n0_ n1_ n2_; clear hb ho17; have hcz18_0 : w16.cell? ⟨gb112, 0, none⟩ = some (.int .i64 a0_0) := (blk_cell BK112.out 0).trans rfl; have hcz18_1 : w16.cell? ⟨gb112, 1, none⟩ = some (.slice A0_1 l0_1.length c0_1) := (blk_cell BK112.out 1).trans rfl; have hfz18_0 := blk_frozen BK112.out 0; have hfz18_1 := blk_frozen BK112.out 1) | ((with_reducible refine gate_builtin (b := .append) (xs := #[.tmp 21, .tmp 23]) rfl ?_); at_builtin; refine Kd.R_append_rows (Kd.int .u8) (w0 := w) w.heap.size rfl (.tmp 21) (.tmp 23) 22 5 (.int .u8 0) 1 rfl Try.underlying22 info5 rfl (by decide) (by omega) v120 y119 l0_1 _ _ _ (fun _ => True) (fun _ => False) rfl rfl ?aO ?aR (fun _ _ h => h) (fun _ h => h.elim) ?aF ?aB ?aS ?aL ?_; (case aR => exact Kd.C_below HR0_1.out HB.out); (case aB => exact HB.out); (case aF => exact (fun _ _ => trivial)); (case aO => exact (by exact HO121.out)); (case aS => exact (below_size HB.out)); (case aL => have := LMc14.out; omega); intro v123 w19 ho hb hg hat; rw [← Ny122.out] at ho; have n0_ := Aside0.mk (blk_grown (g := gb112) (o := .cells #[.int .i64 a0_0, .slice A0_1 l0_1.length c0_1] 35 (0, 0)) (by exact BK112.out) hg (Kd.R_ne HO121.out BK112.out (by decide))); have n1_ := Aside0.mk (hb); have n2_ := Aside0.mk (ho); clear BK112; clear HB; clear HO121; have BK112 := n0_; have HB := n1_; have HO124 := n2_; clear n0_ n1_ n2_; clear ho hb hg hat))
  go_ret2
  exact ⟨_, by (rfl), by exact HO124.out, HB.out⟩
end Go.Proofs.Ytogjnipojakfjaa.PJd
