-- SLIM: a printed text of which the unused ways are cut off
-- PRINTED by print.py (a twelfth state) out of the translation. Not trusted: Lean checks it.
import Derived.Test.YtogjnipojakfjaaPJdx0
import Derived.Test.YtogjnipojakfjaaPJdx1
namespace Go.Proofs.Ytogjnipojakfjaa.PJd
open Go.RowKit Go.Proofs.YtogjnipojakfjaaW.PrintWords Go.Proofs.YtogjnipojakfjaaW.PrintLast Go.Proofs.YtogjnipojakfjaaW.PrintMore
attribute [local go_sem] max2_int min2_int max_two min_two max_three min_three max_four min_four   -- for this text's walks alone
set_option linter.unusedVariables false
set_option linter.unusedSimpArgs false

/-! ### sha_spread: function 83 (given) -/
/-- a word of four bytes -/
def sha_spread.word (b0 b1 b2 b3 : Int) : Int := bits .or .u32 (bits .or .u32 (bits .or .u32 (IntKind.u32.wrap (IntKind.u32.wrap b0 * 16777216)) (IntKind.u32.wrap (IntKind.u32.wrap b1 * 65536))) (IntKind.u32.wrap (IntKind.u32.wrap b2 * 256))) (IntKind.u32.wrap b3)
def sha_spread.w0 (b : List Int) (j : Nat) : Int := sha_spread.word (rd b (4 * (j : Int))) (rd b (4 * (j : Int) + 1)) (rd b (4 * (j : Int) + 2)) (rd b (4 * (j : Int) + 3))
/-- the first sixteen -/
def sha_spread.begin (b : List Int) : Nat → List Int
  | 0 => []
  | n + 1 => sha_spread.begin b n ++ [sha_spread.w0 b n]
theorem sha_spread.begin_length (b : List Int) : ∀ n, (sha_spread.begin b n).length = n
  | 0 => rfl
  | n + 1 => by simp [sha_spread.begin, sha_spread.begin_length b n]
/-- one number more -/
def sha_spread.next (l : List Int) (i : Int) : Option Int :=
  (sha_rot.f (rd l (i - 15)) 7).bind fun a => (sha_rot.f (rd l (i - 15)) 18).bind fun b => (sha_rot.f (rd l (i - 2)) 17).bind fun c => (sha_rot.f (rd l (i - 2)) 19).bind fun d =>
    some (IntKind.u32.wrap (IntKind.u32.wrap (IntKind.u32.wrap (rd l (i - 16) + rd l (i - 7)) + bits .xor .u32 (bits .xor .u32 a b) (rd l (i - 15) / 8)) + bits .xor .u32 (bits .xor .u32 c d) (rd l (i - 2) / 1024)))
def sha_spread.more : Nat → List Int → Option (List Int)
  | 0, l => some l
  | n + 1, l => (sha_spread.next l (l.length : Int)).bind fun v => sha_spread.more n (l ++ [v])
def sha_spread.f (b : List Int) : Option (List Int) := sha_spread.more 48 (sha_spread.begin b 16)
theorem sha_spread.rd_get (l : List Int) (i : Int) (n : Nat) (h : i = (n : Int)) (hn : n < l.length) : rd l i = l[n] := by
  subst h
  unfold rd
  rw [Int.toNat_natCast, List.getD_eq_getElem?_getD, List.getElem?_eq_getElem hn]; rfl
theorem sha_spread.cell {W : World} {g : Nat} {l : List Int} {m : Nat} (h : sha_rounds.Blk W g (l ++ List.replicate m 0)) (i : Int) (h0 : 0 ≤ i) (h1 : i < l.length) : W.cell? ⟨g, i.toNat, none⟩ = some (.int .u32 (rd l i)) := by
  have hn : i.toNat < l.length := by omega
  rw [blk_cell h.out, sha_rounds.arr_get _ _ _ (by simp; omega), sha_spread.rd_get l i i.toNat (by omega) hn, List.getElem_append_left hn]
set_option maxHeartbeats 4000000 in
set_option maxRecDepth 100000 in
theorem sha_spread.calls (A0 : Option Addr) (c0 : Nat) (l0 : List Int) (r : List Int) (w : World) (hr0 : Kd.C (Kd.int .u8) w A0 l0.length l0) (hc0 : l0.length ≤ c0) (hl : l0.length = 64) (h : sha_spread.f l0 = some r) :
    Calls Try.prog 83 #[.slice A0 l0.length c0] w fun e w' => e = .returned (.agg (nums .u32 r).toArray) ∧ Below w.heap.size w w' := by
  have HR0 := Aside0.mk hr0
  have HLN := Aside0.mk hl
  have HF := Aside0.mk h
  clear hr0 hl h
  have hnew : ∀ W : World, W.heap.size = w.heap.size → sha_rounds.Blk ((W.alloc (.cells (nums .u32 (List.replicate 64 0)).toArray 105)).alloc (.cells (nums .u32 (List.replicate 64 0)).toArray 105)) w.heap.size (List.replicate 64 0) ∧ sha_rounds.Blk ((W.alloc (.cells (nums .u32 (List.replicate 64 0)).toArray 105)).alloc (.cells (nums .u32 (List.replicate 64 0)).toArray 105)) (w.heap.size + 1) (List.replicate 64 0) := by
    intro W hW
    rw [← hW]
    exact ⟨⟨blk_alloc (blk_new _ _) _⟩, ⟨by have := blk_new (W.alloc (.cells (nums .u32 (List.replicate 64 0)).toArray 105)) (.cells (nums .u32 (List.replicate 64 0)).toArray 105); simpa using this⟩⟩
  have HNEW := Aside0.mk hnew
  clear hnew
  go_enter Try.func83, Try.ntmps83
  go_wp2
  go_loopg [8] 16 (fun q v8 w' => ∃ (j : Nat) (d : List Int), v8 = .int .i64 (j : Int) ∧ j + q = 16 ∧ Aside0 (d = sha_spread.begin l0 j) ∧ Aside0 (sha_rounds.Blk w' w.heap.size (List.replicate 64 0)) ∧ Aside0 (sha_rounds.Blk w' (w.heap.size + 1) (d ++ List.replicate (48 + q) 0)) ∧ Aside0 (Below w.heap.size w w'))
  case atStart => exact ⟨0, [], by go_num, rfl, ⟨rfl⟩, ⟨⟨(HNEW.out w rfl).1.out⟩⟩, ⟨⟨(HNEW.out w rfl).2.out⟩⟩, ⟨below_alloc (below_alloc (Below.refl _ _) _) _⟩⟩
  case round =>
    obtain ⟨j, d, rfl, hjq, hdl, HZ0, HZ1, HB⟩ := hrel
    have HDL : Aside0 (d.length = j) := ⟨by rw [hdl.out, sha_spread.begin_length]⟩
    cases gk with
    | zero =>
      obtain rfl : j = 16 := by omega
      have hb0 : decide (((16 : Nat) : Int) < 16) = false := by decide
      have hd := hdl.out
      have HM : Aside0 (sha_spread.more 48 d = some r) := ⟨by rw [hd]; exact HF.out⟩
      clear hdl hd HF
      go_wp2
      obtain ⟨wo, rfl⟩ : ∃ wo : World, wo = wr := ⟨_, rfl⟩
      go_loopg [5] 48 (fun q v5 w' => ∃ (d : List Int), v5 = .int .i64 (d.length : Int) ∧ d.length + q = 64 ∧ 16 ≤ d.length ∧ Aside0 (sha_spread.more q d = some r) ∧ Aside0 (sha_rounds.Blk w' w.heap.size (List.replicate 64 0)) ∧ Aside0 (sha_rounds.Blk w' (w.heap.size + 1) (d ++ List.replicate q 0)) ∧ Aside0 (Below w.heap.size w w'))
      case atStart => exact ⟨d, by rw [HDL.out]; rfl, by have := HDL.out; omega, by have := HDL.out; omega, HM, HZ0, HZ1, HB⟩
      case round =>
        clear HZ0 HZ1 HB HM HDL
        obtain ⟨d, rfl, hdq, hd16, HM, HZ0, HZ1, HB⟩ := hrel
        cases gk with
        | zero =>
          have hd64 : d.length = 64 := by omega
          have HD := Aside0.mk hd64
          have hb0 : decide ((d.length : Int) < 64) = false := decide_eq_false (by omega)
          have hb1 : decide (d.length < 64) = false := decide_eq_false (by omega)
          have hm := HM.out
          simp only [sha_spread.more] at hm
          obtain rfl := Option.some.inj hm
          have HZ2 : Aside0 (sha_rounds.Blk wr (w.heap.size + 1) d) := ⟨by simpa using HZ1.out⟩
          clear HZ1 HM hd64 hdq hd16
          go_wp2_with (first | (refine wpList_load_row rfl 105 (.tmp 3) rfl (w.heap.size + 1) rfl 105 _ (0, 0) _ HZ2.out.out Try.underlying105 rfl (sha_rounds.size d HD.out) ?_) | (refine wpList_store_row rfl 105 (.tmp 2) (.tmp 88) rfl w.heap.size _ rfl rfl 105 _ HZ0.out.out (sha_rounds.size d HD.out) (by have := HD.out; simp [nums, this]) (sha_rounds.ones _ _) ?_))
          refine bodyPost_ret (v := .agg (nums .u32 d).toArray) (results_cell_row rfl _ _ w.heap.size 105 _ (0, 0) _ rfl (setRow_heap _ _ _ _ _ _ HZ0.out.out) Try.underlying105 rfl (sha_rounds.size d HD.out)) rfl ⟨rfl, sha_rounds.below_row HB.out (Nat.le_refl _) _⟩
        | succ q =>
          have hj64 : (d.length : Int) < 64 := by omega
          have hjb : decide ((d.length : Int) < 64) = true := decide_eq_true hj64
          have hjc : decide (d.length < 64) = true := decide_eq_true (by omega)
          have hc15 := sha_spread.cell HZ1.out ((d.length : Int) - 15) (by omega) (by omega)
          have hc2 := sha_spread.cell HZ1.out ((d.length : Int) - 2) (by omega) (by omega)
          have hc16 := sha_spread.cell HZ1.out ((d.length : Int) - 16) (by omega) (by omega)
          have hc7 := sha_spread.cell HZ1.out ((d.length : Int) - 7) (by omega) (by omega)
          have hw15 : IntKind.i64.wrap ((d.length : Int) - 15) = (d.length : Int) - 15 := IntWalk.i64_in _ (by omega)
          have hw2 : IntKind.i64.wrap ((d.length : Int) - 2) = (d.length : Int) - 2 := IntWalk.i64_in _ (by omega)
          have hw16 : IntKind.i64.wrap ((d.length : Int) - 16) = (d.length : Int) - 16 := IntWalk.i64_in _ (by omega)
          have hw7 : IntKind.i64.wrap ((d.length : Int) - 7) = (d.length : Int) - 7 := IntWalk.i64_in _ (by omega)
          have hp15 : 0 ≤ (d.length : Int) - 15 := by omega
          have hp2 : 0 ≤ (d.length : Int) - 2 := by omega
          have hp16 : 0 ≤ (d.length : Int) - 16 := by omega
          have hp7 : 0 ≤ (d.length : Int) - 7 := by omega
          have hs15 : 15 ≤ (d.length : Int) := by omega
          have hs2 : 2 ≤ (d.length : Int) := by omega
          have hs16 : 16 ≤ (d.length : Int) := by omega
          have hs7 : 7 ≤ (d.length : Int) := by omega
          have hl15 : (d.length : Int) - 15 < 64 := by omega
          have hl2 : (d.length : Int) - 2 < 64 := by omega
          have hl16 : (d.length : Int) - 16 < 64 := by omega
          have hl7 : (d.length : Int) - 7 < 64 := by omega
          have hm := HM.out
          simp only [sha_spread.more] at hm
          obtain ⟨v, hv, hm1⟩ := Option.bind_eq_some_iff.mp hm
          have HM2 := Aside0.mk hm1
          clear hm hm1 HM
          unfold sha_spread.next at hv
          obtain ⟨ra, hra, hv1⟩ := Option.bind_eq_some_iff.mp hv
          obtain ⟨rb, hrb, hv2⟩ := Option.bind_eq_some_iff.mp hv1
          obtain ⟨rc, hrc, hv3⟩ := Option.bind_eq_some_iff.mp hv2
          obtain ⟨rd', hrd, hv4⟩ := Option.bind_eq_some_iff.mp hv3
          have HV := Aside0.mk (Option.some.inj hv4)
          clear hv1 hv2 hv3 hv4
          have HRA := Aside0.mk hra
          have HRB := Aside0.mk hrb
          have HRC := Aside0.mk hrc
          have HRD := Aside0.mk hrd
          clear hv hra hrb hrc hrd
          generalize rd d ((d.length : Int) - 15) = x15 at *
          generalize rd d ((d.length : Int) - 2) = x2 at *
          generalize rd d ((d.length : Int) - 16) = x16 at *
          generalize rd d ((d.length : Int) - 7) = x7 at *
          go_wp2
          go_quiet (fail)
          obtain ⟨W3, hW3⟩ : ∃ W3, W3 = wr.drewN nq := ⟨_, rfl⟩
          have HZ0a : Aside0 (sha_rounds.Blk W3 w.heap.size (List.replicate 64 0)) := ⟨⟨by rw [hW3]; exact HZ0.out.out⟩⟩
          have HZ1a : Aside0 (sha_rounds.Blk W3 (w.heap.size + 1) (d ++ List.replicate (q + 1) 0)) := ⟨⟨by rw [hW3]; exact HZ1.out.out⟩⟩
          have HBa : Aside0 (Below w.heap.size w W3) := ⟨by rw [hW3]; exact pw_below_drewN HB.out _⟩
          have ha16 : W3.cell? ⟨w.heap.size + 1, ((d.length : Int) - 16).toNat, none⟩ = some (.int .u32 x16) := by rw [hW3]; exact hc16
          have ha7 : W3.cell? ⟨w.heap.size + 1, ((d.length : Int) - 7).toNat, none⟩ = some (.int .u32 x7) := by rw [hW3]; exact hc7
          rw [← hW3]
          clear hW3 HZ0 HZ1 HB hc15 hc2 hc16 hc7
          go_wp2
          obtain ⟨W4, hW4⟩ : ∃ W4, W4 = W3.drew := ⟨_, rfl⟩
          have HZ0n : Aside0 (sha_rounds.Blk W4 w.heap.size (List.replicate 64 0)) := ⟨⟨by rw [hW4]; exact HZ0a.out.out⟩⟩
          have HZ1n : Aside0 (sha_rounds.Blk W4 (w.heap.size + 1) (d ++ List.replicate (q + 1) 0)) := ⟨⟨by rw [hW4]; exact HZ1a.out.out⟩⟩
          have HBn : Aside0 (Below w.heap.size w W4) := ⟨by rw [hW4]; exact below_drew HBa.out⟩
          have HW := Aside0.mk hW4
          clear hW4
          go_still_tail 29, (by kernel_rfl)
          still_call (sha_rot.still x15 7 _ _ HRA.out)
          repeat still_step
          still_call (sha_rot.still x15 18 _ _ HRB.out)
          repeat still_step
          still_call (sha_rot.still x2 17 _ _ HRC.out)
          repeat still_step
          still_call (sha_rot.still x2 19 _ _ HRD.out)
          repeat still_step
          refine wpStill_nil ?_
          change wpList _ _ _ _ _ W3.drew
          rw [← HW.out, HV.out]
          clear HW ha16 ha7
          have hcl : W4.cell? ⟨w.heap.size + 1, d.length, none⟩ = some (.int .u32 (d ++ List.replicate (q + 1) 0)[d.length]!) := by
            rw [blk_cell HZ1n.out.out, sha_rounds.arr_get _ _ _ (by simp)]; congr 2; rw [List.getElem!_eq_getElem?_getD, List.getElem?_eq_getElem]; rfl
          have hfz : W4.frozen? ⟨w.heap.size + 1, d.length, none⟩ = false := blk_frozen HZ1n.out.out _
          go_wp2
          go_roundg q
          case measure => omega
          case rel =>
            refine ⟨d ++ [v], by simp, by simp; omega, by simp; omega, HM2, ⟨⟨blk_far HZ0n.out.out (by simp) _⟩⟩, ⟨⟨?_⟩⟩, ⟨HBn.out.setCell (by simp) _⟩⟩
            have hs := blk_set HZ1n.out.out d.length (.int .u32 v)
            rw [sha_rounds.arr_set, sha_rounds.set_at d v q] at hs
            exact hs
    | succ q =>
      have hj : j < 16 := by omega
      have hb0 : decide ((j : Int) < 16) = true := decide_eq_true (by omega)
      have hb2 : decide (j < 64) = true := decide_eq_true (by omega)
      have hb3 : decide ((j : Int) < 64) = true := decide_eq_true (by omega)
      have hC := Kd.C_below HR0.out HB.out
      obtain ⟨ad, eA, hc0⟩ := Kd.at_int hC (4 * (j : Int)) (by omega) (by have := HLN.out; omega)
      obtain ⟨ad1, eA1, hc1⟩ := Kd.at_int hC (4 * (j : Int) + 1) (by omega) (by have := HLN.out; omega)
      obtain ⟨ad2, eA2, hc2⟩ := Kd.at_int hC (4 * (j : Int) + 2) (by omega) (by have := HLN.out; omega)
      obtain ⟨ad3, eA3, hc3⟩ := Kd.at_int hC (4 * (j : Int) + 3) (by omega) (by have := HLN.out; omega)
      subst eA
      obtain rfl : ad = ad1 := by injection eA1
      obtain rfl : ad = ad2 := by injection eA2
      obtain rfl : ad = ad3 := by injection eA3
      clear eA1 eA2 eA3
      have hw0 : IntKind.i64.wrap (4 * (j : Int)) = 4 * (j : Int) := IntWalk.i64_in _ (by omega)
      have hw1 : IntKind.i64.wrap (4 * (j : Int) + 1) = 4 * (j : Int) + 1 := IntWalk.i64_in _ (by omega)
      have hw2 : IntKind.i64.wrap (4 * (j : Int) + 2) = 4 * (j : Int) + 2 := IntWalk.i64_in _ (by omega)
      have hw3 : IntKind.i64.wrap (4 * (j : Int) + 3) = 4 * (j : Int) + 3 := IntWalk.i64_in _ (by omega)
      have HD2 : Aside0 (d ++ [sha_spread.word (rd l0 (4 * (j : Int))) (rd l0 (4 * (j : Int) + 1)) (rd l0 (4 * (j : Int) + 2)) (rd l0 (4 * (j : Int) + 3))] = sha_spread.begin l0 (j + 1)) := ⟨by rw [hdl.out]; rfl⟩
      clear hdl
      generalize rd l0 (4 * (j : Int)) = b0 at hc0 HD2
      generalize rd l0 (4 * (j : Int) + 1) = b1 at hc1 HD2
      generalize rd l0 (4 * (j : Int) + 2) = b2 at hc2 HD2
      generalize rd l0 (4 * (j : Int) + 3) = b3 at hc3 HD2
      have hq0 : 4 * (j : Int) < (l0.length : Int) := by have := HLN.out; omega
      have hq1 : 4 * (j : Int) + 1 < (l0.length : Int) := by have := HLN.out; omega
      have hq2 : 4 * (j : Int) + 2 < (l0.length : Int) := by have := HLN.out; omega
      have hq3 : 4 * (j : Int) + 3 < (l0.length : Int) := by have := HLN.out; omega
      have hj64 : (j : Int) < 64 := by omega
      have hj65 : j < 64 := by omega
      have hn0 : 0 ≤ 4 * (j : Int) := by omega
      have hn1 : 0 ≤ 4 * (j : Int) + 1 := by omega
      have hn2 : 0 ≤ 4 * (j : Int) + 2 := by omega
      have hn3 : 0 ≤ 4 * (j : Int) + 3 := by omega
      clear hC
      go_wp2
      obtain ⟨W2, hW2⟩ : ∃ W2, W2 = wr.drew := ⟨_, rfl⟩
      have HZ0n : Aside0 (sha_rounds.Blk W2 w.heap.size (List.replicate 64 0)) := ⟨⟨by rw [hW2]; exact HZ0.out.out⟩⟩
      have HZ1n : Aside0 (sha_rounds.Blk W2 (w.heap.size + 1) (d ++ List.replicate (48 + q + 1) 0)) := ⟨⟨by rw [hW2]; exact HZ1.out.out⟩⟩
      have HBn : Aside0 (Below w.heap.size w W2) := ⟨by rw [hW2]; exact below_drew HB.out⟩
      have HW := Aside0.mk hW2
      clear hW2
      go_still_tail 35, (by kernel_rfl)
      change wpList _ _ _ _ _ wr.drew
      rw [← HW.out]
      clear HW hc0 hc1 hc2 hc3
      have hcl : W2.cell? ⟨w.heap.size + 1, j, none⟩ = some (.int .u32 (d ++ List.replicate (48 + q + 1) 0)[j]!) := by
        rw [blk_cell HZ1n.out.out, sha_rounds.arr_get _ _ _ (by have := HDL.out; simp; omega)]; congr 2; rw [List.getElem!_eq_getElem?_getD, List.getElem?_eq_getElem]; rfl
      have hfz : W2.frozen? ⟨w.heap.size + 1, j, none⟩ = false := blk_frozen HZ1n.out.out _
      go_wp2
      go_roundg q
      case measure => omega
      case rel =>
        refine ⟨j + 1, d ++ [sha_spread.word b0 b1 b2 b3], by go_num, by omega, HD2, ⟨⟨blk_far HZ0n.out.out (by simp) _⟩⟩, ⟨⟨?_⟩⟩, ⟨HBn.out.setCell (by simp) _⟩⟩
        have hs := blk_set HZ1n.out.out j (.int .u32 (sha_spread.word b0 b1 b2 b3))
        rw [sha_rounds.arr_set] at hs
        have e := sha_rounds.set_at d (sha_spread.word b0 b1 b2 b3) (48 + q)
        rw [HDL.out] at e
        rw [e] at hs
        exact hs

/-! ### sha_state_behind: function 74 (given) -/
/-- eight numbers -/
structure sha_behind.St where
  a : Int
  b : Int
  c : Int
  d : Int
  e : Int
  f : Int
  g : Int
  h : Int
def sha_behind.St.list (s : sha_behind.St) : List Int := [s.a, s.b, s.c, s.d, s.e, s.f, s.g, s.h]
def sha_behind.St.cells (s : sha_behind.St) : Array Value := #[.int .u32 s.a, .int .u32 s.b, .int .u32 s.c, .int .u32 s.d, .int .u32 s.e, .int .u32 s.f, .int .u32 s.g, .int .u32 s.h]
theorem sha_behind.St.cells_eq (s : sha_behind.St) : (nums .u32 s.list).toArray = s.cells := rfl
theorem sha_behind.size (s : sha_behind.St) : (Try.prog.info? 108).map (·.size) = some s.cells.size := by
  rw [show (Try.prog.info? 108).map (·.size) = some 8 from by kernel_rfl]; rfl
theorem sha_rounds.len : ∀ (ps l : List Int), sha_rounds.go ps = some l → l.length = ps.length
  | [], l, h => by simp only [sha_rounds.go] at h; obtain rfl := Option.some.inj h; rfl
  | p :: r, l, h => by
    simp only [sha_rounds.go] at h
    obtain ⟨t, _, h⟩ := Option.bind_eq_some_iff.mp h
    obtain ⟨m, hm, h⟩ := Option.bind_eq_some_iff.mp h
    obtain rfl := Option.some.inj h
    simp [sha_rounds.len r m hm]
theorem sha_rounds.len64 {l : List Int} (h : sha_rounds.f = some l) : l.length = 64 := by
  obtain ⟨ps, _, hgo⟩ := Option.bind_eq_some_iff.mp h
  by_cases hl : ps.length = 64
  · rw [if_pos hl] at hgo; rw [sha_rounds.len ps l hgo, hl]
  · rw [if_neg hl] at hgo; exact absurd hgo (by simp)
def sha_Block.st : List Int → sha_behind.St
  | [a, b, c, d, e, f, g, h] => ⟨a, b, c, d, e, f, g, h⟩
  | _ => ⟨0, 0, 0, 0, 0, 0, 0, 0⟩
theorem sha_Block.st_list {l : List Int} (h : l.length = 8) : (sha_Block.st l).list = l := by
  match l, h with
  | [a, b, c, d, e, f, g, h], _ => rfl
/-- block g holds a state -/
structure sha_behind.Blk (W : World) (g : Nat) (s : sha_behind.St) : Prop where
  mk ::
  out : W.heap[g]? = some (.cells s.cells 108 (0, 0))
/-- a whole array stored: the world behind it by what it is good for -/
theorem sha_behind.put_row {P : Program} {ops : Array Oper} {rest : List Oper} {o : Oper} {a : Act} {w0 W : World} {Q : Exit → Act → World → Prop} (hgd : o.guard = none) (ty : TypeId) (x y : Operand) (ho : o.op = .store ty x y)
    (g : Nat) (cells : Array Value) (hx : a.eval x = .pointer (some ⟨g, 0, none⟩)) (hy : a.eval y = .agg cells)
    (t : TypeId) (old : Array Value) (hg : W.heap[g]? = some (.cells old t (0, 0))) (hi : (P.info? ty).map (·.size) = some cells.size)
    (hold : old.size = cells.size) (h1 : cells.all (·.oneCell') = true) (HB : Below w0.heap.size w0 W) (hle : w0.heap.size ≤ g)
    (h : ∀ w2, w2.heap[g]? = some (.cells cells t (0, 0)) → (∀ k, k ≠ g → w2.heap[k]? = W.heap[k]?) → w2.heap.size = W.heap.size → Below w0.heap.size w0 w2 → wpList P ops Q rest (a.put o.dst undef) w2) : wpList P ops Q (o :: rest) a W :=
  wpList_store_row hgd ty x y ho g cells hx hy t old hg hi hold h1
    (h _ (setRow_heap _ _ _ _ _ _ hg) (fun k hk => setRow_other _ _ _ _ hk) (by simp) (sha_rounds.below_row HB hle _))
theorem sha_spread.more_length : ∀ (n : Nat) (l r : List Int), sha_spread.more n l = some r → r.length = l.length + n
  | 0, l, r, h => by simp only [sha_spread.more] at h; obtain rfl := Option.some.inj h; rfl
  | n + 1, l, r, h => by
    simp only [sha_spread.more] at h
    obtain ⟨v, _, h⟩ := Option.bind_eq_some_iff.mp h
    have := sha_spread.more_length n _ r h
    simp at this; omega
theorem sha_spread.length {b r : List Int} (h : sha_spread.f b = some r) : r.length = 64 := by
  have := sha_spread.more_length 48 _ r h
  rw [sha_spread.begin_length] at this; omega
def sha_behind.tt (x : sha_behind.St) (k w r6 r11 r25 : Int) : Int :=
  IntKind.u32.wrap (IntKind.u32.wrap (IntKind.u32.wrap (IntKind.u32.wrap (x.h + bits .xor .u32 (bits .xor .u32 r6 r11) r25) + bits .xor .u32 (bits .and .u32 x.e x.f) (bits .and .u32 (bits .xor .u32 (if IntKind.u32.signed = true then -1 else IntKind.u32.max) x.e) x.g)) + k) + w)
def sha_behind.uu (x : sha_behind.St) (r2 r13 r22 : Int) : Int :=
  IntKind.u32.wrap (bits .xor .u32 (bits .xor .u32 r2 r13) r22 + bits .xor .u32 (bits .xor .u32 (bits .and .u32 x.a x.b) (bits .and .u32 x.a x.c)) (bits .and .u32 x.b x.c))
def sha_behind.rnd (k w : Int) (x : sha_behind.St) : Option sha_behind.St :=
  (sha_rot.f x.e 6).bind fun r6 => (sha_rot.f x.e 11).bind fun r11 => (sha_rot.f x.e 25).bind fun r25 => (sha_rot.f x.a 2).bind fun r2 => (sha_rot.f x.a 13).bind fun r13 => (sha_rot.f x.a 22).bind fun r22 =>
    some ⟨(sha_behind.tt x k w r6 r11 r25 + sha_behind.uu x r2 r13 r22) % 4294967296, x.a, x.b, x.c, (x.d + sha_behind.tt x k w r6 r11 r25) % 4294967296, x.e, x.f, x.g⟩
def sha_behind.rnds : List Int → List Int → sha_behind.St → Option sha_behind.St
  | k :: ks, w :: ws, x => (sha_behind.rnd k w x).bind (sha_behind.rnds ks ws)
  | _, _, x => some x
/-- two states, number by number -/
def sha_behind.add (x s : sha_behind.St) : List Int := List.zipWith (fun a b => (a + b) % 4294967296) x.list s.list
theorem sha_behind.cell_list {W : World} {g : Nat} {t : TypeId} {l : List Int} (h : W.heap[g]? = some (.cells (nums .u32 l).toArray t (0, 0))) (j : Nat) (hj : j < l.length) :
    W.cell? ⟨g, j, none⟩ = some (.int .u32 (rd l (j : Int))) := by
  rw [blk_cell h, sha_rounds.arr_get _ _ _ hj, sha_spread.rd_get l j j (by omega) hj]
theorem sha_behind.add_step (x s : sha_behind.St) (j : Nat) (hj : j < 8) : (sha_behind.add x s).take (j + 1) ++ x.list.drop (j + 1) = ((sha_behind.add x s).take j ++ x.list.drop j).set j ((rd ((sha_behind.add x s).take j ++ x.list.drop j) (j : Int) + rd s.list (j : Int)) % 4294967296) := by
  match j, hj with
  | 0, _ => rfl
  | 1, _ => rfl
  | 2, _ => rfl
  | 3, _ => rfl
  | 4, _ => rfl
  | 5, _ => rfl
  | 6, _ => rfl
  | 7, _ => rfl
def sha_behind.f (kk b : List Int) (s : sha_behind.St) : Option (List Int) :=
  (sha_spread.f b).bind fun ws => (sha_behind.rnds kk ws s).bind fun x => some (sha_behind.add x s)
set_option maxHeartbeats 8000000 in
set_option maxRecDepth 100000 in
theorem sha_behind.calls (s : sha_behind.St) (A : Option Addr) (c : Nat) (b : List Int) (bk : Nat) (kk : List Int) (w : World) (hr : Kd.C (Kd.int .u8) w A b.length b) (hc : b.length ≤ c) (hb : b.length = 64) (hk : sha_rounds.Blk w bk kk) (hkl : kk.length = 64) (ws : List Int) (hws : sha_spread.f b = some ws) (xr : sha_behind.St) (hxr : sha_behind.rnds kk ws s = some xr) :
    Calls Try.prog 74 #[.agg s.cells, .slice A b.length c, .pointer (some ⟨bk, 0, none⟩)] w fun e w' => e = .returned (.agg (nums .u32 (sha_behind.add xr s)).toArray) ∧ Below w.heap.size w w' := by
  have HR := Aside0.mk hr
  have HBL := Aside0.mk hb
  have HK := Aside0.mk hk
  have HKL := Aside0.mk hkl
  have HWS := Aside0.mk hws
  have HWL := Aside0.mk (sha_spread.length hws)
  have HXR := Aside0.mk hxr
  clear hr hb hk hkl hws hxr
  go_enter Try.func74, Try.ntmps74
  go_wp2_with fail
  refine (sha_spread.calls A c b ws _ (Kd.C_below HR.out (below_alloc (below_alloc (Below.refl _ _) _) _)) hc HBL.out HWS.out).mono ?_
  rintro e w1 ⟨rfl, hb1⟩
  have HS1 : Aside0 (sha_behind.Blk w1 w.heap.size s) := ⟨⟨blk_below (blk_alloc (blk_new _ _) _) hb1⟩⟩
  have hq := blk_new (w.alloc (.cells s.cells 108)) (.cells (sha_behind.St.cells ⟨0, 0, 0, 0, 0, 0, 0, 0⟩) 108)
  rw [show (w.alloc (.cells s.cells 108)).heap.size = w.heap.size + 1 by simp] at hq
  have HRS1 : Aside0 (sha_behind.Blk w1 (w.heap.size + 1) ⟨0, 0, 0, 0, 0, 0, 0, 0⟩) := ⟨⟨blk_below hq hb1⟩⟩
  clear hq
  have HBW1 : Aside0 (Below w.heap.size w w1) := ⟨below_step (below_alloc (below_alloc (Below.refl _ _) _) _) hb1⟩
  have HZ1 : Aside0 (w.heap.size + 2 ≤ w1.heap.size) := ⟨by have := hb1.size; simpa using this⟩
  clear hb1
  go_wp2_with (first | (refine wpList_load_row rfl 108 (.tmp 3) rfl w.heap.size rfl 108 _ (0, 0) _ HS2.out.out Try.underlying108 rfl (sha_behind.size s) ?_) | ((refine sha_behind.put_row (w0 := w) rfl 105 (.tmp 7) (.tmp 16) rfl w1.heap.size _ rfl rfl 105 _ (blk_new _ _) (sha_rounds.size ws HWL.out) (by have := HWL.out; simp [nums, this]) (sha_rounds.ones _ _) (below_alloc HBW1.out _) (by have := HZ1.out; omega) ?_); intro w2 hg2 ho2 hz2 hb2; (have HW2 : Aside0 (sha_rounds.Blk w2 w1.heap.size ws) := ⟨⟨hg2⟩⟩); (have HS2 : Aside0 (sha_behind.Blk w2 w.heap.size s) := ⟨⟨(ho2 _ (by have := HZ1.out; omega)).trans (blk_alloc HS1.out.out _)⟩⟩); (have HRS2 : Aside0 (sha_behind.Blk w2 (w.heap.size + 1) ⟨0, 0, 0, 0, 0, 0, 0, 0⟩) := ⟨⟨(ho2 _ (by have := HZ1.out; omega)).trans (blk_alloc HRS1.out.out _)⟩⟩); (have HBW2 : Aside0 (Below w.heap.size w w2) := ⟨hb2⟩); (have HZ2 : Aside0 (w2.heap.size = w1.heap.size + 1) := ⟨by rw [hz2]; simp⟩); clear hg2 ho2 hz2 hb2 HS1 HRS1 HBW1) | ((refine sha_behind.put_row (w0 := w) rfl 108 (.tmp 8) (.tmp 17) rfl w2.heap.size _ rfl rfl 108 _ (blk_new _ _) (sha_behind.size s) rfl (sha_rounds.ones .u32 s.list) (below_alloc HBW2.out _) (below_size HBW2.out) ?_); intro w3 hg3 ho3 hz3 hb3; (have HX3 : Aside0 (sha_behind.Blk w3 w2.heap.size s) := ⟨⟨hg3⟩⟩); (have HW3 : Aside0 (sha_rounds.Blk w3 w1.heap.size ws) := ⟨⟨(ho3 _ (by have := HZ2.out; omega)).trans (blk_alloc HW2.out.out _)⟩⟩); (have HS3 : Aside0 (sha_behind.Blk w3 w.heap.size s) := ⟨⟨(ho3 _ (by have := HZ1.out; have := HZ2.out; omega)).trans (blk_alloc HS2.out.out _)⟩⟩); (have HRS3 : Aside0 (sha_behind.Blk w3 (w.heap.size + 1) ⟨0, 0, 0, 0, 0, 0, 0, 0⟩) := ⟨⟨(ho3 _ (by have := HZ1.out; have := HZ2.out; omega)).trans (blk_alloc HRS2.out.out _)⟩⟩); (have HBW3 : Aside0 (Below w.heap.size w w3) := ⟨hb3⟩); clear hg3 ho3 hz3 hb3 HS2 HRS2 HBW2 HW2))
  have HK3 : Aside0 (sha_rounds.Blk w3 bk kk) := ⟨⟨blk_below HK.out.out HBW3.out⟩⟩
  obtain ⟨gw, hgw⟩ : ∃ gw, gw = w1.heap.size := ⟨_, rfl⟩
  obtain ⟨gx, hgx⟩ : ∃ gx, gx = w2.heap.size := ⟨_, rfl⟩
  have HG : Aside0 (w.heap.size + 2 ≤ gw ∧ gx = gw + 1 ∧ bk < w.heap.size) := ⟨by have := HZ1.out; have := HZ2.out; have := blk_lt HK.out.out; omega⟩
  rw [← hgw, ← hgx]
  rw [← hgx] at HX3
  rw [← hgw] at HW3
  clear hgw hgx HZ1 HZ2 HK
  go_loopg [18] 64 (fun q v18 w' => ∃ (j : Nat) (x : sha_behind.St), v18 = .int .i64 (j : Int) ∧ j + q = 64 ∧ Aside0 (sha_behind.rnds (kk.drop j) (ws.drop j) x = some xr) ∧ Aside0 (sha_behind.Blk w' gx x) ∧ Aside0 (sha_rounds.Blk w' gw ws) ∧ Aside0 (sha_behind.Blk w' w.heap.size s) ∧ Aside0 (sha_behind.Blk w' (w.heap.size + 1) ⟨0, 0, 0, 0, 0, 0, 0, 0⟩) ∧ Aside0 (sha_rounds.Blk w' bk kk) ∧ Aside0 (Below w.heap.size w w'))
  case atStart => exact ⟨0, s, by go_num, rfl, HXR, HX3, HW3, HS3, HRS3, HK3, HBW3⟩
  case round =>
    clear HX3 HW3 HS3 HRS3 HK3 HBW3 HXR
    obtain ⟨j, x, rfl, hjq, HM, HX, HW, HS, HRS, HK, HB⟩ := hrel
    cases gk with
    | zero =>
      obtain rfl : j = 64 := by omega
      have hjb : decide (((64 : Nat) : Int) < 64) = false := by decide
      have hm := HM.out
      rw [List.drop_eq_nil_of_le (by have := HKL.out; omega)] at hm
      simp only [sha_behind.rnds] at hm
      obtain rfl := Option.some.inj hm
      clear hm HM HW HK hjq
      go_wp2
      obtain ⟨wo, rfl⟩ : ∃ wo : World, wo = wr := ⟨_, rfl⟩
      go_loopg [100] 8 (fun q v100 w' => ∃ (j : Nat), v100 = .int .i64 (j : Int) ∧ j + q = 8 ∧ Aside0 (w'.heap[gx]? = some (.cells (nums .u32 ((sha_behind.add x s).take j ++ x.list.drop j)).toArray 108 (0, 0))) ∧ Aside0 (sha_behind.Blk w' w.heap.size s) ∧ Aside0 (sha_behind.Blk w' (w.heap.size + 1) ⟨0, 0, 0, 0, 0, 0, 0, 0⟩) ∧ Aside0 (Below w.heap.size w w'))
      case atStart => exact ⟨0, by go_num, rfl, ⟨HX.out.out⟩, HS, HRS, HB⟩
      case round =>
        clear HX HS HRS HB
        obtain ⟨j, rfl, hjq, HX, HS, HRS, HB⟩ := hrel
        cases gk with
        | zero =>
          obtain rfl : j = 8 := by omega
          have hjb2 : decide (((8 : Nat) : Int) < 8) = false := by decide
          have hx := HX.out
          rw [List.take_of_length_le (by simp [sha_behind.add, sha_behind.St.list]), List.drop_eq_nil_of_le (by simp [sha_behind.St.list]), List.append_nil] at hx
          have HX2 := Aside0.mk hx
          clear hx HX
          have HL : Aside0 ((Try.prog.info? 108).map (·.size) = some (nums .u32 (sha_behind.add x s)).toArray.size) := ⟨by
            rw [show (Try.prog.info? 108).map (·.size) = some 8 from by kernel_rfl]; simp [nums, sha_behind.add, sha_behind.St.list]⟩
          go_wp2_with (first | (refine wpList_load_row rfl 108 (.tmp 8) rfl gx rfl 108 _ (0, 0) _ HX2.out Try.underlying108 rfl HL.out ?_) | (refine wpList_store_row rfl 108 (.tmp 6) (.tmp 112) rfl (w.heap.size + 1) _ rfl rfl 108 _ HRS.out.out HL.out (by simp [nums, sha_behind.add, sha_behind.St.list, sha_behind.St.cells]) (sha_rounds.ones _ _) ?_))
          refine bodyPost_ret (v := .agg (nums .u32 (sha_behind.add x s)).toArray) (results_cell_row rfl _ _ (w.heap.size + 1) 108 _ (0, 0) _ rfl (setRow_heap _ _ _ _ _ _ HRS.out.out) Try.underlying108 rfl HL.out) rfl ⟨rfl, sha_rounds.below_row HB.out (by omega) _⟩
        | succ q =>
          have hj : (j : Int) < 8 := by omega
          have hjb : decide ((j : Int) < 8) = true := decide_eq_true hj
          have hx := sha_behind.cell_list HX.out j (by simp [sha_behind.add, sha_behind.St.list]; omega)
          have hs := sha_behind.cell_list (l := s.list) HS.out.out j (by simp [sha_behind.St.list]; omega)
          generalize hxv : rd ((sha_behind.add x s).take j ++ x.list.drop j) (j : Int) = xv at hx
          generalize hsv : rd s.list (j : Int) = sv at hs
          have HV : Aside0 ((sha_behind.add x s).take (j + 1) ++ x.list.drop (j + 1) = ((sha_behind.add x s).take j ++ x.list.drop j).set j ((xv + sv) % 4294967296)) := ⟨by
            rw [← hxv, ← hsv]; exact sha_behind.add_step x s j (by omega)⟩
          have HNL : Aside0 (((sha_behind.add x s).take j ++ x.list.drop j).length = 8) := ⟨by simp [sha_behind.add, sha_behind.St.list]; omega⟩
          clear hxv hsv
          have hjb3 : decide (j < 8) = true := decide_eq_true (by omega)
          have hj8 : j < 8 := by omega
          have HHG : Aside0 (w.heap.size < gx ∧ w.heap.size + 1 < gx) := ⟨by have := HG.out; omega⟩
          go_wp2
          obtain ⟨W4, hW4⟩ : ∃ W4, W4 = wr.drew := ⟨_, rfl⟩
          have HX4 : Aside0 (W4.heap[gx]? = some (.cells (nums .u32 ((sha_behind.add x s).take j ++ x.list.drop j)).toArray 108 (0, 0))) := ⟨by rw [hW4]; exact HX.out⟩
          have HS4 : Aside0 (sha_behind.Blk W4 w.heap.size s) := ⟨⟨by rw [hW4]; exact HS.out.out⟩⟩
          have HRS4 : Aside0 (sha_behind.Blk W4 (w.heap.size + 1) ⟨0, 0, 0, 0, 0, 0, 0, 0⟩) := ⟨⟨by rw [hW4]; exact HRS.out.out⟩⟩
          have HB4 : Aside0 (Below w.heap.size w W4) := ⟨by rw [hW4]; exact below_drew HB.out⟩
          have HW4 := Aside0.mk hW4
          clear hW4
          go_still_tail 8, (by kernel_rfl)
          change wpList _ _ _ _ _ wr.drew
          rw [← HW4.out]
          clear HW4 HX HS HRS HB hx hs
          generalize hL : (sha_behind.add x s).take j ++ x.list.drop j = L at *
          have hcl : W4.cell? ⟨gx, j, none⟩ = some (.int .u32 L[j]!) := by
            rw [blk_cell HX4.out, sha_rounds.arr_get _ _ _ (by rw [HNL.out]; exact hj8)]; congr 2; rw [List.getElem!_eq_getElem?_getD, List.getElem?_eq_getElem]; rfl
          have hfz : W4.frozen? ⟨gx, j, none⟩ = false := blk_frozen HX4.out _
          go_wp2
          go_roundg q
          case measure => omega
          case rel =>
            refine ⟨j + 1, by go_num, by omega, ⟨?_⟩, ⟨⟨blk_far HS4.out.out (by have := HHG.out; simp; omega) _⟩⟩, ⟨⟨blk_far HRS4.out.out (by have := HHG.out; simp; omega) _⟩⟩, ⟨HB4.out.setCell (by have := HHG.out; simp; omega) _⟩⟩
            have hs := blk_set HX4.out j (.int .u32 ((xv + sv) % 4294967296))
            rw [sha_rounds.arr_set, ← HV.out] at hs
            exact hs
    | succ q =>
      have hj : (j : Int) < 64 := by omega
      have hjb : decide ((j : Int) < 64) = true := decide_eq_true hj
      have hkd : kk.drop j = rd kk (j : Int) :: kk.drop (j + 1) := sha_rounds.drop_at kk j (by have := HKL.out; omega)
      have hwd : ws.drop j = rd ws (j : Int) :: ws.drop (j + 1) := sha_rounds.drop_at ws j (by have := HWL.out; omega)
      have hm := HM.out
      rw [hkd, hwd] at hm
      clear hkd hwd
      simp only [sha_behind.rnds] at hm
      have hck := sha_spread.cell (m := 0) (l := kk) ⟨by simpa using HK.out.out⟩ (j : Int) (by omega) (by have := HKL.out; omega)
      have hcw := sha_spread.cell (m := 0) (l := ws) ⟨by simpa using HW.out.out⟩ (j : Int) (by omega) (by have := HWL.out; omega)
      generalize rd kk (j : Int) = kj at *
      generalize rd ws (j : Int) = wj at *
      rw [Int.toNat_natCast] at hck hcw
      obtain ⟨y, hy, hm2⟩ := Option.bind_eq_some_iff.mp hm
      have HM2 := Aside0.mk hm2
      clear hm hm2 HM
      unfold sha_behind.rnd at hy
      obtain ⟨r6, h6, hy1⟩ := Option.bind_eq_some_iff.mp hy
      obtain ⟨r11, h11, hy2⟩ := Option.bind_eq_some_iff.mp hy1
      obtain ⟨r25, h25, hy3⟩ := Option.bind_eq_some_iff.mp hy2
      obtain ⟨r2, h2, hy4⟩ := Option.bind_eq_some_iff.mp hy3
      obtain ⟨r13, h13, hy5⟩ := Option.bind_eq_some_iff.mp hy4
      obtain ⟨r22, h22, hy6⟩ := Option.bind_eq_some_iff.mp hy5
      have HY := Aside0.mk (Option.some.inj hy6)
      have H6 := Aside0.mk h6
      have H11 := Aside0.mk h11
      have H25 := Aside0.mk h25
      have H2 := Aside0.mk h2
      have H13 := Aside0.mk h13
      have H22 := Aside0.mk h22
      clear hy hy1 hy2 hy3 hy4 hy5 hy6 h6 h11 h25 h2 h13 h22
      obtain ⟨xa, xb, xc, xd, xe, xf, xg, xh⟩ := x
      have hx0 : wr.cell? ⟨gx, 0, none⟩ = some (.int .u32 xa) := blk_cell HX.out.out 0
      have hx1 : wr.cell? ⟨gx, 1, none⟩ = some (.int .u32 xb) := blk_cell HX.out.out 1
      have hx2 : wr.cell? ⟨gx, 2, none⟩ = some (.int .u32 xc) := blk_cell HX.out.out 2
      have hx3 : wr.cell? ⟨gx, 3, none⟩ = some (.int .u32 xd) := blk_cell HX.out.out 3
      have hx4 : wr.cell? ⟨gx, 4, none⟩ = some (.int .u32 xe) := blk_cell HX.out.out 4
      have hx5 : wr.cell? ⟨gx, 5, none⟩ = some (.int .u32 xf) := blk_cell HX.out.out 5
      have hx6 : wr.cell? ⟨gx, 6, none⟩ = some (.int .u32 xg) := blk_cell HX.out.out 6
      have hx7 : wr.cell? ⟨gx, 7, none⟩ = some (.int .u32 xh) := blk_cell HX.out.out 7
      go_wp2
      refine wp_region_still_lit (by kernel_rfl) (by kernel_rfl) ?_
      repeat still_step
      still_call (sha_rot.still xe 6 r6 _ H6.out)
      repeat still_step
      still_call (sha_rot.still xe 11 r11 _ H11.out)
      repeat still_step
      still_call (sha_rot.still xe 25 r25 _ H25.out)
      repeat still_step
      refine wpStill_nil ?_
      change Exit.then _ _ _ _ wr.drew
      generalize hT : IntKind.u32.wrap (IntKind.u32.wrap (IntKind.u32.wrap (IntKind.u32.wrap (xh + bits .xor .u32 (bits .xor .u32 r6 r11) r25) + bits .xor .u32 (bits .and .u32 xe xf) (bits .and .u32 (bits .xor .u32 (if IntKind.u32.signed = true then -1 else IntKind.u32.max) xe) xg)) + kj) + wj) = T
      have HT := Aside0.mk hT
      clear hT
      obtain ⟨W4, hW4⟩ : ∃ W4, W4 = wr.drew := ⟨_, rfl⟩
      rw [← hW4]
      have HX4 : Aside0 (sha_behind.Blk W4 gx ⟨xa, xb, xc, xd, xe, xf, xg, xh⟩) := ⟨⟨by rw [hW4]; exact HX.out.out⟩⟩
      have HW4 : Aside0 (sha_rounds.Blk W4 gw ws) := ⟨⟨by rw [hW4]; exact HW.out.out⟩⟩
      have HS4 : Aside0 (sha_behind.Blk W4 w.heap.size s) := ⟨⟨by rw [hW4]; exact HS.out.out⟩⟩
      have HRS4 : Aside0 (sha_behind.Blk W4 (w.heap.size + 1) ⟨0, 0, 0, 0, 0, 0, 0, 0⟩) := ⟨⟨by rw [hW4]; exact HRS.out.out⟩⟩
      have HK4 : Aside0 (sha_rounds.Blk W4 bk kk) := ⟨⟨by rw [hW4]; exact HK.out.out⟩⟩
      have HB4 : Aside0 (Below w.heap.size w W4) := ⟨by rw [hW4]; exact below_drew HB.out⟩
      clear hW4 HX HW HS HRS HK HB hx0 hx1 hx2 hx3 hx4 hx5 hx6 hx7 hck hcw
      have hx0 : W4.cell? ⟨gx, 0, none⟩ = some (.int .u32 xa) := blk_cell HX4.out.out 0
      have hx1 : W4.cell? ⟨gx, 1, none⟩ = some (.int .u32 xb) := blk_cell HX4.out.out 1
      have hx2 : W4.cell? ⟨gx, 2, none⟩ = some (.int .u32 xc) := blk_cell HX4.out.out 2
      go_wp2
      refine wp_region_still_lit (by kernel_rfl) (by kernel_rfl) ?_
      repeat still_step
      still_call (sha_rot.still xa 2 r2 _ H2.out)
      repeat still_step
      still_call (sha_rot.still xa 13 r13 _ H13.out)
      repeat still_step
      still_call (sha_rot.still xa 22 r22 _ H22.out)
      repeat still_step
      refine wpStill_nil ?_
      change Exit.then _ _ _ _ W4.drew
      generalize hU : IntKind.u32.wrap (bits .xor .u32 (bits .xor .u32 r2 r13) r22 + bits .xor .u32 (bits .xor .u32 (bits .and .u32 xa xb) (bits .and .u32 xa xc)) (bits .and .u32 xb xc)) = U
      have HY2 : Aside0 (y = ⟨(T + U) % 4294967296, xa, xb, xc, (xd + T) % 4294967296, xe, xf, xg⟩) := ⟨by rw [← HY.out, ← hU, ← HT.out]; rfl⟩
      clear hU HT HY
      obtain ⟨W5, hW5⟩ : ∃ W5, W5 = W4.drew := ⟨_, rfl⟩
      rw [← hW5]
      have HX5 : Aside0 (sha_behind.Blk W5 gx ⟨xa, xb, xc, xd, xe, xf, xg, xh⟩) := ⟨⟨by rw [hW5]; exact HX4.out.out⟩⟩
      have HW5 : Aside0 (sha_rounds.Blk W5 gw ws) := ⟨⟨by rw [hW5]; exact HW4.out.out⟩⟩
      have HS5 : Aside0 (sha_behind.Blk W5 w.heap.size s) := ⟨⟨by rw [hW5]; exact HS4.out.out⟩⟩
      have HRS5 : Aside0 (sha_behind.Blk W5 (w.heap.size + 1) ⟨0, 0, 0, 0, 0, 0, 0, 0⟩) := ⟨⟨by rw [hW5]; exact HRS4.out.out⟩⟩
      have HK5 : Aside0 (sha_rounds.Blk W5 bk kk) := ⟨⟨by rw [hW5]; exact HK4.out.out⟩⟩
      have HB5 : Aside0 (Below w.heap.size w W5) := ⟨by rw [hW5]; exact below_drew HB4.out⟩
      clear hW5 HX4 HW4 HS4 HRS4 HK4 HB4 hx0 hx1 hx2
      have hx1 : W5.cell? ⟨gx, 1, none⟩ = some (.int .u32 xb) := blk_cell HX5.out.out 1
      have hx2 : W5.cell? ⟨gx, 2, none⟩ = some (.int .u32 xc) := blk_cell HX5.out.out 2
      have hx3 : W5.cell? ⟨gx, 3, none⟩ = some (.int .u32 xd) := blk_cell HX5.out.out 3
      have hx5 : W5.cell? ⟨gx, 5, none⟩ = some (.int .u32 xf) := blk_cell HX5.out.out 5
      have hx6 : W5.cell? ⟨gx, 6, none⟩ = some (.int .u32 xg) := blk_cell HX5.out.out 6
      go_wp2_with ((refine sha_behind.put_row (w0 := w) rfl 108 (.tmp 8) (.tmp 98) rfl gx y.cells rfl (by rw [HY2.out]; rfl) 108 _ HX5.out.out (sha_behind.size y) rfl (sha_rounds.ones .u32 y.list) HB5.out (by have := HG.out; omega) ?_); intro w6 hg6 ho6 hz6 hb6; clear hx1 hx2 hx3 hx5 hx6; (have HX6 : Aside0 (sha_behind.Blk w6 gx y) := ⟨⟨hg6⟩⟩); (have HW6 : Aside0 (sha_rounds.Blk w6 gw ws) := ⟨⟨(ho6 _ (by have := HG.out; omega)).trans HW5.out.out⟩⟩); (have HS6 : Aside0 (sha_behind.Blk w6 w.heap.size s) := ⟨⟨(ho6 _ (by have := HG.out; omega)).trans HS5.out.out⟩⟩); (have HRS6 : Aside0 (sha_behind.Blk w6 (w.heap.size + 1) ⟨0, 0, 0, 0, 0, 0, 0, 0⟩) := ⟨⟨(ho6 _ (by have := HG.out; omega)).trans HRS5.out.out⟩⟩); (have HK6 : Aside0 (sha_rounds.Blk w6 bk kk) := ⟨⟨(ho6 _ (by have := HG.out; omega)).trans HK5.out.out⟩⟩); (have HB6 : Aside0 (Below w.heap.size w w6) := ⟨hb6⟩); clear hg6 ho6 hz6 hb6 HX5 HW5 HS5 HRS5 HK5 HB5)
      go_roundg q
      case measure => omega
      case rel => exact ⟨j + 1, y, by go_num, by omega, HM2, HX6, HW6, HS6, HRS6, HK6, HB6⟩

/-! ### sha_Tail: function 75 -/
mutual
def sha_Tail.l0 : Nat → Int → List Int → Int → Option (List Int)
  | 0, _, _, _ => none
  | k + 1, x0, x3, x4 => if x4 = 0 then (sha_Tail.l1 k x3 (IntKind.u64.wrap ((IntKind.u64.wrap (x0)) * 8)) 56) else (if x3.length < 140737488355328 then (sha_Tail.l0 k x0 (x3 ++ [0]) (Int.tmod (wrap64 (x4 + 1)) 64)) else (none))
def sha_Tail.l1 : Nat → List Int → Int → Int → Option (List Int)
  | 0, _, _, _ => none
  | k + 1, x3, x5, x6 => if x6 ≥ 0 then (if 0 ≤ x6 then (if x3.length < 140737488355328 then (sha_Tail.l1 k (x3 ++ [(shr .u64 x5 x6) % 256]) x5 (wrap64 (x6 - 8))) else (none)) else (none)) else (some x3)
end
def sha_Tail.f (k : Nat) (a0 : Int) : Option (List Int) := if a0 < 0 then (some ([] : List Int)) else (sha_Tail.l0 k a0 ([128] : List Int) (Int.tmod (wrap64 ((Int.tmod a0 64) + 9)) 64))
set_option maxHeartbeats 8000000 in
set_option maxRecDepth 100000 in
theorem sha_Tail.calls (k : Nat) (a0 : Int) (r : List Int) (w : World) (h : sha_Tail.f k a0 = some r) :
    Calls Try.prog 75 #[.int .i64 a0] w fun e w' => ∃ v0_ : Value, e = .returned (v0_) ∧ Kd.R (Kd.int .u8) 5 w' w.heap.size (fun _ => True) v0_ r ∧ Below w.heap.size w w' := by
  have HB := Aside0.mk (Below.refl w.heap.size w)
  have H : (if a0 < 0 then (some ([] : List Int)) else (sha_Tail.l0 k a0 ([128] : List Int) (Int.tmod (wrap64 ((Int.tmod a0 64) + 9)) 64))) = some r := h
  clear h
  by_cases c2 : a0 < 0
  · rw [if_pos c2] at H
    have c2b0 : decide (a0 < 0) = true := decide_eq_true c2
    clear c2
    obtain rfl := Option.some.inj H
    go_enter Try.func75, Try.ntmps75
    go_wp2
    go_ret
    exact ⟨_, by (rfl), by (exact Kd.R_nil _ _ _ _ _), HB.out⟩
  rw [if_neg c2] at H
  have c2b0 : decide (a0 < 0) = false := decide_eq_false c2
  clear c2
  obtain ⟨y101, hy101⟩ : ∃ y_ : List Int, y_ = ([128] : List Int) := ⟨_, rfl⟩
  replace H : (sha_Tail.l0 k a0 y101 (Int.tmod (wrap64 ((Int.tmod a0 64) + 9)) 64)) = some r := by (rw [hy101]; with_reducible exact H)
  have Ny101 := Aside0.mk hy101
  clear hy101
  have H' := Aside0.mk H
  clear H
  go_enter Try.func75, Try.ntmps75
  go_wp2_with ((((with_reducible refine gate_dst (N := 9) rfl ?_); refine Kd.R_lit (Kd.int .u8) _ 5 ?hg (N := 9) ?hd (xs := ([128] : List Int)) (inner := [.int .u8 128]) (ok := fun _ => True) (okp := fun _ => True) ?hr ?hp (fun _ hk => hk) trivial (Below.refl _ _) (Nat.le_refl _) (by simp) ?_; (case hd => rfl); (case hg => rfl); (case hr => (go_simp; done)); (case hp => exact (Reps.one (show Kd.M (Kd.int .u8) _ _ _ 128 [.int .u8 128] from rfl) (Reps.none _ _))); intro v102 w3 ho4 hb hg_ hnew_; clear hg_ hnew_; (rw [← Ny101.out] at ho4); have n0_ := Aside0.mk (Kd.R_lower ho4 (below_size HB.out)); have n1_ := Aside0.mk (below_step HB.out hb); clear HB; have HO103 := n0_; have HB := n1_; clear n0_ n1_; clear hb ho4)))
  go_loopg [3, 4] k (fun kq v3 v4 w' => ∃ (x3_1 : List Int) (x4_1 : Int), v4 = .int .i64 x4_1 ∧ Aside0 (sha_Tail.l0 kq a0 x3_1 x4_1 = some r) ∧ Aside0 (kq ≤ k) ∧ Aside0 (Kd.R (Kd.int .u8) 5 w' w.heap.size (fun _ => True) v3 x3_1) ∧ Aside0 (Below w.heap.size w w'))
  case atStart => exact ⟨(y101), (Int.tmod (wrap64 ((Int.tmod a0 64) + 9)) 64), (by (rfl)), H', ⟨Nat.le_refl _⟩, ⟨by exact HO103.out⟩, ⟨HB.out⟩⟩
  clear H'
  try clear c2b0
  obtain ⟨x3_1, x4_1, rfl, HA, HK1, HO_3, HB⟩ := hrel
  rcases gk with _ | k1
  · exact absurd HA.out (by simp [sha_Tail.l0])
  have H := HA.out
  clear HA
  simp only [sha_Tail.l0] at H
  by_cases c5 : x4_1 = 0
  rotate_left
  · rw [if_neg c5] at H
    have c5b0 : (x4_1 == 0) = false := beq_eq_false_iff_ne.mpr c5
    have c5b1 : (x4_1 != 0) = true := bne_iff_ne.mpr c5
    by_cases c11 : x3_1.length < 140737488355328
    rotate_left
    · rw [if_neg c11] at H
      exact absurd H (by simp)

    rw [if_pos c11] at H
    have LMc11 := Aside0.mk c11
    clear c11
    obtain ⟨y104, hy104⟩ : ∃ y_ : List Int, y_ = (x3_1 ++ [0]) := ⟨_, rfl⟩
    replace H : (sha_Tail.l0 k1 a0 y104 (Int.tmod (wrap64 (x4_1 + 1)) 64)) = some r := by (rw [hy104]; with_reducible exact H)
    have Ny104 := Aside0.mk hy104
    clear hy104
    have H' := Aside0.mk H
    clear H
    go_wp2_with ((((with_reducible refine gate_builtin (b := .append) (xs := #[.tmp 19, .tmp 20]) rfl ?_); at_builtin; refine Kd.R_append (Kd.int .u8) (w0 := w) w.heap.size rfl (.tmp 19) (.tmp 20) 22 5 (.int .u8 0) 1 rfl Try.underlying22 info5 rfl (by decide) (by omega) u3 x3_1 0 [.int .u8 0] (fun _ => True) (fun _ => False) rfl rfl ?aP (fun _ hk => hk.elim) ?aF ?aO ?aB ?aS ?aL ?_; (case aP => exact rfl); (case aB => exact HB.out); (case aF => exact (fun _ _ => trivial)); (case aO => exact (by exact HO_3.out)); (case aS => exact (below_size HB.out)); (case aL => have := LMc11.out; omega); intro v105 w12 ho hb hg hat; rw [← Ny104.out] at ho; have n0_ := Aside0.mk (hb); have n1_ := Aside0.mk (ho); clear HB; clear HO_3; have HB := n0_; have HO106 := n1_; clear n0_ n1_; clear ho hb hg hat)))
    go_roundg k1
    case measure => have := HK1.out; omega
    case rel => exact ⟨(y104), (Int.tmod (wrap64 (x4_1 + 1)) 64), (by (rfl)), H', ⟨by have := HK1.out; omega⟩, ⟨by exact HO106.out⟩, ⟨HB.out⟩⟩
  rw [if_pos c5] at H
  have c5b0 : (x4_1 == 0) = true := beq_iff_eq.mpr c5
  have c5b1 : (x4_1 != 0) = false := bne_eq_false_iff_eq.mpr c5
  clear c5
  have H' := Aside0.mk H
  clear H
  go_wp2
  go_loopg [3, 6] k1 (fun kq v3 v6 w' => ∃ (x3_2 : List Int) (x6_2 : Int), v6 = .int .i64 x6_2 ∧ Aside0 (sha_Tail.l1 kq x3_2 (IntKind.u64.wrap ((IntKind.u64.wrap (a0)) * 8)) x6_2 = some r) ∧ Aside0 (kq ≤ k1) ∧ Aside0 (Kd.R (Kd.int .u8) 5 w' w.heap.size (fun _ => True) v3 x3_2) ∧ Aside0 (Below w.heap.size w w'))
  case atStart => exact ⟨(x3_1), (56), (by (rfl)), H', ⟨Nat.le_refl _⟩, ⟨by exact HO_3.out⟩, ⟨HB.out⟩⟩
  clear H'
  try clear c5b0
  try clear c5b1
  obtain ⟨x3_2, x6_2, rfl, HA, HK2, HO_3, HB⟩ := hrel
  rcases gk with _ | k2
  · exact absurd HA.out (by simp [sha_Tail.l1])
  have H := HA.out
  clear HA
  simp only [sha_Tail.l1] at H
  by_cases c6 : x6_2 ≥ 0
  rotate_left
  · rw [if_neg c6] at H
    have c6b0 : decide (0 ≤ x6_2) = false := decide_eq_false c6
    clear c6
    obtain rfl := Option.some.inj H
    go_wp2
    go_ret
    exact ⟨_, by (rfl), by exact HO_3.out, HB.out⟩
  rw [if_pos c6] at H
  have c6b0 : decide (0 ≤ x6_2) = true := decide_eq_true c6
  clear c6
  by_cases c7 : 0 ≤ x6_2
  rotate_left
  · rw [if_neg c7] at H
    exact absurd H (by simp)
  rw [if_pos c7] at H
  have c7b0 := eq_true c7
  have c7b1 : decide (0 ≤ x6_2) = true := decide_eq_true c7
  clear c7
  obtain ⟨ji8, hji8⟩ : ∃ j_ : Int, (shr .u64 (IntKind.u64.wrap ((IntKind.u64.wrap (a0)) * 8)) x6_2) = j_ := ⟨_, rfl⟩
  replace H : (if x3_2.length < 140737488355328 then (sha_Tail.l1 k2 (x3_2 ++ [(ji8) % 256]) (IntKind.u64.wrap ((IntKind.u64.wrap (a0)) * 8)) (wrap64 (x6_2 - 8))) else (none)) = some r := by (rw [hji8] at H; exact H)
  have hji8_ : ((IntKind.u64.wrap ((IntKind.u64.wrap (a0)) * 8)) / 2 ^ min x6_2.toNat 64) = ji8 := hji8
  have hji8z : x6_2 ≤ 64 → ((IntKind.u64.wrap ((IntKind.u64.wrap (a0)) * 8)) / 2 ^ x6_2.toNat) = ji8 := shr_small hji8
  by_cases c9 : x3_2.length < 140737488355328
  rotate_left
  · rw [if_neg c9] at H
    exact absurd H (by simp)
  rw [if_pos c9] at H
  have LMc9 := Aside0.mk c9
  clear c9
  obtain ⟨y107, hy107⟩ : ∃ y_ : List Int, y_ = (x3_2 ++ [(ji8) % 256]) := ⟨_, rfl⟩
  replace H : (sha_Tail.l1 k2 y107 (IntKind.u64.wrap ((IntKind.u64.wrap (a0)) * 8)) (wrap64 (x6_2 - 8))) = some r := by (rw [hy107]; with_reducible exact H)
  have Ny107 := Aside0.mk hy107
  clear hy107
  have H' := Aside0.mk H
  clear H
  go_wp2_with ((((with_reducible refine gate_builtin (b := .append) (xs := #[.tmp 29, .tmp 34]) rfl ?_); at_builtin; refine Kd.R_append (Kd.int .u8) (w0 := w) w.heap.size rfl (.tmp 29) (.tmp 34) 22 5 (.int .u8 0) 1 rfl Try.underlying22 info5 rfl (by decide) (by omega) u3 x3_2 ((ji8) % 256) [.int .u8 ((ji8) % 256)] (fun _ => True) (fun _ => False) rfl rfl ?aP (fun _ hk => hk.elim) ?aF ?aO ?aB ?aS ?aL ?_; (case aP => exact rfl); (case aB => exact HB.out); (case aF => exact (fun _ _ => trivial)); (case aO => exact (by exact HO_3.out)); (case aS => exact (below_size HB.out)); (case aL => have := LMc9.out; omega); intro v108 w10 ho hb hg hat; rw [← Ny107.out] at ho; have n0_ := Aside0.mk (hb); have n1_ := Aside0.mk (ho); clear HB; clear HO_3; have HB := n0_; have HO109 := n1_; clear n0_ n1_; clear ho hb hg hat)))
  go_roundg k2
  case measure => have := HK1.out; have := HK2.out; omega
  case rel => exact ⟨(y107), (wrap64 (x6_2 - 8)), (by (rfl)), H', ⟨by have := HK1.out; have := HK2.out; omega⟩, ⟨by exact HO109.out⟩, ⟨HB.out⟩⟩
end Go.Proofs.Ytogjnipojakfjaa.PJd
