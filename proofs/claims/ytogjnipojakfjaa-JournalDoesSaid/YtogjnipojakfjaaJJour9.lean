/- The journal: what its functions do to it. -/
import Derived.Test.YtogjnipojakfjaaJJour5
import Derived.Test.YtogjnipojakfjaaPJdx3
import Derived.Test.YtogjnipojakfjaaPJdx9
import Derived.Test.YtogjnipojakfjaaPJdx10
import Derived.Test.YtogjnipojakfjaaPJdx11
/- The journal: what its functions do to it. -/
namespace Go.Proofs.Ytogjnipojakfjaa.JJour
open Go.RowKit Go.Proofs.Ytogjnipojakfjaa.PJd Go.Proofs.YtogjnipojakfjaaW.PrintWords Go.Proofs.YtogjnipojakfjaaW.PrintLast Go.Proofs.YtogjnipojakfjaaW.PrintMore
open LSame (Byt)
open LChain (msgS tagS zeroT)
open DDev (Dev dev_below dev_kept dev_drewN dev_mono T8 TD heldN)
set_option linter.unusedVariables false
set_option linter.unusedSimpArgs false
/-- what is on a device, from a place on: the entries that are right, the last tag, where that ends -/
noncomputable def opn (key log : List Int) : Nat → Int → List Int → List Ent → List Ent × List Int × Int
  | 0, a, t, L => (L, t, a)
  | N + 1, a, t, L =>
    open Classical in
    if a < (log.length : Int) then
      (match entry_Read.f log a with
      | none => (L, t, a)
      | some R => if R.2.2.2.2 = 0 ∧ tagS key (msgS t ((L.length : Int) + 1) R.1 R.2.1).1 = R.2.2.1 then opn key log N R.2.2.2.1 R.2.2.1 (L ++ [⟨R.1, R.2.1⟩]) else (L, t, a))
    else (L, t, a)
/-- bounds on the way -/
structure Way (log : List Int) (a : Int) (t : List Int) (L : List Ent) : Prop where
  a0 : 0 ≤ a
  a1 : a ≤ log.length
  tl : t.length = 32
  tb : Byt t
  nb : 36 * (L.length : Int) ≤ a
  le : ∀ e ∈ L, Byt e.f1 ∧ e.f1.length ≤ 1024
theorem way_step (log : List Int) (hB : Byt log) (hl : log.length ≤ 65536) (a : Int) (t : List Int) (L : List Ent) (h : Way log a t L) (R : LEnt.Rec) (hR : entry_Read.f log a = some R) (h0 : R.2.2.2.2 = 0) :
    Way log R.2.2.2.1 R.2.2.1 (L ++ [⟨R.1, R.2.1⟩]) ∧ a < R.2.2.2.1 ∧ LChain.FrOk (⟨R.1, R.2.1⟩, R.2.2.1) := by
  obtain ⟨hf, _, g1, g2⟩ := LChain.read_fine log hB (by omega) a R hR h0
  refine ⟨⟨by have := h.a0; omega, g2, hf.t, hf.tb, ?_, ?_⟩, by omega, hf⟩
  · have := h.nb
    simp only [List.length_append, List.length_cons, List.length_nil]
    omega
  · intro x hx
    rcases List.mem_append.1 hx with hx | hx
    · exact h.le x hx
    · rw [List.mem_singleton.1 hx]; exact ⟨hf.bb, hf.b⟩
theorem opn_way (key log : List Int) (hB : Byt log) (hl : log.length ≤ 65536) : ∀ (N : Nat) (a : Int) (t : List Int) (L : List Ent), Way log a t L → Way log (opn key log N a t L).2.2 (opn key log N a t L).2.1 (opn key log N a t L).1
  | 0, a, t, L, h => h
  | N + 1, a, t, L, h => by
    rw [opn]
    split
    · split
      · exact h
      · rename_i R hR
        split
        · rename_i h0
          exact opn_way key log hB hl N _ _ _ (way_step log hB hl a t L h R hR h0.1).1
        · exact h
    · exact h
/-- a journal that is opened -/
noncomputable def openS (key : List Int) (room sure : Int) (bs : List Int) : St :=
  { room := room, sure := mn sure ((bs.take (heldN (opn key bs (bs.length + 1) 0 zeroT []).2.2 bs.length).toNat).length : Int), bs := bs.take (heldN (opn key bs (bs.length + 1) 0 zeroT []).2.2 bs.length).toNat,
    n := (opn key bs (bs.length + 1) 0 zeroT []).1.length, tag := (opn key bs (bs.length + 1) 0 zeroT []).2.1, key := key, L := (opn key bs (bs.length + 1) 0 zeroT []).1 }
theorem way0 (log : List Int) : Way log 0 zeroT [] := ⟨by omega, by omega, LChain.zeroT_len, LChain.zeroT_byt, by simp, fun e he => absurd he (by simp)⟩
theorem held_way (a : Int) (n : Nat) (h0 : 0 ≤ a) (h1 : a ≤ n) : heldN a n = a := by
  unfold heldN mn mx
  split <;> split <;> omega
theorem openS_good (key : List Int) (room sure : Int) (bs : List Int) (hr0 : 0 ≤ room) (hr1 : room ≤ 65536) (hb : (bs.length : Int) ≤ room) (hs : 0 ≤ sure) (hB : Byt bs) (hk : Byt key) (hkl : key.length ≤ 1000) : Good (openS key room sure bs) := by
  have h := opn_way key bs hB (by omega) (bs.length + 1) 0 zeroT [] (way0 bs)
  unfold openS
  obtain ⟨R, hR⟩ : ∃ R, R = opn key bs (bs.length + 1) 0 zeroT [] := ⟨_, rfl⟩
  rw [← hR] at h ⊢
  have ha := held_way R.2.2 bs.length h.a0 h.a1
  have h2 := h.a0
  have h3 := h.a1
  have h4 := h.nb
  have hlen : ((bs.take R.2.2.toNat).length : Int) = R.2.2 := by rw [List.length_take]; omega
  rw [ha]
  refine ⟨hr0, hr1, by simp only; omega, ?_, ?_, fun x hx => hB x (List.mem_of_mem_take hx), h.tl, h.tb, hkl, hk, rfl, by simp only; omega, h.le⟩
  · simp only; unfold mn; split <;> omega
  · simp only; unfold mn; split <;> omega
theorem open_end (w0 W wr wX wc : World) (gd gj : Nat) (OD O : Nat → Prop) (room sure : Int) (bs key t : List Int) (L : List Ent) (n : Nat) (a : Int) (vb vc : Value)
    (hst : ∀ (W3 : World), Below wr.heap.size wr W3 → ∀ (W' : World) (vb' : Value) (bs' : List Int) (sure' : Int) (OD : Nat → Prop), Dev W' w0.heap.size gd OD room sure' bs' vb' → Kept W3 W' (fun k => k = gd ∨ some k = vb.ownBlock) → (∀ k, vb'.ownBlock = some k → some k = vb.ownBlock ∨ W3.heap.size ≤ k) → ∃ O', Jn W' w0.heap.size gj gd O' { room := room, sure := sure', bs := bs', n := n, tag := t, key := key, L := L } ∧ ∀ q, q < W3.heap.size → O' q → O q)
    (hX : Below wr.heap.size wr wX) (hd : Dev wc w0.heap.size gd (fun k => some k = vb.ownBlock) room (mn sure ((bs.take (heldN a bs.length).toNat).length : Int)) (bs.take (heldN a bs.length).toNat) vc) (hv : vc.ownBlock = vb.ownBlock) (hk : Kept wX wc (fun k => k = gd)) (hb : Below w0.heap.size w0 wc)
    (hn : n = L.length) (hR : opn key bs (bs.length + 1) 0 zeroT [] = (L, t, a)) (hK : Kept W wr (fun k => k = gd ∨ OD k)) (hO : ∀ q, q < W.heap.size → O q → q = gd ∨ OD q) (x : Ending) (hx : x = .returned (.pointer (some ⟨gj, 0, none⟩))) :
    ∃ gj O', x = .returned (.pointer (some ⟨gj, 0, none⟩)) ∧ Jn wc w0.heap.size gj gd O' (openS key room sure bs) ∧ Kept W wc (fun k => k = gd ∨ OD k) ∧ (∀ q, q < W.heap.size → O' q → q = gd ∨ OD q) ∧ Below w0.heap.size w0 wc := by
  obtain ⟨O2, hj, ho⟩ := hst wX hX wc vc _ _ _ hd (hk.mono (fun _ h => .inl h)) (fun k h => .inl (by rw [← hv]; exact h.symm))
  have h1 := hK.1
  have h2 := hX.size
  refine ⟨gj, O2, hx, ?_, Kept.then_ (Kept.below hK hX) hk (fun k hk => .inl (.inl hk)), fun q hq h => hO q hq (ho q (by omega) h), hb⟩
  have e : openS key room sure bs = { room := room, sure := mn sure ((bs.take (heldN a bs.length).toNat).length : Int), bs := bs.take (heldN a bs.length).toNat, n := n, tag := t, key := key, L := L } := by
    unfold openS
    rw [hR, hn]
  rw [e]
  exact hj
/-- a journal that was made -/
theorem jn_new {W W3 w1 w2 : World} {B gd gj : Nat} {OD : Nat → Prop} {room sure : Int} {bs key : List Int} {v : Value} {A1 A2 : Option Addr} {c1 c2 : Nat} (hd : Dev W B gd OD room sure bs v) (hB : B ≤ W.heap.size) (hb1 : Below W.heap.size W w1) (hb2 : Below w1.heap.size w1 w2) (hgj : gj = w2.heap.size) (hb3 : Below w2.heap.size w2 W3)
    (hg : W3.heap[gj]? = some (.cells #[.int .i64 ((0 : Nat) : Int), .slice A1 zeroT.length c1, .slice A2 key.length c2, .pointer (some ⟨gd, 0, none⟩), .slice none 0 0] TJ (0, 0)))
    (h1 : Kd.R (Kd.int .u8) T8 w1 W.heap.size (fun _ => True) (.slice A1 zeroT.length c1) zeroT) (h2 : Kd.R (Kd.int .u8) T8 w2 w1.heap.size (fun _ => True) (.slice A2 key.length c2) key) :
    ∃ O, Jn W3 B gj gd O { room := room, sure := sure, bs := bs, n := 0, tag := zeroT, key := key, L := [] } ∧ ∀ q, q < w2.heap.size → O q → q = gd ∨ OD q := by
  have s1 := hb1.size
  have s2 := hb2.size
  have hgd := DDev.dev_lt hd
  have hov : ∀ q, some q = v.ownBlock → q < W.heap.size := fun q h => own_lt hd.2.2.2.2.choose_spec.1 q h.symm
  have hW3 : Below W.heap.size W W3 := hb1.trans ((hb2.trans (hb3.mono s2)).mono s1)
  have hn : ∀ q, ¬ some q = (Value.slice none 0 0).ownBlock := fun q h => by simp [Value.ownBlock] at h
  refine ⟨fun q => q = gj ∨ q = gd ∨ some q = v.ownBlock ∨ some q = (Value.slice none 0 0).ownBlock, ⟨v, .slice none 0 0, A1, c1, A2, c2, hg, dev_tight (dev_below hd hW3), by omega, Kd.N_nil _ _ _ _ _, ⟨(Kd.R_reads' h1).2.1, ?_⟩, ⟨(Kd.R_reads' h2).2.1, ?_⟩, fun q => Iff.rfl⟩, ?_⟩
  · refine Kd.F_mono (Kd.F_below (Kd.F_below (Kd.R_F (Kd.R_bound h1)) hb2) hb3) (fun q hq h => ?_)
    have hq1 := hq.2.1
    have hq2 := hq.2.2.1
    rcases h with h | h | h | h
    · omega
    · omega
    · have := hov q h; omega
    · exact hn q h
  · refine Kd.F_mono (Kd.F_below (Kd.R_F (Kd.R_bound h2)) hb3) (fun q hq h => ?_)
    have hq1 := hq.2.1
    have hq2 := hq.2.2.1
    rcases h with h | h | h | h
    · omega
    · omega
    · have := hov q h; omega
    · exact hn q h
  · intro q hq h
    rcases h with h | h | h | h
    · omega
    · exact .inl h
    · exact .inr (hd.2.2.2.1 q h.symm)
    · exact absurd h (hn q)
set_option maxHeartbeats 16000000 in
set_option maxRecDepth 100000 in
theorem Open.calls (w0 : World) (gd : Nat) (OD : Nat → Prop) (room sure : Int) (bs : List Int) (v : Value) (key : List Int) (Ak : Option Addr) (ck : Nat) (W : World) (hd : Dev W w0.heap.size gd OD room sure bs v) (HB : Below w0.heap.size w0 W) (hck : key.length ≤ ck) (hK : Kd.C (Kd.int .u8) W Ak key.length key)
    (hl : bs.length ≤ 65536) (hB : Byt bs) (hk : Byt key) (hkl : key.length ≤ 1000) :
    Calls Try.prog 10 #[.slice Ak key.length ck, .pointer (some ⟨gd, 0, none⟩)] W fun x w' => ∃ gj O', x = .returned (.pointer (some ⟨gj, 0, none⟩)) ∧ Jn w' w0.heap.size gj gd O' (openS key room sure bs) ∧ Kept W w' (fun k => k = gd ∨ OD k) ∧ (∀ q, q < W.heap.size → O' q → q = gd ∨ OD q) ∧ Below w0.heap.size w0 w' := by
  have hcl : slices_Clone_byte_byte.f key = some key := by unfold slices_Clone_byte_byte.f; rw [if_pos (by omega)]
  have HD := Aside0.mk hd
  have HB0 := Aside0.mk HB
  have HK := Aside0.mk (And.intro hck hK)
  have HCL := Aside0.mk hcl
  have HL := Aside0.mk hl
  have HBY := Aside0.mk hB
  have HKB := Aside0.mk (And.intro hk hkl)
  clear hd HB hck hK hcl hl hB hk hkl
  go_enter Try.func10, Try.ntmps10
  go_upto_region 2 with (first | (go_at_call 32; (with_reducible refine (chain_First.calls zeroT _ LChain.first_ok).mono ?_); rintro x w1 ⟨v1, rfl, ho1, hb1⟩; (obtain ⟨A1, c1, rfl⟩ := Kd.R_slice ho1); (have HO1 : Aside0 (Kd.R (Kd.int .u8) T8 w1 W.heap.size (fun _ => True) (.slice A1 zeroT.length c1) zeroT) := ⟨ho1⟩); (have HB1 : Aside0 (Below W.heap.size W w1) := ⟨below_step (by with_reducible repeat (first | exact Below.refl _ _ | apply below_alloc | apply below_drew)) hb1⟩); clear ho1 hb1) | (go_at_call 33; (with_reducible refine (slices_Clone_byte_byte.calls Ak ck key key _ (Kd.C_below (Kd.C_below HK.out.2 HB1.out) (by with_reducible repeat (first | exact Below.refl _ _ | apply below_alloc | apply below_drew))) HK.out.1 HCL.out).mono ?_); rintro x w2 ⟨v2, rfl, ho2, hb2⟩; (obtain ⟨A2, c2, rfl⟩ := Kd.R_slice ho2); (have HO2 : Aside0 (Kd.R (Kd.int .u8) T8 w2 w1.heap.size (fun _ => True) (.slice A2 key.length c2) key) := ⟨ho2⟩); (have HB2 : Aside0 (Below w1.heap.size w1 w2) := ⟨below_step (by with_reducible repeat (first | exact Below.refl _ _ | apply below_alloc | apply below_drew)) hb2⟩); clear ho2 hb2))
  obtain ⟨W3, hW3⟩ : ∃ W3 : World, W3 = w2.alloc (.cells #[.int .i64 0, .slice A1 zeroT.length c1, .slice A2 key.length c2, .pointer (some ⟨gd, 0, none⟩), .slice none 0 0] TJ) := ⟨_, rfl⟩
  obtain ⟨gj, hgj⟩ : ∃ gj, gj = w2.heap.size := ⟨_, rfl⟩
  have hb3 : Below w2.heap.size w2 W3 := by rw [hW3]; exact below_alloc (Below.refl _ _) _
  have hblk : W3.heap[gj]? = some (.cells #[.int .i64 0, .slice A1 zeroT.length c1, .slice A2 key.length c2, .pointer (some ⟨gd, 0, none⟩), .slice none 0 0] TJ (0, 0)) := by rw [hW3, hgj]; exact blk_new _ _
  rw [← hW3, ← hgj]
  obtain ⟨O3, hj3, ho3⟩ := jn_new HD.out HB0.out.size HB1.out HB2.out hgj hb3 hblk HO1.out HO2.out
  have HJ3 := Aside0.mk hj3
  have HO3 := Aside0.mk ho3
  have HW3 : Aside0 (Below W.heap.size W W3) := ⟨HB1.out.trans ((HB2.out.trans (hb3.mono HB2.out.size)).mono HB1.out.size)⟩
  have HSZ : Aside0 (W.heap.size ≤ w2.heap.size) := ⟨Nat.le_trans HB1.out.size HB2.out.size⟩
  clear hW3 hgj hb3 hblk hj3 ho3 HB1 HB2 HO1 HO2
  go_wp2_with (go_at_call 34; (with_reducible refine (DDev.Bytes.calls gd w0.heap.size OD room sure bs v _ (dev_below HD.out (below_step HW3.out (by with_reducible repeat (first | exact Below.refl _ _ | apply below_alloc | apply below_drew)))) HL.out).mono ?_); rintro x w4 ⟨v4, rfl, ho4, hb4⟩; (obtain ⟨A4, c4, rfl⟩ := Kd.R_slice ho4); (have HF4 : Aside0 (Kd.F (Kd.int .u8) w4 (fun q => W3.heap.size ≤ q) A4 bs.length bs) := ⟨Kd.F_mono (Kd.R_F (Kd.R_bound ho4)) (fun q hq => hq.2.1)⟩); (have HC4 : Aside0 (bs.length ≤ c4) := ⟨(Kd.R_reads' ho4).2.1⟩); (have HB4 : Aside0 (Below W3.heap.size W3 w4) := ⟨below_step (by with_reducible repeat (first | exact Below.refl _ _ | apply below_alloc | apply below_drew)) hb4⟩); clear ho4 hb4)
  go_loopg [7] (bs.length + 1) (fun q v7 w' => ∃ (a : Int) (n : Nat) (t : List Int) (L : List Ent) (O' : Nat → Prop), v7 = .int .i64 a ∧ Aside0 (Jn w' w0.heap.size gj gd O' { room := room, sure := sure, bs := bs, n := n, tag := t, key := key, L := L }) ∧ Aside0 (n = L.length) ∧ Aside0 (Way bs a t L) ∧ Aside0 (opn key bs q a t L = opn key bs (bs.length + 1) 0 zeroT []) ∧ Aside0 ((bs.length : Int) - a < q) ∧ Aside0 (Kd.F (Kd.int .u8) w' (fun q => ¬ O' q) A4 bs.length bs) ∧ Aside0 (Kept W w' (fun k => k = gd ∨ OD k)) ∧ Aside0 (∀ q, q < W.heap.size → O' q → q = gd ∨ OD q) ∧ Aside0 (Below w0.heap.size w0 w'))
  case atStart =>
    have hjo := jn_own HJ3.out
    exact ⟨0, 0, zeroT, [], O3, rfl, ⟨jn_below HJ3.out HB4.out⟩, ⟨rfl⟩, ⟨way0 bs⟩, ⟨rfl⟩, ⟨by omega⟩, ⟨Kd.F_mono HF4.out (fun q hq h => by have := (hjo q h).2; omega)⟩, ⟨Kept.of_below (HW3.out.trans (HB4.out.mono HW3.out.size)) _⟩, ⟨fun q hq h => HO3.out q (by have := HSZ.out; omega) h⟩, ⟨HB0.out.trans ((HW3.out.trans (HB4.out.mono HW3.out.size)).mono HB0.out.size)⟩⟩
  case round =>
    clear HJ3 HO3 HW3 HSZ HF4 HB4 W3
    obtain ⟨a, n, t, L, O', rfl, HJ, HNL, HWY, HRE, HMS, HFB, HKW, HOW, HBW⟩ := hrel
    cases gk with
    | zero => exact absurd HMS.out (by have := HWY.out.a1; omega)
    | succ q =>
      have hre := HRE.out
      rw [opn] at hre
      obtain ⟨vb, hdv, hss, hst⟩ := jn_dev HJ.out
      have HDV := Aside0.mk hdv
      have HSS := Aside0.mk hss
      have HST := Aside0.mk hst
      clear hdv hss hst
      by_cases hlt : a < (bs.length : Int)
      case neg =>
        rw [if_neg hlt] at hre
        have hd : decide (a < (bs.length : Int)) = false := decide_eq_false hlt
        have HR := Aside0.mk hre
        clear hre hlt
        go_wp2_with (go_at_call 39; (with_reducible refine (DDev.Cut.calls gd (fun k => some k = vb.ownBlock) room sure bs vb a w0 _ (dev_below HDV.out (by with_reducible repeat (first | exact Below.refl _ _ | apply below_alloc | apply below_drew))) (below_step (HBW.out.trans (Below.mono (by with_reducible repeat (first | exact Below.refl _ _ | apply below_alloc | apply below_drew)) HBW.out.size)) (by with_reducible repeat (first | exact Below.refl _ _ | apply below_alloc | apply below_drew | apply pw_below_drewN))) HL.out).mono ?_); rintro x wc ⟨rfl, vc, hdc, hoc, hkc, hbc⟩; (have HDC := Aside0.mk hdc); (have HOC := Aside0.mk hoc); (have HKC := Aside0.mk hkc); (have HBC := Aside0.mk hbc); clear hdc hoc hkc hbc)
        go_ret
        exact open_end w0 W wr wr wc gd gj OD O' room sure bs key t L n a vb vc HST.out (Below.refl _ _) HDC.out HOC.out HKC.out HBC.out HNL.out HR.out.symm HKW.out HOW.out _ rfl
      case pos =>
        rw [if_pos hlt] at hre
        have hd : decide (a < (bs.length : Int)) = true := decide_eq_true hlt
        obtain ⟨⟨r1, r2, r3, r4, r5⟩, hR, _, _⟩ := LEnt.read_both bs HBY.out (by have := HL.out; omega) a
        rw [hR] at hre
        simp only at hre
        have HRD := Aside0.mk hR
        have HRR := Aside0.mk hre
        clear hR hre
        go_upto_region 6 with (go_at_call 35; (with_reducible refine (entry_Read.calls A4 c4 bs a r1 r2 r3 r4 r5 _ (Kd.C_below (Kd.F_now HFB.out) (by with_reducible repeat (first | exact Below.refl _ _ | apply below_alloc | apply below_drew))) HC4.out HRD.out).mono ?_); rintro x w5 ⟨v5, v6, rfl, ho5, ho6, hb5⟩; (obtain ⟨A5, c5, rfl⟩ := Kd.R_slice ho5); (obtain ⟨A6, c6, rfl⟩ := Kd.R_slice ho6); (have HB5 : Aside0 (Below wr.heap.size wr w5) := ⟨below_step (by with_reducible repeat (first | exact Below.refl _ _ | apply below_alloc | apply below_drew)) hb5⟩); (have HF5 : Aside0 (Kd.F (Kd.int .u8) w5 (fun q => wr.heap.size ≤ q) A5 r2.length r2) := ⟨Kd.F_mono (Kd.R_F (Kd.R_bound ho5)) (fun q hq => hq.2.1)⟩); (have HF6 : Aside0 (Kd.F (Kd.int .u8) w5 (fun q => wr.heap.size ≤ q) A6 r3.length r3) := ⟨Kd.F_mono (Kd.R_F (Kd.R_bound ho6)) (fun q hq => hq.2.1)⟩); (have HC5 : Aside0 (r2.length ≤ c5) := ⟨(Kd.R_reads' ho5).2.1⟩); (have HC6 : Aside0 (r3.length ≤ c6) := ⟨(Kd.R_reads' ho6).2.1⟩); clear ho5 ho6 hb5)
        obtain ⟨W5, hW5⟩ : ∃ W5 : World, W5 = w5.alloc (.cells #[.int .i64 r1, .slice A5 r2.length c5] TE) := ⟨_, rfl⟩
        obtain ⟨g8, hg8⟩ : ∃ g8, g8 = w5.heap.size := ⟨_, rfl⟩
        have hx : Below wr.heap.size wr W5 := by rw [hW5]; exact below_alloc HB5.out _
        have h55 : Below w5.heap.size w5 W5 := by rw [hW5]; exact below_alloc (Below.refl _ _) _
        have hbk : W5.heap[g8]? = some (.cells #[.int .i64 r1, .slice A5 r2.length c5] TE (0, 0)) := by rw [hW5, hg8]; exact blk_new _ _
        replace HF5 := Aside0.mk (Kd.F_below HF5.out h55)
        replace HF6 := Aside0.mk (Kd.F_below HF6.out h55)
        have HX := Aside0.mk hx
        rw [← hW5, ← hg8]
        clear hW5 hg8 hx h55 HB5
        by_cases h5 : r5 = 0
        case neg =>
          have hrr := HRR.out
          rw [if_neg (fun h => h5 h.1)] at hrr
          have HR := Aside0.mk hrr
          have e5 : (r5 != 0) = true := bne_iff_ne.mpr h5
          clear hrr h5 hbk
          go_wp2_with (go_at_call 39; (with_reducible refine (DDev.Cut.calls gd (fun k => some k = vb.ownBlock) room sure bs vb a w0 _ (dev_below HDV.out (below_step HX.out (by with_reducible repeat (first | exact Below.refl _ _ | apply below_alloc | apply below_drew | apply pw_below_drewN)))) (below_step (HBW.out.trans (Below.mono (below_step HX.out (by with_reducible repeat (first | exact Below.refl _ _ | apply below_alloc | apply below_drew | apply pw_below_drewN))) HBW.out.size)) (by with_reducible repeat (first | exact Below.refl _ _ | apply below_alloc | apply below_drew | apply pw_below_drewN))) HL.out).mono ?_); rintro x wc ⟨rfl, vc, hdc, hoc, hkc, hbc⟩; (have HDC := Aside0.mk hdc); (have HOC := Aside0.mk hoc); (have HKC := Aside0.mk hkc); (have HBC := Aside0.mk hbc); clear hdc hoc hkc hbc)
          go_ret
          exact open_end w0 W wr W5 wc gd gj OD O' room sure bs key t L n a vb vc HST.out HX.out HDC.out HOC.out HKC.out HBC.out HNL.out HR.out.symm HKW.out HOW.out _ rfl
        case pos =>
          subst h5
          obtain ⟨e, rfl, rfl⟩ : ∃ e : Ent, r1 = e.f0 ∧ r2 = e.f1 := ⟨⟨r1, r2⟩, rfl, rfl⟩
          obtain ⟨hway, hgo, hfo⟩ := way_step bs HBY.out HL.out a t L HWY.out _ HRD.out rfl
          obtain ⟨m, hm⟩ : ∃ m, m = msgS t ((n : Int) + 1) e.f0 e.f1 := ⟨_, rfl⟩
          obtain ⟨mb, ml, m0⟩ := LChain.msgS_byt t ((n : Int) + 1) _ hfo HWY.out.tb HWY.out.tl
          simp only at mb ml m0
          rw [← hm] at mb ml m0
          obtain ⟨t2, ht2⟩ : ∃ t2, t2 = tagS key m.1 := ⟨_, rfl⟩
          obtain ⟨tl, tb, tu1, tu2⟩ := LChain.tagS_spec key m.1 HKB.out.1 HKB.out.2 mb (by omega)
          rw [← ht2] at tl tb
          have hs := LSame.hsame_ev t2 r3 (by omega) tb hfo.tb
          obtain ⟨vl, At, ct, Aj, cj, g1, g2, g3, g4, g5, g6⟩ := jn_blk HJ.out
          have HNN : Aside0 (n < 1000000) := ⟨by have := HNL.out; have := HWY.out.nb; have := HWY.out.a1; have := HL.out; omega⟩
          have HNL2 : Aside0 (L.length < 1000000) := ⟨by have := HNL.out; have := HNN.out; omega⟩
          have HEL : Aside0 (e.f1.length ≤ 100000) := ⟨Nat.le_trans hfo.b (by decide)⟩
          have x0 : W5.cell? ⟨g8, 0, none⟩ = some (.int .i64 e.f0) := (blk_cell hbk 0).trans rfl
          have x1 : W5.cell? ⟨g8, 1, none⟩ = some (.slice A5 e.f1.length c5) := (blk_cell hbk 1).trans rfl
          have hoj := jn_own HJ.out
          have HF6O : Aside0 (Kd.F (Kd.int .u8) W5 (fun q => ¬ O' q) A6 r3.length r3) := ⟨Kd.F_mono HF6.out (fun q hq h => by have := (hoj q h).2; omega)⟩
          have HBG := Aside0.mk g1
          have HTG := Aside0.mk (And.intro g2 g3)
          have HKG := Aside0.mk (And.intro g4 g5)
          have HWY2 := Aside0.mk hway
          have HGO := Aside0.mk hgo
          have HFO := Aside0.mk hfo
          have HM := Aside0.mk hm
          have HM0 := Aside0.mk m0
          have HT2 := Aside0.mk ht2
          clear hway hgo hfo hm mb ml m0 ht2 tl tb tu1 tu2 g1 g2 g3 g4 g5 g6 hoj hbk
          have hcond : ((0 : Int) = 0 ∧ tagS key (msgS t ((L.length : Int) + 1) e.f0 e.f1).1 = r3) ↔ t2 = r3 := by
            rw [HT2.out, HM.out, HNL.out]
            exact ⟨fun h => h.2, fun h => ⟨rfl, h⟩⟩
          have hrr := HRR.out
          by_cases hts : t2 = r3
          case neg =>
            rw [if_neg (fun h => hts (hcond.1 h))] at hrr
            have HR := Aside0.mk hrr
            rw [decide_eq_false hts] at hs
            obtain ⟨ks, hks⟩ := Ev.rounds hs
            have HSE := Aside0.mk hks
            clear hrr hcond hts hs hks
            go_wp2_with (first | (go_at_call 36; (with_reducible refine (next.yes gj gd n HNN.out t key At Aj ct cj vl e A5 c5 m HM.out HM0.out t2 HT2.out _ (blk_below (blk_below HBG.out HX.out) (by with_reducible repeat (first | exact Below.refl _ _ | apply below_alloc | apply below_drew))) HTG.out.1 (Kd.C_below (Kd.C_below HTG.out.2 HX.out) (by with_reducible repeat (first | exact Below.refl _ _ | apply below_alloc | apply below_drew))) HKG.out.1 (Kd.C_below (Kd.C_below HKG.out.2 HX.out) (by with_reducible repeat (first | exact Below.refl _ _ | apply below_alloc | apply below_drew))) HC5.out (Kd.C_below (Kd.F_now HF5.out) (by with_reducible repeat (first | exact Below.refl _ _ | apply below_alloc | apply below_drew))) HKB.out.1 HKB.out.2 HWY.out.tb HFO.out.bb).mono ?_); rintro x w7 ⟨A7, c7, rfl, hc7, hF7, hb7⟩; (have HB7 : Aside0 (Below W5.heap.size W5 w7) := ⟨below_step (by with_reducible repeat (first | exact Below.refl _ _ | apply below_alloc | apply below_drew)) hb7⟩); (have HC7 := Aside0.mk (And.intro hc7 (Kd.F_now hF7))); (have y0 := pw_cell_below HB7.out x0); (have y1 := pw_cell_below HB7.out x1); clear hc7 hF7 hb7) | (go_at_call 37; (with_reducible refine (hmac_Same.calls ks A7 c7 t2 A6 c6 r3 false _ (Kd.C_below HC7.out.2 (by with_reducible repeat (first | exact Below.refl _ _ | apply below_alloc | apply below_drew))) HC7.out.1 (Kd.C_below (Kd.C_below (Kd.F_now HF6.out) HB7.out) (by with_reducible repeat (first | exact Below.refl _ _ | apply below_alloc | apply below_drew))) HC6.out HSE.out).mono ?_); rintro x w8 ⟨rfl, ⟨nd, rfl⟩⟩) | (go_at_call 39; (with_reducible refine (DDev.Cut.calls gd (fun k => some k = vb.ownBlock) room sure bs vb a w0 _ (dev_below HDV.out (below_step (HX.out.trans (Below.mono HB7.out HX.out.size)) (by with_reducible repeat (first | exact Below.refl _ _ | apply below_alloc | apply below_drew | apply pw_below_drewN)))) (below_step (HBW.out.trans (Below.mono (below_step (HX.out.trans (Below.mono HB7.out HX.out.size)) (by with_reducible repeat (first | exact Below.refl _ _ | apply below_alloc | apply below_drew | apply pw_below_drewN))) HBW.out.size)) (by with_reducible repeat (first | exact Below.refl _ _ | apply below_alloc | apply below_drew | apply pw_below_drewN))) HL.out).mono ?_); rintro x wc ⟨rfl, vc, hdc, hoc, hkc, hbc⟩; (have HDC := Aside0.mk hdc); (have HOC := Aside0.mk hoc); (have HKC := Aside0.mk hkc); (have HBC := Aside0.mk hbc); clear hdc hoc hkc hbc))
            go_ret
            exact open_end w0 W wr w7 wc gd gj OD O' room sure bs key t L n a vb vc HST.out (HX.out.trans (Below.mono HB7.out HX.out.size)) HDC.out HOC.out HKC.out HBC.out HNL.out HR.out.symm HKW.out HOW.out _ rfl
          case pos =>
            rw [if_pos (hcond.2 hts)] at hrr
            have HR := Aside0.mk hrr
            rw [decide_eq_true hts] at hs
            obtain ⟨ks, hks⟩ := Ev.rounds hs
            have HSE := Aside0.mk hks
            clear hrr hcond hts hs hks
            go_wp2_with (first | (go_at_call 36; (with_reducible refine (next.yes gj gd n HNN.out t key At Aj ct cj vl e A5 c5 m HM.out HM0.out t2 HT2.out _ (blk_below (blk_below HBG.out HX.out) (by with_reducible repeat (first | exact Below.refl _ _ | apply below_alloc | apply below_drew))) HTG.out.1 (Kd.C_below (Kd.C_below HTG.out.2 HX.out) (by with_reducible repeat (first | exact Below.refl _ _ | apply below_alloc | apply below_drew))) HKG.out.1 (Kd.C_below (Kd.C_below HKG.out.2 HX.out) (by with_reducible repeat (first | exact Below.refl _ _ | apply below_alloc | apply below_drew))) HC5.out (Kd.C_below (Kd.F_now HF5.out) (by with_reducible repeat (first | exact Below.refl _ _ | apply below_alloc | apply below_drew))) HKB.out.1 HKB.out.2 HWY.out.tb HFO.out.bb).mono ?_); rintro x w7 ⟨A7, c7, rfl, hc7, hF7, hb7⟩; (have HB7 : Aside0 (Below W5.heap.size W5 w7) := ⟨below_step (by with_reducible repeat (first | exact Below.refl _ _ | apply below_alloc | apply below_drew)) hb7⟩); (have HC7 := Aside0.mk (And.intro hc7 (Kd.F_now hF7))); (have y0 := pw_cell_below HB7.out x0); (have y1 := pw_cell_below HB7.out x1); clear hc7 hF7 hb7) | (go_at_call 37; (with_reducible refine (hmac_Same.calls ks A7 c7 t2 A6 c6 r3 true _ (Kd.C_below HC7.out.2 (by with_reducible repeat (first | exact Below.refl _ _ | apply below_alloc | apply below_drew))) HC7.out.1 (Kd.C_below (Kd.C_below (Kd.F_now HF6.out) HB7.out) (by with_reducible repeat (first | exact Below.refl _ _ | apply below_alloc | apply below_drew))) HC6.out HSE.out).mono ?_); rintro x w8 ⟨rfl, ⟨nd, rfl⟩⟩) | (go_at_call 38; (with_reducible refine (take.calls w0.heap.size gj gd O' { room := room, sure := sure, bs := bs, n := n, tag := t, key := key, L := L } HNN.out HNL2.out e HEL.out A5 c5 r3 A6 c6 _ (jn_below (jn_below (jn_below HJ.out HX.out) HB7.out) (by with_reducible repeat (first | exact Below.refl _ _ | apply below_alloc | apply below_drew | apply pw_below_drewN))) (Nat.le_trans (Nat.le_trans HBW.out.size HX.out.size) (size0 (n := w7.heap.size) w7 _ (by with_reducible repeat (first | exact Below.refl _ _ | apply below_alloc | apply below_drew | apply pw_below_drewN)) |> Nat.le_trans HB7.out.size)) HC5.out (Kd.C_below (Kd.C_below (Kd.F_now HF5.out) HB7.out) (by with_reducible repeat (first | exact Below.refl _ _ | apply below_alloc | apply below_drew | apply pw_below_drewN))) HC6.out (Kd.F_below (Kd.F_below HF6O.out HB7.out) (by with_reducible repeat (first | exact Below.refl _ _ | apply below_alloc | apply below_drew | apply pw_below_drewN)))).mono ?_); rintro x w9 ⟨rfl, O9, hj9, hk9, ho9, hb9⟩; (have HJ9 := Aside0.mk hj9); (have HK9 : Aside0 (Kept w7 w9 O') := ⟨hk9⟩); (have HO9 : Aside0 (∀ q, q < w7.heap.size → O9 q → O' q) := ⟨ho9⟩); (have HB9 : Aside0 (Below w0.heap.size w7 w9) := ⟨(pw_below_drewN (Below.refl w0.heap.size w7) nd).trans hb9⟩); clear hj9 hk9 ho9 hb9))
            go_roundg q
            case measure => omega
            case rel =>
              have h7 : Below wr.heap.size wr w7 := HX.out.trans (Below.mono HB7.out HX.out.size)
              have hk7 : Kept W w7 (fun k => k = gd ∨ OD k) := Kept.below HKW.out h7
              refine ⟨r4, n + 1, r3, L ++ [e], O9, rfl, HJ9, ⟨by have := HNL.out; simp [this]⟩, HWY2, HR, ⟨by have := HMS.out; have := HGO.out; omega⟩, ⟨Kd.F_mono (Kd.F_kept (Kd.F_bound (Kd.F_below HFB.out h7)) HK9.out (fun q hq => hq.1)) (fun q hq h => hq.1 (HO9.out q hq.2 h))⟩, ⟨Kept.then_ hk7 HK9.out (fun k hk => ?_)⟩, ⟨fun q hq h => HOW.out q hq (HO9.out q (Nat.lt_of_lt_of_le hq hk7.1) h)⟩, ⟨(HBW.out.trans (h7.mono HBW.out.size)).trans HB9.out⟩⟩
              by_cases hkk : k < W.heap.size
              · exact .inl (HOW.out k hkk hk)
              · exact .inr (Nat.le_of_not_lt hkk)
end Go.Proofs.Ytogjnipojakfjaa.JJour

/- The journal: what its functions do to it. -/
namespace Go.Proofs.Ytogjnipojakfjaa.JJour
open Go.RowKit Go.Proofs.Ytogjnipojakfjaa.PJd Go.Proofs.YtogjnipojakfjaaW.PrintWords Go.Proofs.YtogjnipojakfjaaW.PrintLast Go.Proofs.YtogjnipojakfjaaW.PrintMore
open LSame (Byt)
open LChain (msgS tagS zeroT)
open DDev (Dev dev_below dev_kept dev_drewN dev_mono T8 TD heldN)
set_option linter.unusedVariables false
set_option linter.unusedSimpArgs false
theorem dev_lower {W : World} {B B' g : Nat} {O : Nat → Prop} {room sure : Int} {bs : List Int} {v : Value} (h : Dev W B g O room sure bs v) (hb : B' ≤ B) : Dev W B' g O room sure bs v :=
  ⟨h.1, Nat.le_trans hb h.2.1, h.2.2.1, Kd.R_lower h.2.2.2 hb⟩
theorem heapI : Kd.Heap (Kd.int .u8) := Kd.heap_int .u8
/-- an entry more, told by its answer -/
theorem Append.ret (w0 : World) (gj gd : Nat) (O : Nat → Prop) (s : St) (hG : Good s) (e : Ent) (heb : Byt e.f1) (r : Int) (s' : St) (hr : appS s e = (r, s')) (Ab : Option Addr) (cb : Nat) (W : World) (h : Jn W w0.heap.size gj gd O s) (HB : Below w0.heap.size w0 W) (hcb : e.f1.length ≤ cb) (hE : Kd.F (Kd.int .u8) W (fun q => ¬ O q) Ab e.f1.length e.f1) :
    Calls Try.prog 15 #[.pointer (some ⟨gj, 0, none⟩), .agg #[.int .i64 e.f0, .slice Ab e.f1.length cb]] W fun x w' => x = .returned (.int .i64 r) ∧ Post w0 W gj gd O s' w' := by
  have h := Append.calls w0 gj gd O s hG e heb Ab cb W h HB hcb hE
  rw [hr] at h
  exact h
theorem Count.ret (B gj gd : Nat) (O : Nat → Prop) (s : St) (n : Int) (hn : (s.n : Int) = n) (W : World) (h : Jn W B gj gd O s) :
    Calls Try.prog 14 #[.pointer (some ⟨gj, 0, none⟩)] W fun x w' => x = .returned (.int .i64 n) ∧ W = w' := by
  subst hn
  exact Count.calls B gj gd O s W h
theorem same_ret (A : Option Addr) (c : Nat) (l : List Int) (A1 : Option Addr) (c1 : Nat) (l1 : List Int) (w : World) (h0 : Kd.C (Kd.int .u8) w A l.length l) (h1 : l.length ≤ c) (h2 : Kd.C (Kd.int .u8) w A1 l1.length l1) (h3 : l1.length ≤ c1) (hl : l.length ≤ 100000) (b : Bool) (hb : b = decide (l = l1)) :
    Calls Try.prog 16 #[.slice A l.length c, .slice A1 l1.length c1] w fun e w' => e = .returned (.bool b) ∧ Below w.heap.size w w' := by
  subst hb
  obtain ⟨k, hk⟩ := Ev.rounds (LSame.same_ev l l1 (by omega))
  exact (notaryref01_Same.calls k A c l A1 c1 l1 _ w h0 h1 h2 h3 hk).mono (fun e w' ⟨a, n, hb⟩ => ⟨a, by rw [hb]; exact pw_below_drewN (Below.refl _ _) n⟩)
theorem first_ret (w : World) : Calls Try.prog 26 #[] w fun e w' => ∃ A2 c2, e = .returned (.slice A2 zeroT.length c2) ∧ zeroT.length ≤ c2 ∧ Kd.C (Kd.int .u8) w' A2 zeroT.length zeroT ∧ Below w.heap.size w w' :=
  (notaryref47_First.calls zeroT w LChain.rfirst_ok).mono (fun e w' ⟨v, a, b, d⟩ => by
    obtain ⟨A2, c2, rfl, hc, hC⟩ := Kd.R_reads b
    exact ⟨A2, c2, a, hc, hC, d⟩)
theorem open_nil : openS [] 100 0 [] = { room := 100, sure := 0, bs := [], n := 0, tag := zeroT, key := [], L := [] } := by
  unfold openS
  have e : opn [] ([] : List Int) (([] : List Int).length + 1) 0 zeroT [] = ([], zeroT, 0) := by rw [opn, if_neg (by simp)]
  rw [e]
  rfl
theorem awake_app : ∃ s', appS (openS [] 100 0 []) ⟨1, []⟩ = (0, s') ∧ s'.n = 1 ∧ s'.bs.length = 37 := by
  have hG := openS_good [] 100 0 [] (by decide) (by decide) (by simp) (by decide) Byt.nil Byt.nil (by simp)
  obtain ⟨s, hs⟩ : ∃ s, s = openS [] 100 0 [] := ⟨_, rfl⟩
  rw [← hs] at hG ⊢
  rw [open_nil] at hs
  have h0 : (msgS s.tag ((s.n : Int) + 1) (⟨1, []⟩ : Ent).f0 (⟨1, []⟩ : Ent).f1).2 = 0 := by
    rw [LChain.msgS_ok s.tag _ 1 [] hG.tl (by decide) (by decide) (by simp)]
  obtain ⟨mb, ml⟩ := msg_fine s.tag ((s.n : Int) + 1) (⟨1, []⟩ : Ent).f0 (⟨1, []⟩ : Ent).f1 hG.tb Byt.nil h0
  obtain ⟨tl, tb, _, _⟩ := LChain.tagS_spec s.key _ hG.kb hG.kl mb (by omega)
  obtain ⟨_, fl, fb⟩ := frS_fine ⟨1, []⟩ _ Byt.nil tl tb ⟨by decide, by decide, by simp⟩
  unfold appS
  rw [if_pos h0, if_neg (by rw [fl, hs]; simp)]
  exact ⟨_, rfl, by rw [hs], by simp only [List.length_append, fl]; rw [hs]; rfl⟩
set_option maxHeartbeats 8000000 in
set_option maxRecDepth 100000 in
theorem awake.calls (w : World) : Calls Try.prog 9 #[] w fun e w' => e = .returned (.bool true) ∧ Below w.heap.size w w' := by
  obtain ⟨s', hs, hn, hl⟩ := awake_app
  have hG := openS_good [] 100 0 [] (by decide) (by decide) (by simp) (by decide) Byt.nil Byt.nil (by simp)
  have HA := Aside0.mk hs
  have HG := Aside0.mk hG
  have HNN : Aside0 ((s'.n : Int) = 1) := ⟨by rw [hn]; rfl⟩
  have HLL : Aside0 (s'.bs.length ≤ 65536) := ⟨by rw [hl]; decide⟩
  have e1 : ((s'.bs.length : Int) == 37) = true := by rw [hl]; rfl
  have e2 : (s'.bs.length == 37) = true := by rw [hl]; rfl
  have HRM : Aside0 (heldN 100 65536 = 100) := ⟨by decide⟩
  clear hs hG hn hl
  go_enter Try.func9, Try.ntmps9
  go_wp2_with (first | (go_at_call 11; (with_reducible refine (DDev.New.calls 100 _).mono ?_); rintro x w1 ⟨gd, rfl, hg1, hb1, hd1⟩; (rw [HRM.out] at hd1); (have HD1 : Aside0 (Dev w1 w.heap.size gd (fun _ => False) 100 0 [] (.slice none 0 0)) := ⟨hd1⟩); (have HB1 : Aside0 (Below w.heap.size w w1) := ⟨hb1⟩); clear hd1 hb1 hg1) | (go_at_call 10; (refine (Open.calls w gd (fun _ => False) 100 0 [] (.slice none 0 0) [] none 0 _ (dev_below HD1.out (by with_reducible repeat (first | exact Below.refl _ _ | apply below_alloc | apply below_drew))) (below_step HB1.out (by with_reducible repeat (first | exact Below.refl _ _ | apply below_alloc | apply below_drew))) (Nat.le_refl _) (Kd.C_nil _ _) (by decide) Byt.nil Byt.nil (by decide)).mono ?_); rintro x w2 ⟨gj, O2, rfl, hj2, hk2, ho2, hb2⟩; (have HJ2 := Aside0.mk hj2); (have HB2 := Aside0.mk hb2); clear hj2 hk2 ho2 hb2) | (go_at_call 15; (refine (Append.ret w gj gd O2 (openS [] 100 0 []) HG.out ⟨1, []⟩ Byt.nil 0 s' HA.out none 0 _ (jn_below HJ2.out (by with_reducible repeat (first | exact Below.refl _ _ | apply below_alloc | apply below_drew))) (below_step HB2.out (by with_reducible repeat (first | exact Below.refl _ _ | apply below_alloc | apply below_drew))) (Nat.le_refl _) (Kd.F_nil _ _ _)).mono ?_); rintro x w3 ⟨rfl, O3, hj3, hk3, ho3, hb3⟩; (have HJ3 := Aside0.mk hj3); (have HB3 := Aside0.mk hb3); clear hj3 hk3 ho3 hb3) | (go_at_call 14; (with_reducible refine (Count.ret w.heap.size gj gd O3 s' 1 HNN.out _ (jn_below HJ3.out (by with_reducible repeat (first | exact Below.refl _ _ | apply below_alloc | apply below_drew)))).mono ?_); rintro x w4 ⟨rfl, rfl⟩) | (go_at_call 12; (with_reducible refine (Log.calls w gj gd O3 s' HLL.out _ (jn_below HJ3.out (by with_reducible repeat (first | exact Below.refl _ _ | apply below_alloc | apply below_drew)))).mono ?_); rintro x w5 ⟨A5, c5, rfl, hc5, hF5, hb5⟩; (have HB5 := Aside0.mk hb5); clear hc5 hF5 hb5))
  go_ret
  exact ⟨rfl, HB3.out.trans (HB5.out.mono HB3.out.size)⟩
end Go.Proofs.Ytogjnipojakfjaa.JJour

/- The journal: what its functions do to it. -/
namespace Go.Proofs.Ytogjnipojakfjaa.JJour
open Go.RowKit Go.Proofs.Ytogjnipojakfjaa.PJd Go.Proofs.YtogjnipojakfjaaW.PrintWords Go.Proofs.YtogjnipojakfjaaW.PrintLast Go.Proofs.YtogjnipojakfjaaW.PrintMore
open LSame (Byt)
open LChain (msgS tagS zeroT)
open DDev (Dev dev_below dev_kept dev_drewN dev_mono T8 TD heldN)
set_option linter.unusedVariables false
set_option linter.unusedSimpArgs false
set_option maxHeartbeats 8000000 in
set_option maxRecDepth 100000 in
theorem JournalNil (w : World) (e : Ent) (A : Option Addr) (c : Nat) (hc : e.f1.length ≤ c) (hC : Kd.C (Kd.int .u8) w A e.f1.length e.f1) (hw : ∀ b ∈ e.f1, (Lit.int .u8 b).wf = true) :
    Calls Try.prog 5 #[.agg #[.int .i64 e.f0, .slice A e.f1.length c]] w fun x w' => x = .returned (.bool true) ∧ Below w.heap.size w w' := by
  obtain ⟨W1, hW1⟩ : ∃ W1 : World, W1 = w.alloc (.cells #[.int .i64 e.f0, .slice A e.f1.length c] TE) := ⟨_, rfl⟩
  have hb1 : Below w.heap.size w W1 := by rw [hW1]; exact below_alloc (Below.refl _ _) _
  have hx1 : W1.heap[w.heap.size]? = some (.cells #[.int .i64 e.f0, .slice A e.f1.length c] TE (0, 0)) := by rw [hW1]; exact blk_new _ _
  have x0 : W1.cell? ⟨w.heap.size, 0, none⟩ = some (.int .i64 e.f0) := (blk_cell hx1 0).trans rfl
  have x1 : W1.cell? ⟨w.heap.size, 1, none⟩ = some (.slice A e.f1.length c) := (blk_cell hx1 1).trans rfl
  have HB1 := Aside0.mk hb1
  clear hb1 hx1 hc hC hw
  go_enter Try.func5, Try.ntmps5
  go_upto_region 1 with (fail)
  try simp only [← hW1]
  clear hW1
  go_wp2_with (first | (go_at_call 24; (with_reducible refine (nil_Sync _).mono ?_); rintro x w2 ⟨rfl, rfl⟩) | (go_at_call 15; (with_reducible refine (nil_Append e.f0 A e.f1.length c _).mono ?_); rintro x w3 ⟨rfl, hb3⟩; (have HB3 : Aside0 (Below W1.heap.size W1 w3) := ⟨below_step (by with_reducible repeat (first | exact Below.refl _ _ | apply below_alloc | apply below_drew)) hb3⟩); clear hb3) | (go_at_call 14; (with_reducible refine (nil_Count _).mono ?_); rintro x w4 ⟨rfl, rfl⟩) | (go_at_call 12; (with_reducible refine (nil_Log _).mono ?_); rintro x w5 ⟨rfl, rfl⟩) | (go_at_call 25; (with_reducible refine (nil_Entries _).mono ?_); rintro x w6 ⟨rfl, rfl⟩) | (go_at_call 13; (with_reducible refine (nil_Tag _).mono ?_); rintro x w7 ⟨A7, c7, rfl, hc7, hC7, hb7⟩; (have HC7 := Aside0.mk (And.intro hc7 hC7)); (have HB7 : Aside0 (Below w3.heap.size w3 w7) := ⟨below_step (by with_reducible repeat (first | exact Below.refl _ _ | apply below_alloc | apply below_drew)) hb7⟩); clear hc7 hC7 hb7) | (go_at_call 26; (with_reducible refine (first_ret _).mono ?_); rintro x w8 ⟨A8, c8, rfl, hc8, hC8, hb8⟩; (have HC8 := Aside0.mk (And.intro hc8 hC8)); (have HB8 : Aside0 (Below w7.heap.size w7 w8) := ⟨below_step (by with_reducible repeat (first | exact Below.refl _ _ | apply below_alloc | apply below_drew)) hb8⟩); clear hc8 hC8 hb8) | (go_at_call 16; (with_reducible refine (same_ret A7 c7 zeroT A8 c8 zeroT _ (Kd.C_below (Kd.C_below HC7.out.2 HB8.out) (by with_reducible repeat (first | exact Below.refl _ _ | apply below_alloc | apply below_drew))) HC7.out.1 (Kd.C_below HC8.out.2 (by with_reducible repeat (first | exact Below.refl _ _ | apply below_alloc | apply below_drew))) HC8.out.1 (by rw [LChain.zeroT_len]; decide) true (decide_eq_true rfl).symm).mono ?_); rintro x w9 ⟨rfl, hb9⟩; (have HB9 : Aside0 (Below w8.heap.size w8 w9) := ⟨below_step (by with_reducible repeat (first | exact Below.refl _ _ | apply below_alloc | apply below_drew)) hb9⟩); clear hb9) | (go_at_call 9; (with_reducible refine (awake.calls _).mono ?_); rintro x wa ⟨rfl, hba⟩; (have HBA : Aside0 (Below w9.heap.size w9 wa) := ⟨below_step (by with_reducible repeat (first | exact Below.refl _ _ | apply below_alloc | apply below_drew)) hba⟩); clear hba))
  go_ret
  have s1 := HB1.out.size
  have s3 := HB3.out.size
  have s7 := HB7.out.size
  have s8 := HB8.out.size
  have s9 := HB9.out.size
  exact ⟨rfl, ((((HB1.out.trans (HB3.out.mono s1)).trans (HB7.out.mono (by omega))).trans (HB8.out.mono (by omega))).trans (HB9.out.mono (by omega))).trans (HBA.out.mono (by omega))⟩
theorem offF {w w5 : World} {A : Option Addr} {n : Nat} {x : List Int} {O : Nat → Prop} {B2 : Nat} (h : Kd.F (Kd.int .u8) w (fun q => q < w.heap.size) A n x) (hb : Below w.heap.size w w5) (hO : ∀ q, O q → w.heap.size ≤ q ∧ q < B2) : Kd.F (Kd.int .u8) w5 (fun q => ¬ O q) A n x :=
  Kd.F_mono (Kd.F_below h hb) (fun q hq h => by have := (hO q h).1; omega)
end Go.Proofs.Ytogjnipojakfjaa.JJour

/- The journal: what its functions do to it. -/
namespace Go.Proofs.Ytogjnipojakfjaa.JJour
open Go.RowKit Go.Proofs.Ytogjnipojakfjaa.PJd Go.Proofs.YtogjnipojakfjaaW.PrintWords Go.Proofs.YtogjnipojakfjaaW.PrintLast Go.Proofs.YtogjnipojakfjaaW.PrintMore
open LSame (Byt)
open LChain (msgS tagS zeroT)
open DDev (Dev dev_below dev_kept dev_drewN dev_mono T8 TD heldN)
set_option linter.unusedVariables false
set_option linter.unusedSimpArgs false
theorem ent_far {W1 w2 : World} {a : Nat} {A : Option Addr} {c : Nat} {x : List Int} {v : Value} (hs : W1.heap.size = a + 1) (h : Kd.R (Kd.int .u8) T8 w2 W1.heap.size (fun _ => True) (.slice A x.length c) x) : Kd.F (Kd.int .u8) (w2.setCell ⟨a, 1, none⟩ v) (fun q => a < q) A x.length x :=
  Kd.F_far (p := ⟨a, 1, none⟩) (Kd.F_mono (Kd.R_F (Kd.R_bound h)) (fun q hq => show a < q by have h1 : W1.heap.size ≤ q := hq.2.1; omega)) (fun k hk => Nat.ne_of_gt hk) _
theorem take_snoc (L : List Ent) (i : Nat) (h : i < L.length) : L.take i ++ [rd_T35 L (i : Int)] = L.take (i + 1) := by
  rw [List.take_add_one]
  unfold rd_T35
  rw [Int.toNat_natCast, List.getD_eq_getElem?_getD, List.getElem?_eq_getElem h]
  rfl
set_option maxHeartbeats 8000000 in
set_option maxRecDepth 100000 in
theorem Entries.calls (B gj gd : Nat) (O : Nat → Prop) (s : St) (hL : s.L.length < 1000000) (hb : ∀ e ∈ s.L, e.f1.length ≤ 100000) (W : World) (h : Jn W B gj gd O s) :
    Calls Try.prog 25 #[.pointer (some ⟨gj, 0, none⟩)] W fun x w' => ∃ A c, x = .returned (.slice A s.L.length c) ∧ s.L.length ≤ c ∧ Kd.C kE w' A s.L.length s.L ∧ Below W.heap.size W w' := by
  obtain ⟨vl, At, ct, Ak, ck, h1, h5, h6, h7, h8, A, c, rfl, hc, hC⟩ := jn_blk h
  have z4 : W.cell? ⟨gj, 4, none⟩ = some (.slice A s.L.length c) := (blk_cell h1 4).trans rfl
  have HC := Aside0.mk (And.intro hc hC)
  have HL := Aside0.mk hL
  have HBB := Aside0.mk hb
  clear h h1 h5 h6 h7 h8 hc hC hL hb
  go_enter Try.func25, Try.ntmps25
  go_wp2
  go_loopg [3, 13] s.L.length (fun q v3 v13 w' => ∃ (i : Nat) (T : List Ent), v13 = .int .i64 (i : Int) ∧ i + q = s.L.length ∧ Aside0 (T = s.L.take i) ∧ Aside0 (Kd.N kE TE w' W.heap.size (fun q => W.heap.size ≤ q) v3 T) ∧ Aside0 (Below W.heap.size W w'))
  case atStart => exact ⟨0, [], rfl, by omega, ⟨rfl⟩, ⟨Kd.N_nil _ _ _ _ _⟩, ⟨Below.refl _ _⟩⟩
  case round =>
    clear z4
    obtain ⟨i, T, rfl, hiq, HTT, HN, HB⟩ := hrel
    obtain ⟨A3, c3, e3, hc3, hC3⟩ := Kd.N_reads HN.out
    cases gk with
    | zero =>
      have d1 : decide ((i : Int) < (s.L.length : Int)) = false := decide_eq_false (by omega)
      have d2 : decide (i < s.L.length) = false := decide_eq_false (by omega)
      have ht : T = s.L := HTT.out.trans (List.take_of_length_le (by omega))
      rw [ht] at e3 hc3 hC3
      subst e3
      have HR := Aside0.mk (And.intro hc3 hC3)
      clear hc3 hC3 ht hiq
      go_wp2
      go_ret
      exact ⟨A3, c3, rfl, HR.out.1, HR.out.2, HB.out⟩
    | succ q =>
      clear hc3 hC3
      have d1 : decide ((i : Int) < (s.L.length : Int)) = true := decide_eq_true (by omega)
      have d2 : decide (i < s.L.length) = true := decide_eq_true (by omega)
      have p0 : 0 ≤ (i : Int) := by omega
      have p1 : (i : Int) < (s.L.length : Int) := by omega
      have hw1 : IntKind.i64.wrap ((i : Int) + 1) = ((i + 1 : Nat) : Int) := by rw [IntWalk.i64_in _ (by have := HL.out; omega)]; omega
      obtain ⟨ad, Ax, cx, ea, m0, m1, hlx, hcx⟩ := at_T35 (Kd.C_below HC.out.2 HB.out) (i : Int) p0 p1
      obtain ⟨e, he⟩ : ∃ e, e = rd_T35 s.L (i : Int) := ⟨_, rfl⟩
      have hsn := take_snoc s.L i (by omega)
      rw [← HTT.out] at hsn
      have heb : e.f1.length ≤ 100000 := by
        rw [he]
        unfold rd_T35
        rw [Int.toNat_natCast, List.getD_eq_getElem?_getD, List.getElem?_eq_getElem (show i < s.L.length by omega)]
        exact HBB.out _ (List.getElem_mem _)
      rw [← he] at m0 m1 hlx hcx hsn
      have HSN := Aside0.mk hsn
      have hcl : slices_Clone_byte_byte.f e.f1 = some e.f1 := by unfold slices_Clone_byte_byte.f; rw [if_pos (by omega)]
      have HCL := Aside0.mk hcl
      subst ea
      subst e3
      have HX := Aside0.mk (And.intro hlx hcx)
      have HIQ := Aside0.mk hiq
      obtain ⟨W1, hW1⟩ : ∃ W1 : World, W1 = wr.alloc (.cells #[.int .i64 e.f0, .slice Ax e.f1.length cx] TE) := ⟨_, rfl⟩
      have hb1 : Below wr.heap.size wr W1 := by rw [hW1]; exact below_alloc (Below.refl _ _) _
      have hx1 : W1.heap[wr.heap.size]? = some (.cells #[.int .i64 e.f0, .slice Ax e.f1.length cx] TE (0, 0)) := by rw [hW1]; exact blk_new _ _
      have hs1 : W1.heap.size = wr.heap.size + 1 := by rw [hW1]; simp
      have x1 : W1.cell? ⟨wr.heap.size, 1, none⟩ = some (.slice Ax e.f1.length cx) := (blk_cell hx1 1).trans rfl
      have HX1 := Aside0.mk hx1
      have HB1 := Aside0.mk hb1
      have HS1 := Aside0.mk hs1
      have HW1 := Aside0.mk hW1
      have HLT : Aside0 (T.length ≤ 1000000) := ⟨by rw [HTT.out, List.length_take]; have := HL.out; omega⟩
      rw [Int.toNat_natCast] at m0 m1
      rw [hW1] at x1
      clear he hlx hcx heb hiq hsn hcl hb1 hx1 hs1 hW1
      replace p0 := eq_true p0
      replace p1 := eq_true p1
      go_wp2_with (first | ((with_reducible refine gate_builtin (b := .append) (xs := #[.tmp 21, .tmp 23]) rfl ?_); at_builtin; refine Kd.N_append kE (w0 := w2.setCell ⟨wr.heap.size, 1, none⟩ (.slice A2 e.f1.length c2)) W.heap.size rfl (.tmp 21) (.tmp 23) 23 TE (.agg #[(.int .i64 0), (.slice none 0 0)]) 32 rfl Try.underlying23 info35 rfl (by decide) (by omega) (.slice A3 T.length c3) T e [.int .i64 e.f0, .slice A2 e.f1.length c2] (fun q => W.heap.size ≤ q) (fun q => wr.heap.size < q) rfl (by first | rfl | (go_simp; done) | (go_simp; rfl)) (mk_EF _ _ e HF3.out.1 HF3.out.2) (fun q hq => ⟨Nat.le_trans HB.out.size (Nat.le_of_lt hq), fun he => Nat.lt_irrefl _ (Nat.lt_trans hq (Kd.N_lt HN.out q he.symm))⟩) (fun q hq => Nat.le_trans HSZ.out hq) HN3.out (Below.refl _ _) HSZ.out (by have := HLT.out; omega) ?_; intro v9 w9 hn9 hb9 hg9 hat9; (have HN9 := Aside0.mk hn9); (have HB9 := Aside0.mk hb9); clear hn9 hb9 hg9 hat9) | (go_at_call 33; (with_reducible refine (slices_Clone_byte_byte.calls Ax cx e.f1 e.f1 _ (Kd.C_below HX.out.2 (by with_reducible repeat (first | exact Below.refl _ _ | apply below_alloc | apply below_drew))) HX.out.1 HCL.out).mono ?_); (try simp only [← HW1.out]); rintro e2 w2 ⟨v2, rfl, ho2, hb2⟩; (obtain ⟨A2, c2, rfl⟩ := Kd.R_slice ho2); (have HB2 : Aside0 (Below W1.heap.size W1 w2) := ⟨below_step (by with_reducible repeat (first | exact Below.refl _ _ | apply below_alloc | apply below_drew)) hb2⟩); (have HO2 : Aside0 (Kd.R (Kd.int .u8) T8 w2 W1.heap.size (fun _ => True) (.slice A2 e.f1.length c2) e.f1) := ⟨ho2⟩); (have y1 : w2.cell? ⟨wr.heap.size, 1, none⟩ = some (.slice Ax e.f1.length cx) := (blk_cell (blk_below HX1.out HB2.out) 1).trans rfl); (have y2 : w2.frozen? ⟨wr.heap.size, 1, none⟩ = false := blk_frozen (blk_below HX1.out HB2.out) 1); (have K3 := blk_put (blk_below HX1.out HB2.out) 1 (.slice A2 e.f1.length c2) rfl); (have x3 : (w2.setCell ⟨wr.heap.size, 1, none⟩ (.slice A2 e.f1.length c2)).cell? ⟨wr.heap.size, 0, none⟩ = some (.int .i64 e.f0) := (blk_cell K3 0).trans rfl); (have x4 : (w2.setCell ⟨wr.heap.size, 1, none⟩ (.slice A2 e.f1.length c2)).cell? ⟨wr.heap.size, 1, none⟩ = some (.slice A2 e.f1.length c2) := (blk_cell K3 1).trans rfl); (have HB3 : Aside0 (Below wr.heap.size wr (w2.setCell ⟨wr.heap.size, 1, none⟩ (.slice A2 e.f1.length c2))) := ⟨below_set (HB1.out.trans (HB2.out.mono HB1.out.size)) (Nat.le_refl _)⟩); (have HN3 : Aside0 (Kd.N kE TE (w2.setCell ⟨wr.heap.size, 1, none⟩ (.slice A2 e.f1.length c2)) W.heap.size (fun q => W.heap.size ≤ q) (.slice A3 T.length c3) T) := ⟨Kd.N_below HN.out HB3.out⟩); (have HF3 : Aside0 (e.f1.length ≤ c2 ∧ Kd.F (Kd.int .u8) (w2.setCell ⟨wr.heap.size, 1, none⟩ (.slice A2 e.f1.length c2)) (fun q => wr.heap.size < q) A2 e.f1.length e.f1) := ⟨(Kd.R_reads' HO2.out).2.1, ent_far HS1.out HO2.out⟩); (have HSZ : Aside0 (W.heap.size ≤ (w2.setCell ⟨wr.heap.size, 1, none⟩ (.slice A2 e.f1.length c2)).heap.size) := ⟨Nat.le_trans HB.out.size HB3.out.size⟩); clear ho2 hb2 K3))
      go_roundg q
      case measure => omega
      case rel =>
        refine ⟨i + 1, T ++ [e], rfl, by have := HIQ.out; omega, HSN, ⟨HN9.out⟩, ⟨?_⟩⟩
        · exact HB.out.trans ((HB3.out.mono HB.out.size).trans HB9.out)
end Go.Proofs.Ytogjnipojakfjaa.JJour
