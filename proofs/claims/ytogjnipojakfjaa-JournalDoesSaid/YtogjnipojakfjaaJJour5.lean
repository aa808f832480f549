/- The journal: its state, and what its functions do to it. -/
import Derived.StillTailTactics
import Derived.IntWalk
import Derived.WalkSpells
import Derived.Outline
import Derived.Deep.RegionLawGrows
import Derived.Test.YtogjnipojakfjaaDDev
import Derived.Test.YtogjnipojakfjaaLChain2
import Derived.Test.YtogjnipojakfjaaPJdx3
import Derived.Test.YtogjnipojakfjaaPJdx9
import Derived.Test.YtogjnipojakfjaaPJdx10
import Derived.Test.YtogjnipojakfjaaPJdx11
/- The journal: its state, and what its functions do to it. -/
namespace Go.Proofs.Ytogjnipojakfjaa.JJour
open Go.RowKit Go.Proofs.Ytogjnipojakfjaa.PJd Go.Proofs.YtogjnipojakfjaaW.PrintWords Go.Proofs.YtogjnipojakfjaaW.PrintLast Go.Proofs.YtogjnipojakfjaaW.PrintMore
open LSame (Byt)
open LChain (msgS tagS zeroT)
open DDev (Dev dev_below dev_kept dev_drewN dev_mono T8 TD heldN)
set_option linter.unusedVariables false
set_option linter.unusedSimpArgs false
abbrev Ent := S35
abbrev kE := k35
abbrev TE : Nat := 35
abbrev TJ : Nat := 68
/-- what a journal holds -/
structure St where
  room : Int
  sure : Int
  bs : List Int
  n : Nat
  tag : List Int
  key : List Int
  L : List Ent
/-- a journal's block gj, its device's block gd; O: the blocks that it writes to -/
def Jn (W : World) (B gj gd : Nat) (O : Nat → Prop) (s : St) : Prop :=
  ∃ vb vl At ct Ak ck, W.heap[gj]? = some (.cells #[.int .i64 (s.n : Int), .slice At s.tag.length ct, .slice Ak s.key.length ck, .pointer (some ⟨gd, 0, none⟩), vl] TJ (0, 0)) ∧
    Dev W B gd (fun k => some k = vb.ownBlock) s.room s.sure s.bs vb ∧ B ≤ gj ∧
    Kd.N kE TE W B (fun q => B ≤ q ∧ q ≠ gj ∧ q ≠ gd ∧ some q ≠ vb.ownBlock) vl s.L ∧
    (s.tag.length ≤ ct ∧ Kd.F (Kd.int .u8) W (fun q => ¬ O q) At s.tag.length s.tag) ∧ (s.key.length ≤ ck ∧ Kd.F (Kd.int .u8) W (fun q => ¬ O q) Ak s.key.length s.key) ∧
    ∀ q, O q ↔ q = gj ∨ q = gd ∨ some q = vb.ownBlock ∨ some q = vl.ownBlock
theorem jn_below {W W1 : World} {B gj gd : Nat} {O : Nat → Prop} {s : St} (h : Jn W B gj gd O s) (hb : Below W.heap.size W W1) : Jn W1 B gj gd O s := by
  obtain ⟨vb, vl, At, ct, Ak, ck, h1, h2, h3, h4, ⟨h5, h6⟩, ⟨h7, h8⟩, h9⟩ := h
  exact ⟨vb, vl, At, ct, Ak, ck, blk_below h1 hb, dev_below h2 hb, h3, Kd.N_below h4 hb, ⟨h5, Kd.F_below h6 hb⟩, ⟨h7, Kd.F_below h8 hb⟩, h9⟩
theorem jn_own {W : World} {B gj gd : Nat} {O : Nat → Prop} {s : St} (h : Jn W B gj gd O s) : ∀ q, O q → B ≤ q ∧ q < W.heap.size := by
  obtain ⟨vb, vl, At, ct, Ak, ck, h1, h2, h3, h4, _, _, h9⟩ := h
  intro q hq
  rcases (h9 q).1 hq with rfl | rfl | he | he
  · exact ⟨h3, blk_lt h1⟩
  · exact ⟨h2.2.1, DDev.dev_lt h2⟩
  · exact ⟨own_base h2.2.2.2.2.choose_spec.1 q he.symm, own_lt h2.2.2.2.2.choose_spec.1 q he.symm⟩
  · exact ⟨Kd.N_base h4 q he.symm, Kd.N_lt h4 q he.symm⟩
theorem dev_tight {W : World} {B g : Nat} {O : Nat → Prop} {room sure : Int} {bs : List Int} {v : Value} (h : Dev W B g O room sure bs v) : Dev W B g (fun k => some k = v.ownBlock) room sure bs v :=
  ⟨h.1, h.2.1, fun e => h.2.2.1 (h.2.2.2.1 g e.symm), fun k hk => hk.symm, h.2.2.2.2.imp_ (fun _ _ hp => hp)⟩
theorem payS_inv (k : Int) (b : List Int) (h : (LEnt.payS k b).2 = 0) : 1 ≤ k ∧ k ≤ 3 ∧ b.length ≤ 1024 := by
  unfold LEnt.payS at h
  split at h
  · split at h
    · simp at h
    · rename_i h1 h2
      exact ⟨h1.1, h1.2, by omega⟩
  · simp at h
theorem msg_inv (a : List Int) (n k : Int) (b : List Int) (h : (msgS a n k b).2 = 0) : a.length = 32 ∧ 1 ≤ k ∧ k ≤ 3 ∧ b.length ≤ 1024 := by
  unfold msgS at h
  split at h
  · rename_i h1
    split at h
    · rename_i h2
      exact ⟨h1, payS_inv k b h2⟩
    · rename_i h2
      exact absurd h h2
  · simp at h
theorem msg_fine (a : List Int) (n k : Int) (b : List Int) (ha : Byt a) (hb : Byt b) (h : (msgS a n k b).2 = 0) : Byt (msgS a n k b).1 ∧ (msgS a n k b).1.length ≤ 2000 := by
  obtain ⟨h1, h2, h3, h4⟩ := msg_inv a n k b h
  obtain ⟨r1, r2, _⟩ := LChain.msgS_byt a n (⟨k, b⟩, a) ⟨h2, h3, h4, hb, h1, ha⟩ ha h1
  exact ⟨r1, r2⟩
noncomputable def nextT (key : List Int) (m : List Int × Int) : List Int := open Classical in if m.2 = 0 then tagS key m.1 else []
set_option maxHeartbeats 8000000 in
set_option maxRecDepth 100000 in
theorem next.calls (gj gd : Nat) (n : Nat) (hn : n < 1000000) (tag key : List Int) (At Ak : Option Addr) (ct ck : Nat) (vl : Value) (e : Ent) (Ab : Option Addr) (cb : Nat) (m : List Int × Int) (hm : m = msgS tag ((n : Int) + 1) e.f0 e.f1) (W : World)
    (hg : W.heap[gj]? = some (.cells #[.int .i64 (n : Int), .slice At tag.length ct, .slice Ak key.length ck, .pointer (some ⟨gd, 0, none⟩), vl] TJ (0, 0)))
    (hct : tag.length ≤ ct) (hT : Kd.C (Kd.int .u8) W At tag.length tag) (hck : key.length ≤ ck) (hK : Kd.C (Kd.int .u8) W Ak key.length key) (hcb : e.f1.length ≤ cb) (hE : Kd.C (Kd.int .u8) W Ab e.f1.length e.f1)
    (hk : Byt key) (hkl : key.length ≤ 1000) (htb : Byt tag) (heb : Byt e.f1) :
    Calls Try.prog 36 #[.pointer (some ⟨gj, 0, none⟩), .agg #[.int .i64 e.f0, .slice Ab e.f1.length cb]] W fun x w' => ∃ A c, x = .returned (.tuple #[.slice A (nextT key m).length c, .int .i64 m.2]) ∧ (nextT key m).length ≤ c ∧ Kd.F (Kd.int .u8) w' (fun q => W.heap.size ≤ q) A (nextT key m).length (nextT key m) ∧ Below W.heap.size W w' := by
  obtain ⟨k1, hk1⟩ := Ev.rounds (LChain.message_ev tag ((n : Int) + 1) (by omega) (by omega) e.f0 e.f1)
  rw [← hm] at hk1
  have hfine := fun h0 => msg_fine tag ((n : Int) + 1) e.f0 e.f1 htb heb h0
  rw [← hm] at hfine
  obtain ⟨W1, hW1⟩ : ∃ W1 : World, W1 = W.alloc (.cells #[.int .i64 e.f0, .slice Ab e.f1.length cb] TE) := ⟨_, rfl⟩
  have hb1 : Below W.heap.size W W1 := by rw [hW1]; exact below_alloc (Below.refl _ _) _
  have hx1 : W1.heap[W.heap.size]? = some (.cells #[.int .i64 e.f0, .slice Ab e.f1.length cb] TE (0, 0)) := by rw [hW1]; exact blk_new _ _
  have hw : IntKind.u64.wrap (n : Int) = (n : Int) := by rw [LSame.u64w]; omega
  have hw2 : IntKind.u64.wrap ((n : Int) + 1) = (n : Int) + 1 := by rw [LSame.u64w]; omega
  have HB1 := Aside0.mk hb1
  have HX1 := Aside0.mk hx1
  have HG := Aside0.mk hg
  have HG1 := Aside0.mk (blk_below hg hb1)
  have z0 : W1.cell? ⟨gj, 0, none⟩ = some (.int .i64 (n : Int)) := (blk_cell HG1.out 0).trans rfl
  have z1 : W1.cell? ⟨gj, 1, none⟩ = some (.slice At tag.length ct) := (blk_cell HG1.out 1).trans rfl
  have x0 : W1.cell? ⟨W.heap.size, 0, none⟩ = some (.int .i64 e.f0) := (blk_cell hx1 0).trans rfl
  have x1 : W1.cell? ⟨W.heap.size, 1, none⟩ = some (.slice Ab e.f1.length cb) := (blk_cell hx1 1).trans rfl
  have HCT := Aside0.mk hct
  have HT := Aside0.mk (Kd.C_below hT hb1)
  have HCK := Aside0.mk hck
  have HK := Aside0.mk (Kd.C_below hK hb1)
  have HCB := Aside0.mk hcb
  have HE := Aside0.mk (Kd.C_below hE hb1)
  have HKK := Aside0.mk hk1
  have HM := Aside0.mk hm
  have HF := Aside0.mk hfine
  have HBY := Aside0.mk (And.intro hk hkl)
  clear hg hb1 hx1 hct hT hck hK hcb hE hk1 hm hfine hk hkl htb heb
  obtain ⟨r1, r2⟩ := m
  have hu := Try.underlying35
  go_enter Try.func36, Try.ntmps36
  go_upto_region 1 with (fail)
  try simp only [← hW1]
  clear hW1
  go_region_held3 (fun w' => w'.cell? ⟨gj, 0, none⟩ = some (.int .i64 (n : Int)) ∧ w'.cell? ⟨gj, 1, none⟩ = some (.slice At tag.length ct) ∧ w'.cell? ⟨W.heap.size, 0, none⟩ = some (.int .i64 e.f0) ∧ w'.cell? ⟨W.heap.size, 1, none⟩ = some (.slice Ab e.f1.length cb)) (first | exact ⟨z0, z1, x0, x1⟩ | exact ⟨pw_cell_below HB5.out z0, pw_cell_below HB5.out z1, pw_cell_below HB5.out x0, pw_cell_below HB5.out x1⟩ | go_keep) (first | (go_at_call 54; (with_reducible refine (chain_Message.calls k1 At ct tag ((n : Int) + 1) e.f0 Ab cb e.f1 r1 r2 _ (Kd.C_below HT.out (by with_reducible repeat (first | exact Below.refl _ _ | apply below_alloc | apply below_drew))) HCT.out (Kd.C_below HE.out (by with_reducible repeat (first | exact Below.refl _ _ | apply below_alloc | apply below_drew))) HCB.out HKK.out).mono ?_); rintro e5 w5 ⟨v5, rfl, ho5, hb5⟩; (obtain ⟨A5, c5, rfl⟩ := Kd.R_slice ho5); (have hb5' : Below W1.heap.size W1 w5 := below_step (by with_reducible repeat (first | exact Below.refl _ _ | apply below_alloc | apply below_drew)) hb5); (have HB5 := Aside0.mk hb5'); (have HO5 := Aside0.mk ho5); clear ho5 hb5 hb5'))
  rename_i hHeld
  have HB6 : Aside0 (Below W1.heap.size W1 w5) := HB5
  have HC6 : Aside0 (Kd.C (Kd.int .u8) w5 A5 r1.length r1) := ⟨(Kd.R_reads' HO5.out).2.2⟩
  have HL6 : Aside0 (r1.length ≤ c5) := ⟨(Kd.R_reads' HO5.out).2.1⟩
  clear hHeld HB5 HO5 z0 z1 x0 x1
  generalize w5 = w6 at HB6 HC6 ⊢
  have z2 : w6.cell? ⟨gj, 2, none⟩ = some (.slice Ak key.length ck) := (blk_cell (blk_below HG1.out HB6.out) 2).trans rfl
  by_cases h0 : r2 = 0
  · subst h0
    obtain ⟨tl, tb, te, tu⟩ := LChain.tagS_spec key r1 HBY.out.1 HBY.out.2 (HF.out rfl).1 (by have := (HF.out rfl).2; exact Nat.le_trans this (by decide))
    obtain ⟨k2, hk2⟩ := Ev.rounds te
    have HK2 := Aside0.mk hk2
    clear hk2 te tl tb tu
    go_wp2_with (go_at_call 55; (with_reducible refine (hmac_Tag.calls k2 Ak ck key A5 c5 r1 (tagS key r1) _ (Kd.C_below (Kd.C_below HK.out HB6.out) (by with_reducible repeat (first | exact Below.refl _ _ | apply below_alloc | apply below_drew))) HCK.out (Kd.C_below HC6.out (by with_reducible repeat (first | exact Below.refl _ _ | apply below_alloc | apply below_drew))) HL6.out HK2.out).mono ?_); rintro e7 w7 ⟨v7, rfl, ho7, hb7⟩; (obtain ⟨A7, c7, rfl⟩ := Kd.R_slice ho7); (have HB7 : Aside0 (Below w6.heap.size w6 w7) := ⟨below_step (by with_reducible repeat (first | exact Below.refl _ _ | apply below_alloc | apply below_drew)) hb7⟩); (have HO7 : Aside0 (Kd.R (Kd.int .u8) T8 w7 w6.heap.size (fun _ => True) (.slice A7 (tagS key r1).length c7) (tagS key r1)) := ⟨ho7⟩); clear ho7 hb7)
    go_ret2
    have hsz : W.heap.size ≤ w6.heap.size := Nat.le_trans HB1.out.size HB6.out.size
    rw [show nextT key (r1, 0) = tagS key r1 from if_pos rfl]
    exact ⟨A7, c7, rfl, (Kd.R_reads' HO7.out).2.1, Kd.F_mono (Kd.R_F (Kd.R_bound HO7.out)) (fun q hq => Nat.le_trans hsz hq.2.1), (HB1.out.trans (HB6.out.mono HB1.out.size)).trans (HB7.out.mono hsz)⟩
  · have hne : (r2 != 0) = true := bne_iff_ne.mpr h0
    have hne2 : (r2 == 0) = false := beq_eq_false_iff_ne.mpr h0
    have hnt : nextT key (r1, r2) = [] := if_neg h0
    have HNT := Aside0.mk hnt
    clear h0 hnt
    go_wp2
    go_ret2
    rw [HNT.out]
    exact ⟨none, 0, rfl, Nat.le_refl _, Kd.F_nil _ _ _, HB1.out.trans (HB6.out.mono HB1.out.size)⟩
end Go.Proofs.Ytogjnipojakfjaa.JJour

/- The journal: what its functions do to it. -/
namespace Go.Proofs.Ytogjnipojakfjaa.JJour
open Go.RowKit Go.Proofs.Ytogjnipojakfjaa.PJd Go.Proofs.YtogjnipojakfjaaW.PrintWords Go.Proofs.YtogjnipojakfjaaW.PrintLast Go.Proofs.YtogjnipojakfjaaW.PrintMore
open LSame (Byt)
open LChain (msgS tagS zeroT)
open DDev (Dev dev_below dev_kept dev_drewN dev_mono T8 TD heldN)
set_option linter.unusedVariables false
set_option linter.unusedSimpArgs false

theorem step {P : Program} {ops : Array Oper} {o : Oper} {a : Act} {Q : Exit → Act → World → Prop} {Kc : Act → World → Prop} {E : Prop} {α : Type} (d : Kd α) {W : World} (base : Nat) (hg : o.guard = none) (s x : Operand) (t e : TypeId) (z : Value) (bytes : Nat)
    (ho : o.op = .call { callee := .builtin .append, args := #[s, x], argTypes := #[t, t] })
    (ht : P.underlying t = some (.slice e)) (hinfo : (P.info? e).map (fun i => (i.zero, i.size, i.bytes)) = some (some z, d.sz, bytes)) (hz : z.cells.size = d.sz) (hs0 : 0 < d.sz) (hb0 : 0 < bytes)
    (v : Value) (xs : List α) (p : α) (cs : List Value) (ok okp : Nat → Prop) (hs : a.eval s = v) (hx : a.eval x = .slice (some ⟨W.heap.size, 0, none⟩) 1 1) (hp : Kd.FK d W okp p cs) (hokp : ∀ k, okp k → ok k ∧ some k ≠ v.ownBlock) (hfresh : ∀ k, W.heap.size ≤ k → ok k)
    (HO : Kd.N d e W base ok v xs) (hbase : base ≤ W.heap.size) (hl : (xs.length + 1) * bytes ≤ 140737488355328)
    (h : ∀ v1 w1, Kd.N d e w1 base ok v1 (xs ++ [p]) → Below base W w1 → W.grownBy w1 v.ownBlock → (v1.ownBlock = v.ownBlock ∨ ∃ b, v1.ownBlock = some b ∧ W.heap.size ≤ b) → Kc (a.put o.dst v1) w1) :
    if Region.wanted o (yielded ops a.tmps) = true then Oper.wp P o a (W.alloc (.cells cs.toArray e)) Kc Q else E := by
  have hw : Region.wanted o (yielded ops a.tmps) = true := by simp [Region.wanted, hg]
  have := Kd.N_append_step (ops := ops) (Q := Q) (w0 := W) d base hw s x t e z bytes ho ht hinfo hz hs0 hb0 v xs p cs ok okp hs hx hp hokp hfresh HO (Below.refl _ _) hbase hl h
  rw [if_pos hw] at this ⊢
  exact this
theorem mk_EF (W : World) (ok : Nat → Prop) (x : Ent) {A1 : Option Addr} {c1 : Nat} (l1 : x.f1.length ≤ c1) (g1 : Kd.F (Kd.int .u8) W ok A1 x.f1.length x.f1) : Kd.FK kE W ok x [.int .i64 x.f0, .slice A1 x.f1.length c1] := fun W2 hW => k35_mk W2 x l1 (g1 W2 hW)
theorem ok_new {W : World} {B gj gd q : Nat} {O : Nat → Prop} {vb : Value} (h1 : gj < W.heap.size) (h2 : gd < W.heap.size) (hO : ∀ q, O q → B ≤ q ∧ q < W.heap.size) (hb : some q = vb.ownBlock → O q) (hB : B ≤ W.heap.size) (hq : W.heap.size ≤ q) : B ≤ q ∧ q ≠ gj ∧ q ≠ gd ∧ some q ≠ vb.ownBlock :=
  ⟨by omega, by omega, by omega, fun e => by have := hO q (hb e); omega⟩
set_option maxHeartbeats 8000000 in
set_option maxRecDepth 100000 in
theorem take.calls (B gj gd : Nat) (O : Nat → Prop) (s : St) (hn : s.n < 1000000) (hL : s.L.length < 1000000) (e : Ent) (hel : e.f1.length ≤ 100000) (Ab : Option Addr) (cb : Nat) (t : List Int) (A2 : Option Addr) (c2 : Nat) (W : World)
    (h : Jn W B gj gd O s) (hB : B ≤ W.heap.size) (hcb : e.f1.length ≤ cb) (hE : Kd.C (Kd.int .u8) W Ab e.f1.length e.f1) (hc2 : t.length ≤ c2) (hT : Kd.F (Kd.int .u8) W (fun q => ¬ O q) A2 t.length t) :
    Calls Try.prog 38 #[.pointer (some ⟨gj, 0, none⟩), .agg #[.int .i64 e.f0, .slice Ab e.f1.length cb], .slice A2 t.length c2] W fun x w' => x = .returned (.tuple #[]) ∧ ∃ O', Jn w' B gj gd O' { s with n := s.n + 1, tag := t, L := s.L ++ [e] } ∧ Kept W w' O ∧ (∀ q, q < W.heap.size → O' q → O q) ∧ Below B W w' := by
  have hown := jn_own h
  obtain ⟨vb, vl, At, ct, Ak, ck, h1, h2, h3, h4, ⟨h5, h6⟩, ⟨h7, h8⟩, h9⟩ := h
  have hcl : slices_Clone_byte_byte.f e.f1 = some e.f1 := by unfold slices_Clone_byte_byte.f; rw [if_pos (by omega)]
  have hgjl := blk_lt h1
  have hgdl := DDev.dev_lt h2
  have hgv : some gj ≠ vl.ownBlock := Kd.N_away h4 (fun k hk => hk.2.1)
  have hgdv : some gd ≠ vl.ownBlock := Kd.N_away h4 (fun k hk => hk.2.2.1)
  have hgjd : gj ≠ gd := blk_ne h1 h2.1 (by decide)
  have hgjb : some gj ≠ vb.ownBlock := Kd.R_ne h2.2.2.2 h1 (by decide)
  obtain ⟨W1, hW1⟩ : ∃ W1 : World, W1 = W.alloc (.cells #[.int .i64 e.f0, .slice Ab e.f1.length cb] TE) := ⟨_, rfl⟩
  have hb1 : Below W.heap.size W W1 := by rw [hW1]; exact below_alloc (Below.refl _ _) _
  have hs1 : W1.heap.size = W.heap.size + 1 := by rw [hW1]; simp
  have hx1 : W1.heap[W.heap.size]? = some (.cells #[.int .i64 e.f0, .slice Ab e.f1.length cb] TE (0, 0)) := by rw [hW1]; exact blk_new _ _
  have x1 : W1.cell? ⟨W.heap.size, 1, none⟩ = some (.slice Ab e.f1.length cb) := (blk_cell hx1 1).trans rfl
  have HX1 := Aside0.mk hx1
  have HB1 := Aside0.mk hb1
  have HS1 := Aside0.mk hs1
  have HE := Aside0.mk (Kd.C_below hE hb1)
  have HCB := Aside0.mk hcb
  have HCL := Aside0.mk hcl
  have HO := Aside0.mk hown
  have H1 := Aside0.mk h1
  have H2 := Aside0.mk h2
  have H3 := Aside0.mk h3
  have H4 := Aside0.mk h4
  have H56 := Aside0.mk (And.intro h5 h6)
  have H78 := Aside0.mk (And.intro h7 h8)
  have H9 := Aside0.mk h9
  have HT := Aside0.mk (And.intro hc2 hT)
  have HB := Aside0.mk hB
  have HN := Aside0.mk (And.intro hn hL)
  have HG := Aside0.mk (And.intro hgjl (And.intro hgdl (And.intro hgv (And.intro hgdv (And.intro hgjd hgjb)))))
  clear hown h1 h2 h3 h4 h5 h6 h7 h8 h9 hcl hgjl hgdl hgv hgdv hgjd hgjb hb1 hs1 hx1 hE hcb hc2 hT hB hel hn hL
  go_enter Try.func38, Try.ntmps38
  go_upto_region 1 with (fail)
  try simp only [← hW1]
  clear hW1
  go_upto_region 2 with (go_at_call 33; (with_reducible refine (slices_Clone_byte_byte.calls Ab cb e.f1 e.f1 _ (Kd.C_below HE.out (by with_reducible repeat (first | exact Below.refl _ _ | apply below_alloc | apply below_drew))) HCB.out HCL.out).mono ?_); rintro e2 w2 ⟨v2, rfl, ho2, hb2⟩; (obtain ⟨A3, c3, rfl⟩ := Kd.R_slice ho2); (have HB2 : Aside0 (Below W1.heap.size W1 w2) := ⟨below_step (by with_reducible repeat (first | exact Below.refl _ _ | apply below_alloc | apply below_drew)) hb2⟩); (have HO2 : Aside0 (Kd.R (Kd.int .u8) T8 w2 W1.heap.size (fun _ => True) (.slice A3 e.f1.length c3) e.f1) := ⟨ho2⟩); (have y1 : w2.cell? ⟨W.heap.size, 1, none⟩ = some (.slice Ab e.f1.length cb) := pw_cell_below HB2.out x1); (have y2 : w2.frozen? ⟨W.heap.size, 1, none⟩ = false := blk_frozen (blk_below HX1.out HB2.out) 1); clear ho2 hb2)
  obtain ⟨W3, hW3⟩ : ∃ W3 : World, W3 = w2.setCell ⟨W.heap.size, 1, none⟩ (.slice A3 e.f1.length c3) := ⟨_, rfl⟩
  have hb3 : Below W.heap.size W W3 := by rw [hW3]; exact below_set (HB1.out.trans (HB2.out.mono HB1.out.size)) (Nat.le_refl _)
  have hx3 : W3.heap[W.heap.size]? = some (.cells #[.int .i64 e.f0, .slice A3 e.f1.length c3] TE (0, 0)) := by rw [hW3]; exact blk_put (blk_below HX1.out HB2.out) 1 _ rfl
  have hf2 : Kd.F (Kd.int .u8) w2 (fun q => W.heap.size < q) A3 e.f1.length e.f1 := Kd.F_mono (Kd.R_F (Kd.R_bound HO2.out)) (fun q hq => by
    have h1 : W1.heap.size ≤ q := hq.2.1
    have h2 := HS1.out
    show W.heap.size < q
    omega)
  have hf3 : Kd.F (Kd.int .u8) W3 (fun q => W.heap.size < q) A3 e.f1.length e.f1 := by
    rw [hW3]
    exact Kd.F_far (p := ⟨W.heap.size, 1, none⟩) hf2 (fun k hk => Nat.ne_of_gt hk) _
  have HL3 : Aside0 (e.f1.length ≤ c3) := ⟨(Kd.R_reads' HO2.out).2.1⟩
  rw [← hW3]
  have HB3 := Aside0.mk hb3
  have HF3 := Aside0.mk hf3
  have HX3 := Aside0.mk hx3
  have HG3 := Aside0.mk (blk_below H1.out hb3)
  have HN3 := Aside0.mk (Kd.N_below H4.out hb3)
  have z4 : W3.cell? ⟨gj, 4, none⟩ = some vl := (blk_cell HG3.out 4).trans rfl
  have x3 : W3.cell? ⟨W.heap.size, 0, none⟩ = some (.int .i64 e.f0) := (blk_cell hx3 0).trans rfl
  have x4 : W3.cell? ⟨W.heap.size, 1, none⟩ = some (.slice A3 e.f1.length c3) := (blk_cell hx3 1).trans rfl
  clear hW3 hb3 hx3 hf2 hf3 HO2 x1 y1 y2
  refine start_ (n := 11) (S := fun w' => w'.cell? ⟨gj, 4, none⟩ = some vl ∧ w'.cell? ⟨W.heap.size, 0, none⟩ = some (.int .i64 e.f0) ∧ w'.cell? ⟨W.heap.size, 1, none⟩ = some (.slice A3 e.f1.length c3)) (ds := [10]) #[false, false, false, false, false, false, false, false, false, false, false] (by kernel_rfl) rfl rfl ⟨z4, x3, x4⟩ (fun hHeld => ?_)
  refine pure_ (i := 0) (N := some 10) (v := ?_) (a' := ?_) #[true, false, false, false, false, false, false, false, false, false, false] rfl rfl (by kernel_rfl) (fun _ _ _ h => h) (Or.inl ⟨by rfl, ?_⟩) ?_ ?_
  rotate_left
  · intro w'
    go_simp
    with_reducible rfl
  rotate_left
  · simp only [Act.put, List.setIfInBounds_toArray, List.set_cons_zero, List.set_cons_succ, i64_w, i32_w]
    rfl
  refine pure_ (i := 1) (N := some 11) (v := ?_) (a' := ?_) #[true, true, false, false, false, false, false, false, false, false, false] rfl rfl (by kernel_rfl) (fun _ _ _ h => h) (Or.inl ⟨by rfl, ?_⟩) ?_ ?_
  rotate_left
  · intro w'
    go_simp
    with_reducible rfl
  rotate_left
  · simp only [Act.put, List.setIfInBounds_toArray, List.set_cons_zero, List.set_cons_succ, i64_w, i32_w]
    rfl
  refine pure_ (i := 2) (N := some 12) (v := ?_) (a' := ?_) #[true, true, true, false, false, false, false, false, false, false, false] rfl rfl (by kernel_rfl) (fun _ _ _ h => h) (Or.inl ⟨by rfl, ?_⟩) ?_ ?_
  rotate_left
  · intro w'
    go_simp
    with_reducible rfl
  rotate_left
  · simp only [Act.put, List.setIfInBounds_toArray, List.set_cons_zero, List.set_cons_succ, i64_w, i32_w]
    rfl
  refine pure_ (i := 3) (N := some 13) (v := ?_) (a' := ?_) #[true, true, true, true, false, false, false, false, false, false, false] rfl rfl (by kernel_rfl) (fun _ _ _ h => h) (Or.inl ⟨by rfl, ?_⟩) ?_ ?_
  rotate_left
  · intro w'
    go_simp
    with_reducible rfl
  rotate_left
  · simp only [Act.put, List.setIfInBounds_toArray, List.set_cons_zero, List.set_cons_succ, i64_w, i32_w]
    rfl
  refine take_ (i := 4) (N := some 14) (v := ?_) (a' := ?_) #[true, true, true, true, true, false, false, false, false, false, false] rfl rfl (by kernel_rfl) (fun _ _ _ h => h) (Or.inl ⟨by rfl, ?_⟩) hHeld ?_ ?_
  rotate_left
  · rintro w' ⟨s0, s1, s2⟩
    go_simp
    with_reducible rfl
  rotate_left
  · simp only [Act.put, List.setIfInBounds_toArray, List.set_cons_zero, List.set_cons_succ, i64_w, i32_w]
    rfl
  refine take_ (i := 5) (N := some 15) (v := ?_) (a' := ?_) #[true, true, true, true, true, true, false, false, false, false, false] rfl rfl (by kernel_rfl) (fun _ _ _ h => h) (Or.inl ⟨by rfl, ?_⟩) hHeld ?_ ?_
  rotate_left
  · rintro w' ⟨s0, s1, s2⟩
    go_simp
    with_reducible rfl
  rotate_left
  · simp only [Act.put, List.setIfInBounds_toArray, List.set_cons_zero, List.set_cons_succ, i64_w, i32_w]
    rfl
  refine one_ (i := 6) (N := some 16) #[true, true, true, true, true, true, true, false, false, false, false] rfl rfl (by kernel_rfl) (by decide) (fun K hK => ?_)
  refine value_ (v := .slice (some ⟨W3.heap.size, 0, none⟩) 1 1) (w1 := W3.drew.alloc (.cells #[.int .i64 e.f0, .slice A3 e.f1.length c3] TE)) (by rfl) rfl (by go_simp <;> rfl) ?_
  refine hK.out _ _ ⟨pw_cell_below (below_alloc (Below.refl _ _) _) z4, pw_cell_below (below_alloc (Below.refl _ _) _) x3, pw_cell_below (below_alloc (Below.refl _ _) _) x4⟩ (fun hHeld => ?_)
  clear hK K
  refine norm_ (a' := ?_) ?_ ?_
  rotate_left
  · show Act.put _ (some 16) _ = _
    simp only [Act.put, List.setIfInBounds_toArray, List.set_cons_zero, List.set_cons_succ, i64_w, i32_w]
    rfl
  refine one_ (i := 7) (N := some 17) #[true, true, true, true, true, true, true, true, false, false, false] rfl rfl (by kernel_rfl) (by decide) (fun K hK => ?_)
  refine step kE (W := W3.drew) B rfl (.tmp 14) (.tmp 16) 23 TE (.agg #[(.int .i64 0), (.slice none 0 0)]) 32 rfl Try.underlying23 info35 rfl (by decide) (by omega) vl s.L e [.int .i64 e.f0, .slice A3 e.f1.length c3] (fun q => B ≤ q ∧ q ≠ gj ∧ q ≠ gd ∧ some q ≠ vb.ownBlock) (fun q => W.heap.size < q) rfl rfl (mk_EF W3.drew _ e HL3.out HF3.out) (fun q hq => ⟨?okp, fun he => by have := HO.out q ((H9.out q).2 (.inr (.inr (.inr he)))); omega⟩) (fun q hq => ?okf) (Kd.N_drew HN3.out) (Nat.le_trans HB.out HB3.out.size) (by have := HN.out; omega) ?_
  case okp => exact ok_new HG.out.1 HG.out.2.1 HO.out (fun he => (H9.out q).2 (.inr (.inr (.inl he)))) HB.out (Nat.le_of_lt hq)
  case okf => exact ok_new HG.out.1 HG.out.2.1 HO.out (fun he => (H9.out q).2 (.inr (.inr (.inl he)))) HB.out (Nat.le_trans HB3.out.size hq)
  intro v9 w9 hn9 hb9 hg9 hat9
  obtain ⟨A9, n9, c9, e9⟩ : ∃ A n c, v9 = .slice A n c := by obtain ⟨A, c, e⟩ := Kd.N_slice hn9; exact ⟨A, _, c, e⟩
  subst e9
  have HN9 := Aside0.mk hn9
  have HGR := Aside0.mk hg9
  have HAT := Aside0.mk hat9
  have K9 := Aside0.mk (blk_grown (blk_drew HG3.out) hg9 HG.out.2.2.1)
  have z9 : w9.cell? ⟨gj, 4, none⟩ = some vl := (blk_cell K9.out 4).trans rfl
  have z0 : w9.cell? ⟨gj, 0, none⟩ = some (.int .i64 (s.n : Int)) := (blk_cell K9.out 0).trans rfl
  have z1 : w9.cell? ⟨gj, 1, none⟩ = some (.slice At s.tag.length ct) := (blk_cell K9.out 1).trans rfl
  have f9 : w9.frozen? ⟨gj, 4, none⟩ = false := blk_frozen K9.out 4
  have f0 : w9.frozen? ⟨gj, 0, none⟩ = false := blk_frozen K9.out 0
  have f1 : w9.frozen? ⟨gj, 1, none⟩ = false := blk_frozen K9.out 1
  have KX := blk_grown (blk_drew HX3.out) hg9 (fun he => by have := HO.out W.heap.size ((H9.out _).2 (.inr (.inr (.inr he)))); omega)
  have x9 : w9.cell? ⟨W.heap.size, 0, none⟩ = some (.int .i64 e.f0) := (blk_cell KX 0).trans rfl
  have y9 : w9.cell? ⟨W.heap.size, 1, none⟩ = some (.slice A3 e.f1.length c3) := (blk_cell KX 1).trans rfl
  clear hn9 hb9 hg9 hat9 KX
  refine hK.out _ _ ⟨z9, x9, y9⟩ (fun hHeld => ?_)
  clear hK K
  refine norm_ (a' := ?_) ?_ ?_
  rotate_left
  · show Act.put _ (some 17) _ = _
    simp only [Act.put, List.setIfInBounds_toArray, List.set_cons_zero, List.set_cons_succ, i64_w, i32_w]
    rfl
  refine pure_ (i := 8) (N := some 18) (v := ?_) (a' := ?_) #[true, true, true, true, true, true, true, true, true, false, false] rfl rfl (by kernel_rfl) (fun _ _ _ h => h) (Or.inl ⟨by rfl, ?_⟩) ?_ ?_
  rotate_left
  · intro w'
    go_simp
    with_reducible rfl
  rotate_left
  · simp only [Act.put, List.setIfInBounds_toArray, List.set_cons_zero, List.set_cons_succ, i64_w, i32_w]
    rfl
  refine pure_ (i := 9) (N := some 19) (v := ?_) (a' := ?_) #[true, true, true, true, true, true, true, true, true, true, false] rfl rfl (by kernel_rfl) (fun _ _ _ h => h) (Or.inl ⟨by rfl, ?_⟩) ?_ ?_
  rotate_left
  · intro w'
    go_simp
    with_reducible rfl
  rotate_left
  · simp only [Act.put, List.setIfInBounds_toArray, List.set_cons_zero, List.set_cons_succ, i64_w, i32_w]
    rfl
  refine last_ (i := 10) (N := none) #[true, true, true, true, true, true, true, true, true, true, true] rfl rfl (by kernel_rfl) (by decide) (fun K hK => ?_)
  refine skip_ (w1 := ?_) (by rfl) rfl ?_ ?_
  rotate_left
  · go_simp
    rfl
  refine hK.out _ _ ?_
  clear hK K
  refine done_ (by kernel_rfl) ?_
  have hw : IntKind.i64.wrap ((s.n : Int) + 1) = (s.n : Int) + 1 := IntWalk.i64_in _ (by have := HN.out.1; omega)
  go_wp2
  go_end0
  have hn9 : n9 = (s.L ++ [e]).length := (Kd.N_reads' HN9.out).1
  have hvl : ∀ k, vl.ownBlock = some k → B ≤ k ∧ k ≠ gj ∧ k ≠ gd ∧ some k ≠ vb.ownBlock := H4.out.1
  have hO9 : ∀ q, q < W.heap.size → some q = (Value.slice A9 n9 c9).ownBlock → some q = vl.ownBlock := fun q hq he => by
    rcases HAT.out with h | ⟨x, h, hx⟩
    · exact he.trans h
    · rw [h] at he
      have h1 := Option.some.inj he
      have h2 : W3.heap.size ≤ x := hx
      have h3 := HB3.out.size
      omega
  have hk : Kept W (((w9.setCell ⟨gj, 4, none⟩ (.slice A9 n9 c9)).setCell ⟨gj, 0, none⟩ (.int .i64 ((s.n : Int) + 1))).setCell ⟨gj, 1, none⟩ (.slice A2 t.length c2)) (fun q => q = gj ∨ some q = vl.ownBlock) :=
    (((Kept.of_grown HGR.out (Kept.of_below (below_drew HB3.out) _) (fun k hk => .inl (.inr hk.symm))).setCell (p := ⟨gj, 4, none⟩) (.inl (.inl rfl)) _).setCell (p := ⟨gj, 0, none⟩) (.inl (.inl rfl)) _).setCell (p := ⟨gj, 1, none⟩) (.inl (.inl rfl)) _
  have hbb : Below B W (((w9.setCell ⟨gj, 4, none⟩ (.slice A9 n9 c9)).setCell ⟨gj, 0, none⟩ (.int .i64 ((s.n : Int) + 1))).setCell ⟨gj, 1, none⟩ (.slice A2 t.length c2)) :=
    ((((below_drew (HB3.out.mono HB.out)).grown HGR.out (Nat.le_trans HB.out HB3.out.size) (fun q hq => (hvl q hq).1)).setCell (p := ⟨gj, 4, none⟩) H3.out _).setCell (p := ⟨gj, 0, none⟩) H3.out _).setCell (p := ⟨gj, 1, none⟩) H3.out _
  have hOO : ∀ q, q < W.heap.size → (q = gj ∨ q = gd ∨ some q = vb.ownBlock ∨ some q = (Value.slice A9 n9 c9).ownBlock) → O q := fun q hq h => (H9.out q).2 (h.imp_right (fun h => h.imp_right (fun h => h.imp_right (hO9 q hq))))
  have hS : ∀ q, (q = gj ∨ some q = vl.ownBlock) → O q := fun q h => (H9.out q).2 (h.elim .inl (fun h => .inr (.inr (.inr h))))
  have hF : ∀ (A : Option Addr) (x : List Int), Kd.F (Kd.int .u8) W (fun q => ¬ O q) A x.length x → Kd.F (Kd.int .u8) _ (fun q => ¬ (q = gj ∨ q = gd ∨ some q = vb.ownBlock ∨ some q = (Value.slice A9 n9 c9).ownBlock)) A x.length x := fun A x hx =>
    Kd.F_mono (Kd.F_kept (Kd.F_bound hx) hk (fun q hq h => hq.1 (hS q h))) (fun q hq h => hq.1 (hOO q hq.2 h))
  refine ⟨rfl, fun q => q = gj ∨ q = gd ∨ some q = vb.ownBlock ∨ some q = (Value.slice A9 n9 c9).ownBlock, ⟨vb, .slice A9 n9 c9, A2, c2, Ak, ck, ?_, ?_, H3.out, ?_, ⟨HT.out.1, hF _ _ HT.out.2⟩, ⟨H78.out.1, hF _ _ H78.out.2⟩, fun q => Iff.rfl⟩, hk.mono hS, hOO, hbb⟩
  · exact blk_put (blk_put (blk_put K9.out 4 _ rfl) 0 _ rfl) 1 _ rfl
  · exact dev_kept H2.out hk (fun h => h.elim (fun h => HG.out.2.2.2.2.1 h.symm) (fun h => HG.out.2.2.2.1 h)) (fun k hk h => h.elim (fun h => HG.out.2.2.2.2.2 (h ▸ hk)) (fun h => (hvl k h.symm).2.2.2 hk))
  · exact Kd.N_far (p := ⟨gj, 1, none⟩) (Kd.N_far (p := ⟨gj, 0, none⟩) (Kd.N_far (p := ⟨gj, 4, none⟩) HN9.out (fun q hq => hq.2.1) _) (fun q hq => hq.2.1) _) (fun q hq => hq.2.1) _
end Go.Proofs.Ytogjnipojakfjaa.JJour

/- The journal: what its functions do to it. -/
namespace Go.Proofs.Ytogjnipojakfjaa.JJour
open Go.RowKit Go.Proofs.Ytogjnipojakfjaa.PJd Go.Proofs.YtogjnipojakfjaaW.PrintWords Go.Proofs.YtogjnipojakfjaaW.PrintLast Go.Proofs.YtogjnipojakfjaaW.PrintMore
open LSame (Byt)
open LChain (msgS tagS zeroT)
open DDev (Dev dev_below dev_kept dev_drewN dev_mono T8 TD heldN)
set_option linter.unusedVariables false
set_option linter.unusedSimpArgs false
/-- the device that a journal writes to: its row, and how the journal stands when the device has changed -/
theorem jn_dev {W : World} {B gj gd : Nat} {O : Nat → Prop} {s : St} (h : Jn W B gj gd O s) : ∃ vb, Dev W B gd (fun k => some k = vb.ownBlock) s.room s.sure s.bs vb ∧ (∀ k, (k = gd ∨ some k = vb.ownBlock) → O k) ∧
    ∀ (W3 : World), Below W.heap.size W W3 → ∀ (W' : World) (vb' : Value) (bs' : List Int) (sure' : Int) (OD : Nat → Prop), Dev W' B gd OD s.room sure' bs' vb' → Kept W3 W' (fun k => k = gd ∨ some k = vb.ownBlock) → (∀ k, vb'.ownBlock = some k → some k = vb.ownBlock ∨ W3.heap.size ≤ k) →
      ∃ O', Jn W' B gj gd O' { s with sure := sure', bs := bs' } ∧ ∀ q, q < W3.heap.size → O' q → O q := by
  obtain ⟨vb, vl, At, ct, Ak, ck, h1, h2, h3, h4, ⟨h5, h6⟩, ⟨h7, h8⟩, h9⟩ := h
  refine ⟨vb, h2, fun k hk => (h9 k).2 (hk.elim (fun h => .inr (.inl h)) (fun h => .inr (.inr (.inl h)))), ?_⟩
  intro W3 hb3 W' vb' bs' sure' OD hd hk ho
  replace h1 := blk_below h1 hb3
  replace h2 := dev_below h2 hb3
  replace h4 := Kd.N_below h4 hb3
  replace h6 := Kd.F_below h6 hb3
  replace h8 := Kd.F_below h8 hb3
  have hgjd : gj ≠ gd := blk_ne h1 h2.1 (by decide)
  have hgjb : some gj ≠ vb.ownBlock := Kd.R_ne h2.2.2.2 h1 (by decide)
  have hvl : ∀ k, vl.ownBlock = some k → B ≤ k ∧ k ≠ gj ∧ k ≠ gd ∧ some k ≠ vb.ownBlock := h4.1
  have hS : ∀ q, (q = gd ∨ some q = vb.ownBlock) → O q := fun q h => (h9 q).2 (h.elim (fun h => .inr (.inl h)) (fun h => .inr (.inr (.inl h))))
  have hOO : ∀ q, q < W3.heap.size → (q = gj ∨ q = gd ∨ some q = vb'.ownBlock ∨ some q = vl.ownBlock) → O q := fun q hq h => by
    rcases h with h | h | h | h
    · exact (h9 q).2 (.inl h)
    · exact (h9 q).2 (.inr (.inl h))
    · rcases ho q h.symm with h | h
      · exact (h9 q).2 (.inr (.inr (.inl h)))
      · omega
    · exact (h9 q).2 (.inr (.inr (.inr h)))
  have hF : ∀ (A : Option Addr) (x : List Int), Kd.F (Kd.int .u8) W3 (fun q => ¬ O q) A x.length x → Kd.F (Kd.int .u8) W' (fun q => ¬ (q = gj ∨ q = gd ∨ some q = vb'.ownBlock ∨ some q = vl.ownBlock)) A x.length x := fun A x hx =>
    Kd.F_mono (Kd.F_kept (Kd.F_bound hx) hk (fun q hq h => hq.1 (hS q h))) (fun q hq h => hq.1 (hOO q hq.2 h))
  refine ⟨fun q => q = gj ∨ q = gd ∨ some q = vb'.ownBlock ∨ some q = vl.ownBlock, ⟨vb', vl, At, ct, Ak, ck, ?_, dev_tight hd, h3, ?_, ⟨h5, hF _ _ h6⟩, ⟨h7, hF _ _ h8⟩, fun q => Iff.rfl⟩, hOO⟩
  · exact blk_kept h1 hk (fun h => h.elim (fun h => hgjd h) (fun h => hgjb h))
  · refine Kd.N_mono (Kd.N_kept (Kd.N_bound h4) hk (fun q hq h => h.elim (fun h => hq.1.2.2.1 h) (fun h => hq.1.2.2.2 h))) (fun q hq => ⟨hq.1.1, hq.1.2.1, hq.1.2.2.1, fun he => ?_⟩)
    rcases ho q he.symm with h | h
    · exact hq.1.2.2.2 h
    · have := hq.2; omega
/-- what a journal's block says -/
theorem jn_blk {W : World} {B gj gd : Nat} {O : Nat → Prop} {s : St} (h : Jn W B gj gd O s) : ∃ vl At ct Ak ck, W.heap[gj]? = some (.cells #[.int .i64 (s.n : Int), .slice At s.tag.length ct, .slice Ak s.key.length ck, .pointer (some ⟨gd, 0, none⟩), vl] TJ (0, 0)) ∧
    s.tag.length ≤ ct ∧ Kd.C (Kd.int .u8) W At s.tag.length s.tag ∧ s.key.length ≤ ck ∧ Kd.C (Kd.int .u8) W Ak s.key.length s.key ∧ ∃ A c, vl = .slice A s.L.length c ∧ s.L.length ≤ c ∧ Kd.C kE W A s.L.length s.L := by
  obtain ⟨vb, vl, At, ct, Ak, ck, h1, h2, h3, h4, ⟨h5, h6⟩, ⟨h7, h8⟩, h9⟩ := h
  exact ⟨vl, At, ct, Ak, ck, h1, h5, Kd.F_now h6, h7, Kd.F_now h8, Kd.N_reads h4⟩
/-- bounds of what a journal holds -/
structure Good (s : St) : Prop where
  r0 : 0 ≤ s.room
  r1 : s.room ≤ 65536
  b0 : (s.bs.length : Int) ≤ s.room
  s0 : 0 ≤ s.sure
  s1 : s.sure ≤ s.bs.length
  bb : Byt s.bs
  tl : s.tag.length = 32
  tb : Byt s.tag
  kl : s.key.length ≤ 1000
  kb : Byt s.key
  nl : s.n = s.L.length
  nb : 36 * s.n ≤ s.bs.length
  le : ∀ e ∈ s.L, Byt e.f1 ∧ e.f1.length ≤ 1024
/-- an entry more, or why not -/
noncomputable def appS (s : St) (e : Ent) : Int × St :=
  open Classical in
  if (msgS s.tag ((s.n : Int) + 1) e.f0 e.f1).2 = 0 then
    (if s.room - s.bs.length < (LEnt.frS e.f0 e.f1 (tagS s.key (msgS s.tag ((s.n : Int) + 1) e.f0 e.f1).1)).1.length then (28, s)
     else (0, { s with n := s.n + 1, tag := tagS s.key (msgS s.tag ((s.n : Int) + 1) e.f0 e.f1).1, L := s.L ++ [e], bs := s.bs ++ (LEnt.frS e.f0 e.f1 (tagS s.key (msgS s.tag ((s.n : Int) + 1) e.f0 e.f1).1)).1 }))
  else ((msgS s.tag ((s.n : Int) + 1) e.f0 e.f1).2, s)
theorem frS_fine (e : Ent) (t : List Int) (heb : Byt e.f1) (ht : t.length = 32) (htb : Byt t) (h : 1 ≤ e.f0 ∧ e.f0 ≤ 3 ∧ e.f1.length ≤ 1024) : (LEnt.frS e.f0 e.f1 t).2 = 0 ∧ (LEnt.frS e.f0 e.f1 t).1.length = e.f1.length + 37 ∧ Byt (LEnt.frS e.f0 e.f1 t).1 := by
  have hf := LEnt.frS_mk e.f0 e.f1 t h.1 h.2.1 h.2.2 ht
  rw [hf]
  refine ⟨rfl, ?_, ?_⟩
  · have h5 : (entry_length.bytes ((e.f1.length + 1 : Nat) : Int)).length = 4 := rfl
    simp only [List.length_append, List.length_cons, h5]
    omega
  · refine (Byt.append ?_ (Byt.cons (by omega) (by omega) heb)).append htb
    have := h.2.2
    unfold entry_length.bytes
    exact Byt.cons (by omega) (by omega) (Byt.cons (by omega) (by omega) (Byt.cons (by omega) (by omega) (Byt.cons (by omega) (by omega) Byt.nil)))
theorem appS_good (s : St) (e : Ent) (h : Good s) (heb : Byt e.f1) : Good (appS s e).2 := by
  unfold appS
  split
  · rename_i h0
    obtain ⟨mb, ml⟩ := msg_fine s.tag ((s.n : Int) + 1) e.f0 e.f1 h.tb heb h0
    obtain ⟨tl, tb, _, _⟩ := LChain.tagS_spec s.key _ h.kb h.kl mb (by omega)
    obtain ⟨_, e1, e2, e3⟩ := msg_inv _ _ _ _ h0
    obtain ⟨_, fl, fb⟩ := frS_fine e _ heb tl tb ⟨e1, e2, e3⟩
    split
    · exact h
    · rename_i h1
      refine ⟨h.r0, h.r1, ?_, h.s0, ?_, h.bb.append fb, tl, tb, h.kl, h.kb, ?_, ?_, ?_⟩
      · simp only [List.length_append]; omega
      · have := h.s1
        simp only [List.length_append]; omega
      · simp [h.nl]
      · have := h.nb
        simp only [List.length_append]; omega
      · intro x hx
        rcases List.mem_append.1 hx with hx | hx
        · exact h.le x hx
        · rw [List.mem_singleton.1 hx]; exact ⟨heb, e3⟩
  · exact h
end Go.Proofs.Ytogjnipojakfjaa.JJour

/- The journal: what its functions do to it. -/
namespace Go.Proofs.Ytogjnipojakfjaa.JJour
open Go.RowKit Go.Proofs.Ytogjnipojakfjaa.PJd Go.Proofs.YtogjnipojakfjaaW.PrintWords Go.Proofs.YtogjnipojakfjaaW.PrintLast Go.Proofs.YtogjnipojakfjaaW.PrintMore
open LSame (Byt)
open LChain (msgS tagS zeroT)
open DDev (Dev dev_below dev_kept dev_drewN dev_mono T8 TD heldN)
set_option linter.unusedVariables false
set_option linter.unusedSimpArgs false
theorem next.yes (gj gd : Nat) (n : Nat) (hn : n < 1000000) (tag key : List Int) (At Ak : Option Addr) (ct ck : Nat) (vl : Value) (e : Ent) (Ab : Option Addr) (cb : Nat) (m : List Int × Int) (hm : m = msgS tag ((n : Int) + 1) e.f0 e.f1) (h0 : m.2 = 0) (t : List Int) (ht : t = tagS key m.1) (W : World)
    (hg : W.heap[gj]? = some (.cells #[.int .i64 (n : Int), .slice At tag.length ct, .slice Ak key.length ck, .pointer (some ⟨gd, 0, none⟩), vl] TJ (0, 0)))
    (hct : tag.length ≤ ct) (hT : Kd.C (Kd.int .u8) W At tag.length tag) (hck : key.length ≤ ck) (hK : Kd.C (Kd.int .u8) W Ak key.length key) (hcb : e.f1.length ≤ cb) (hE : Kd.C (Kd.int .u8) W Ab e.f1.length e.f1)
    (hk : Byt key) (hkl : key.length ≤ 1000) (htb : Byt tag) (heb : Byt e.f1) :
    Calls Try.prog 36 #[.pointer (some ⟨gj, 0, none⟩), .agg #[.int .i64 e.f0, .slice Ab e.f1.length cb]] W fun x w' => ∃ A c, x = .returned (.tuple #[.slice A t.length c, .int .i64 0]) ∧ t.length ≤ c ∧ Kd.F (Kd.int .u8) w' (fun q => W.heap.size ≤ q) A t.length t ∧ Below W.heap.size W w' := by
  have h := next.calls gj gd n hn tag key At Ak ct ck vl e Ab cb m hm W hg hct hT hck hK hcb hE hk hkl htb heb
  rw [show nextT key m = t from (if_pos h0).trans ht.symm, h0] at h
  exact h
theorem next.no (gj gd : Nat) (n : Nat) (hn : n < 1000000) (tag key : List Int) (At Ak : Option Addr) (ct ck : Nat) (vl : Value) (e : Ent) (Ab : Option Addr) (cb : Nat) (m : List Int × Int) (hm : m = msgS tag ((n : Int) + 1) e.f0 e.f1) (h0 : m.2 ≠ 0) (W : World)
    (hg : W.heap[gj]? = some (.cells #[.int .i64 (n : Int), .slice At tag.length ct, .slice Ak key.length ck, .pointer (some ⟨gd, 0, none⟩), vl] TJ (0, 0)))
    (hct : tag.length ≤ ct) (hT : Kd.C (Kd.int .u8) W At tag.length tag) (hck : key.length ≤ ck) (hK : Kd.C (Kd.int .u8) W Ak key.length key) (hcb : e.f1.length ≤ cb) (hE : Kd.C (Kd.int .u8) W Ab e.f1.length e.f1)
    (hk : Byt key) (hkl : key.length ≤ 1000) (htb : Byt tag) (heb : Byt e.f1) :
    Calls Try.prog 36 #[.pointer (some ⟨gj, 0, none⟩), .agg #[.int .i64 e.f0, .slice Ab e.f1.length cb]] W fun x w' => ∃ A n c, x = .returned (.tuple #[.slice A n c, .int .i64 m.2]) ∧ Below W.heap.size W w' :=
  (next.calls gj gd n hn tag key At Ak ct ck vl e Ab cb m hm W hg hct hT hck hK hcb hE hk hkl htb heb).mono fun x w' ⟨A, c, h1, _, _, h2⟩ => ⟨A, _, c, h1, h2⟩
/-- what a change leaves: the state, the blocks that were not the journal's, what lay below -/
def Post (w0 W : World) (gj gd : Nat) (O : Nat → Prop) (s : St) (w' : World) : Prop := ∃ O', Jn w' w0.heap.size gj gd O' s ∧ Kept W w' O ∧ (∀ q, q < W.heap.size → O' q → O q) ∧ Below w0.heap.size w0 w'
theorem post_below {w0 W w' : World} {gj gd : Nat} {O : Nat → Prop} {s : St} (h : Jn W w0.heap.size gj gd O s) (HB : Below w0.heap.size w0 W) (hb : Below W.heap.size W w') : Post w0 W gj gd O s w' :=
  ⟨O, jn_below h hb, Kept.of_below hb O, fun _ _ h => h, HB.trans (hb.mono HB.size)⟩
theorem size0 (w w' : World) {n : Nat} (h : Below n w w') : w.heap.size ≤ w'.heap.size := h.size
/-- the new tag lies off what is written to -/
theorem tagF {W1 w2 w3 w4 : World} {W : World} {A : Option Addr} {t : List Int} {O O4 S : Nat → Prop} {B : Nat} (h : Kd.F (Kd.int .u8) w2 (fun q => W1.heap.size ≤ q) A t.length t) (hb : Below w2.heap.size w2 w3) (hk : Kept w3 w4 S) (ho : ∀ q, q < w3.heap.size → O4 q → O q) (hO : ∀ q, O q → B ≤ q ∧ q < W.heap.size) (hS : ∀ q, S q → O q) (h1 : W.heap.size ≤ W1.heap.size) (h2 : W1.heap.size ≤ w2.heap.size) : Kd.F (Kd.int .u8) w4 (fun q => ¬ O4 q) A t.length t :=
  Kd.F_mono (Kd.F_kept (Kd.F_below (Kd.F_bound h) hb) hk (fun q hq hs => by have := hO q (hS q hs); have := hq.1; omega)) (fun q hq h4 => by have := hO q (ho q (Nat.lt_of_lt_of_le hq.2 hb.size) h4); have := hq.1; omega)
set_option maxHeartbeats 8000000 in
set_option maxRecDepth 100000 in
theorem Append.calls (w0 : World) (gj gd : Nat) (O : Nat → Prop) (s : St) (hG : Good s) (e : Ent) (heb : Byt e.f1) (Ab : Option Addr) (cb : Nat) (W : World) (h : Jn W w0.heap.size gj gd O s) (HB : Below w0.heap.size w0 W) (hcb : e.f1.length ≤ cb) (hE : Kd.F (Kd.int .u8) W (fun q => ¬ O q) Ab e.f1.length e.f1) :
    Calls Try.prog 15 #[.pointer (some ⟨gj, 0, none⟩), .agg #[.int .i64 e.f0, .slice Ab e.f1.length cb]] W fun x w' => x = .returned (.int .i64 (appS s e).1) ∧ Post w0 W gj gd O (appS s e).2 w' := by
  have hn : s.n < 1000000 := by have := hG.nb; have := hG.b0; have := hG.r1; omega
  have hL : s.L.length < 1000000 := by have := hG.nl; omega
  have hown := jn_own h
  obtain ⟨vl, At, ct, Ak, ck, h1, h2, h3, h4, h5, h6⟩ := jn_blk h
  clear h6
  obtain ⟨m, hm⟩ : ∃ m, m = msgS s.tag ((s.n : Int) + 1) e.f0 e.f1 := ⟨_, rfl⟩
  obtain ⟨W1, hW1⟩ : ∃ W1 : World, W1 = W.alloc (.cells #[.int .i64 e.f0, .slice Ab e.f1.length cb] TE) := ⟨_, rfl⟩
  have hb1 : Below W.heap.size W W1 := by rw [hW1]; exact below_alloc (Below.refl _ _) _
  have hx1 : W1.heap[W.heap.size]? = some (.cells #[.int .i64 e.f0, .slice Ab e.f1.length cb] TE (0, 0)) := by rw [hW1]; exact blk_new _ _
  have hs1 : W1.heap.size = W.heap.size + 1 := by rw [hW1]; simp
  have x0 : W1.cell? ⟨W.heap.size, 0, none⟩ = some (.int .i64 e.f0) := (blk_cell hx1 0).trans rfl
  have x1 : W1.cell? ⟨W.heap.size, 1, none⟩ = some (.slice Ab e.f1.length cb) := (blk_cell hx1 1).trans rfl
  have HX1 := Aside0.mk hx1
  have HB1 := Aside0.mk hb1
  have HS1 := Aside0.mk hs1
  have HBG := Aside0.mk (blk_below h1 hb1)
  have HT := Aside0.mk (And.intro h2 (Kd.C_below h3 hb1))
  have HK := Aside0.mk (And.intro h4 (Kd.C_below h5 hb1))
  have HE := Aside0.mk (And.intro hcb hE)
  have HEC := Aside0.mk (Kd.C_below (Kd.F_now hE) hb1)
  have HG := Aside0.mk hG
  have HN := Aside0.mk (And.intro hn hL)
  have HO := Aside0.mk hown
  have HM := Aside0.mk hm
  have HEB := Aside0.mk heb
  have HJ := Aside0.mk h
  have HB0 := Aside0.mk HB
  clear hn hL hown h1 h2 h3 h4 h5 hb1 hx1 hs1 hm heb h HB hcb hE hG
  by_cases hm0 : m.2 = 0
  case neg =>
    have hap : appS s e = (m.2, s) := by unfold appS; rw [← HM.out, if_neg hm0]
    rw [hap]
    have e1 : (m.2 != 0) = true := bne_iff_ne.mpr hm0
    have e2 : (m.2 == 0) = false := beq_eq_false_iff_ne.mpr hm0
    have HM0 := Aside0.mk hm0
    clear hm0 hap
    go_enter Try.func15, Try.ntmps15
    go_upto_region 1 with (fail)
    try simp only [← hW1]
    clear hW1
    go_wp2_with (go_at_call 36; (with_reducible refine (next.no gj gd s.n HN.out.1 s.tag s.key At Ak ct ck vl e Ab cb m HM.out HM0.out _ (blk_below HBG.out (by with_reducible repeat (first | exact Below.refl _ _ | apply below_alloc | apply below_drew))) HT.out.1 (Kd.C_below HT.out.2 (by with_reducible repeat (first | exact Below.refl _ _ | apply below_alloc | apply below_drew))) HK.out.1 (Kd.C_below HK.out.2 (by with_reducible repeat (first | exact Below.refl _ _ | apply below_alloc | apply below_drew))) HE.out.1 (Kd.C_below HEC.out (by with_reducible repeat (first | exact Below.refl _ _ | apply below_alloc | apply below_drew))) HG.out.kb HG.out.kl HG.out.tb HEB.out).mono ?_); rintro x w2 ⟨A2, n2, c2, rfl, hb2⟩; (have HB2 : Aside0 (Below W1.heap.size W1 w2) := ⟨below_step (by with_reducible repeat (first | exact Below.refl _ _ | apply below_alloc | apply below_drew)) hb2⟩); clear hb2)
    go_ret
    exact ⟨rfl, post_below HJ.out HB0.out (HB1.out.trans (HB2.out.mono HB1.out.size))⟩
  case pos =>
    obtain ⟨t, ht⟩ : ∃ t, t = tagS s.key m.1 := ⟨_, rfl⟩
    obtain ⟨f, hf⟩ : ∃ f, f = (LEnt.frS e.f0 e.f1 t).1 := ⟨_, rfl⟩
    obtain ⟨vb, hd, hss, hst⟩ := jn_dev HJ.out
    have hmi := hm0
    rw [HM.out] at hmi
    obtain ⟨mb, ml⟩ := msg_fine s.tag ((s.n : Int) + 1) e.f0 e.f1 HG.out.tb HEB.out hmi
    rw [← HM.out] at mb ml
    obtain ⟨tl, tb, tu1, tu2⟩ := LChain.tagS_spec s.key m.1 HG.out.kb HG.out.kl mb (by omega)
    rw [← ht] at tl tb
    obtain ⟨i0, i1, i2, i3⟩ := msg_inv _ _ _ _ hmi
    obtain ⟨f0, fl, fb⟩ := frS_fine e t HEB.out tl tb ⟨i1, i2, i3⟩
    have hfr : entry_Frame.f e.f0 e.f1 t = some (f, 0) := by rw [LEnt.frame_ok, hf, ← f0]
    rw [← hf] at fl
    have HFR := Aside0.mk hfr
    have HTT := Aside0.mk ht
    have HFF := Aside0.mk hf
    have HD := Aside0.mk hd
    have HSS := Aside0.mk hss
    have HST := Aside0.mk hst
    have HBL : Aside0 (s.bs.length ≤ 65536) := ⟨by have := HG.out.b0; have := HG.out.r1; omega⟩
    have HFL : Aside0 (f.length ≤ 140737488351232) := ⟨by omega⟩
    have HEL : Aside0 (e.f1.length ≤ 100000) := ⟨by omega⟩
    have HM0 := Aside0.mk hm0
    clear hfr ht hd hss hst hm0 mb ml tl tb tu1 tu2 i0 i1 i2 i3 f0 fl fb hmi
    by_cases hfull : s.room - s.bs.length < f.length
    · have hap : appS s e = (28, s) := by unfold appS; rw [← HM.out, if_pos HM0.out, ← HTT.out, ← hf, if_pos hfull]
      rw [hap]
      have HFU := Aside0.mk hfull
      clear hf hfull hap
      go_enter Try.func15, Try.ntmps15
      go_upto_region 1 with (fail)
      try simp only [← hW1]
      clear hW1
      go_wp2_with (first | (go_at_call 36; (with_reducible refine (next.yes gj gd s.n HN.out.1 s.tag s.key At Ak ct ck vl e Ab cb m HM.out HM0.out t HTT.out _ (blk_below HBG.out (by with_reducible repeat (first | exact Below.refl _ _ | apply below_alloc | apply below_drew))) HT.out.1 (Kd.C_below HT.out.2 (by with_reducible repeat (first | exact Below.refl _ _ | apply below_alloc | apply below_drew))) HK.out.1 (Kd.C_below HK.out.2 (by with_reducible repeat (first | exact Below.refl _ _ | apply below_alloc | apply below_drew))) HE.out.1 (Kd.C_below HEC.out (by with_reducible repeat (first | exact Below.refl _ _ | apply below_alloc | apply below_drew))) HG.out.kb HG.out.kl HG.out.tb HEB.out).mono ?_); rintro x w2 ⟨A2, c2, rfl, hc2, hF2, hb2⟩; (have HB2 : Aside0 (Below W1.heap.size W1 w2) := ⟨below_step (by with_reducible repeat (first | exact Below.refl _ _ | apply below_alloc | apply below_drew)) hb2⟩); (have HF2 : Aside0 (Kd.F (Kd.int .u8) w2 (fun q => W1.heap.size ≤ q) A2 t.length t) := ⟨hF2⟩); (have HC2 := Aside0.mk hc2); (have a0 := pw_cell_below HB2.out x0); (have a1 := pw_cell_below HB2.out x1); clear hb2 hF2 hc2) | (go_at_call 41; (with_reducible refine (entry_Frame.calls e.f0 Ab cb e.f1 A2 c2 t f 0 _ (Kd.C_below (Kd.C_below HEC.out HB2.out) (by with_reducible repeat (first | exact Below.refl _ _ | apply below_alloc | apply below_drew))) HE.out.1 (Kd.C_below (Kd.F_now HF2.out) (by with_reducible repeat (first | exact Below.refl _ _ | apply below_alloc | apply below_drew))) HC2.out HFR.out).mono ?_); rintro x w3 ⟨v3, rfl, ho3, hb3⟩; (obtain ⟨A3, c3, rfl⟩ := Kd.R_slice ho3); (have HB3 : Aside0 (Below w2.heap.size w2 w3) := ⟨below_step (by with_reducible repeat (first | exact Below.refl _ _ | apply below_alloc | apply below_drew)) hb3⟩); (have HR3 : Aside0 (Kd.C (Kd.int .u8) w3 A3 f.length f) := ⟨(Kd.R_reads' ho3).2.2⟩); (have HW3 : Aside0 (Below W.heap.size W w3) := ⟨HB1.out.trans ((HB2.out.trans (HB3.out.mono HB2.out.size)).mono HB1.out.size)⟩); (have z3 : w3.cell? ⟨gj, 3, none⟩ = some (.pointer (some ⟨gd, 0, none⟩)) := (blk_cell (blk_below HBG.out (HB2.out.trans (HB3.out.mono HB2.out.size))) 3).trans rfl); clear ho3 hb3) | (go_at_call 17; (with_reducible refine (DDev.Append.no gd w0.heap.size (fun k => some k = vb.ownBlock) s.room s.sure s.bs vb A3 c3 f _ (dev_below HD.out (below_step HW3.out (by with_reducible repeat (first | exact Below.refl _ _ | apply below_alloc | apply below_drew)))) HG.out.r1 HBL.out HG.out.r0 HFL.out HFU.out).mono ?_); rintro x w4 ⟨rfl, ⟨nd, rfl⟩⟩))
      go_ret
      exact ⟨rfl, post_below HJ.out HB0.out (pw_below_drewN HW3.out nd)⟩
    · have hap : appS s e = (0, { s with n := s.n + 1, tag := t, L := s.L ++ [e], bs := s.bs ++ f }) := by unfold appS; rw [← HM.out, if_pos HM0.out, ← HTT.out, ← hf, if_neg hfull]
      rw [hap]
      have HFU := Aside0.mk hfull
      clear hf hfull hap
      go_enter Try.func15, Try.ntmps15
      go_upto_region 1 with (fail)
      try simp only [← hW1]
      clear hW1
      go_wp2_with (first | (go_at_call 36; (with_reducible refine (next.yes gj gd s.n HN.out.1 s.tag s.key At Ak ct ck vl e Ab cb m HM.out HM0.out t HTT.out _ (blk_below HBG.out (by with_reducible repeat (first | exact Below.refl _ _ | apply below_alloc | apply below_drew))) HT.out.1 (Kd.C_below HT.out.2 (by with_reducible repeat (first | exact Below.refl _ _ | apply below_alloc | apply below_drew))) HK.out.1 (Kd.C_below HK.out.2 (by with_reducible repeat (first | exact Below.refl _ _ | apply below_alloc | apply below_drew))) HE.out.1 (Kd.C_below HEC.out (by with_reducible repeat (first | exact Below.refl _ _ | apply below_alloc | apply below_drew))) HG.out.kb HG.out.kl HG.out.tb HEB.out).mono ?_); rintro x w2 ⟨A2, c2, rfl, hc2, hF2, hb2⟩; (have HB2 : Aside0 (Below W1.heap.size W1 w2) := ⟨below_step (by with_reducible repeat (first | exact Below.refl _ _ | apply below_alloc | apply below_drew)) hb2⟩); (have HF2 : Aside0 (Kd.F (Kd.int .u8) w2 (fun q => W1.heap.size ≤ q) A2 t.length t) := ⟨hF2⟩); (have HC2 := Aside0.mk hc2); (have a0 := pw_cell_below HB2.out x0); (have a1 := pw_cell_below HB2.out x1); clear hb2 hF2 hc2) | (go_at_call 41; (with_reducible refine (entry_Frame.calls e.f0 Ab cb e.f1 A2 c2 t f 0 _ (Kd.C_below (Kd.C_below HEC.out HB2.out) (by with_reducible repeat (first | exact Below.refl _ _ | apply below_alloc | apply below_drew))) HE.out.1 (Kd.C_below (Kd.F_now HF2.out) (by with_reducible repeat (first | exact Below.refl _ _ | apply below_alloc | apply below_drew))) HC2.out HFR.out).mono ?_); rintro x w3 ⟨v3, rfl, ho3, hb3⟩; (obtain ⟨A3, c3, rfl⟩ := Kd.R_slice ho3); (have HB3 : Aside0 (Below w2.heap.size w2 w3) := ⟨below_step (by with_reducible repeat (first | exact Below.refl _ _ | apply below_alloc | apply below_drew)) hb3⟩); (have HR3 : Aside0 (Kd.C (Kd.int .u8) w3 A3 f.length f) := ⟨(Kd.R_reads' ho3).2.2⟩); (have HW3 : Aside0 (Below W.heap.size W w3) := ⟨HB1.out.trans ((HB2.out.trans (HB3.out.mono HB2.out.size)).mono HB1.out.size)⟩); (have z3 : w3.cell? ⟨gj, 3, none⟩ = some (.pointer (some ⟨gd, 0, none⟩)) := (blk_cell (blk_below HBG.out (HB2.out.trans (HB3.out.mono HB2.out.size))) 3).trans rfl); clear ho3 hb3) | (go_at_call 17; (with_reducible refine (DDev.Append.yes gd (fun k => some k = vb.ownBlock) s.room s.sure s.bs vb A3 c3 f w0 _ (dev_below HD.out (below_step HW3.out (by with_reducible repeat (first | exact Below.refl _ _ | apply below_alloc | apply below_drew)))) (below_step (HB0.out.trans (HW3.out.mono HB0.out.size)) (by with_reducible repeat (first | exact Below.refl _ _ | apply below_alloc | apply below_drew | apply pw_below_drewN))) (Kd.C_below HR3.out (by with_reducible repeat (first | exact Below.refl _ _ | apply below_alloc | apply below_drew))) HG.out.r1 HBL.out HG.out.r0 (by have := HFU.out; omega)).mono ?_); rintro x w4 ⟨rfl, v4, hd4, hk4, hb4⟩; (have hk4' : Kept w3 w4 (fun k => k = gd ∨ some k = vb.ownBlock) := hk4); (have hx4 : w4.heap[W.heap.size]? = some (.cells #[.int .i64 e.f0, .slice Ab e.f1.length cb] TE (0, 0)) := blk_kept (blk_below HX1.out (HB2.out.trans (HB3.out.mono HB2.out.size))) hk4' (fun hq => Nat.lt_irrefl _ (HO.out _ (HSS.out _ hq)).2)); (have y0 : w4.cell? ⟨W.heap.size, 0, none⟩ = some (.int .i64 e.f0) := (blk_cell hx4 0).trans rfl); (have y1 : w4.cell? ⟨W.heap.size, 1, none⟩ = some (.slice Ab e.f1.length cb) := (blk_cell hx4 1).trans rfl); (obtain ⟨O4, hj4, ho4⟩ := HST.out w3 HW3.out w4 v4 (s.bs ++ f) s.sure _ hd4 hk4' (fun k hk => hd4.2.2.2.1 k hk)); (have HJ4 := Aside0.mk hj4); (have HO4 := Aside0.mk ho4); (have HK4 := Aside0.mk hk4'); (have HB4 := Aside0.mk hb4); clear hd4 hk4 hk4' hb4 hx4 hj4 ho4) | (go_at_call 38; (with_reducible refine (take.calls w0.heap.size gj gd O4 { s with sure := s.sure, bs := s.bs ++ f } HN.out.1 HN.out.2 e HEL.out Ab cb t A2 c2 _ (jn_below HJ4.out (by with_reducible repeat (first | exact Below.refl _ _ | apply below_alloc | apply below_drew))) (Nat.le_trans HB4.out.size (size0 (n := w4.heap.size) w4 _ (by with_reducible repeat (first | exact Below.refl _ _ | apply below_alloc | apply below_drew)))) HE.out.1 (Kd.C_below (Kd.F_now (Kd.F_kept (Kd.F_below HE.out.2 HW3.out) HK4.out (fun q hq hS => absurd (HSS.out q hS) hq))) (by with_reducible repeat (first | exact Below.refl _ _ | apply below_alloc | apply below_drew))) HC2.out (Kd.F_below (tagF HF2.out HB3.out HK4.out HO4.out HO.out HSS.out HB1.out.size HB2.out.size) (by with_reducible repeat (first | exact Below.refl _ _ | apply below_alloc | apply below_drew)))).mono ?_); rintro x w5 ⟨rfl, O5, hj5, hk5, ho5, hb5⟩; (have HJ5 := Aside0.mk hj5); (have HK5 : Aside0 (Kept w4 w5 O4) := ⟨hk5⟩); (have HO5 : Aside0 (∀ q, q < w4.heap.size → O5 q → O4 q) := ⟨ho5⟩); (have HB5 : Aside0 (Below w0.heap.size w4 w5) := ⟨hb5⟩); clear hj5 hk5 ho5 hb5))
      go_ret
      have h34 : w3.heap.size ≤ w4.heap.size := HK4.out.1
      have h03 : W.heap.size ≤ w3.heap.size := HW3.out.size
      refine ⟨rfl, O5, HJ5.out, ?_, fun q hq h => HO4.out q (by omega) (HO5.out q (by omega) h), HB4.out.trans HB5.out⟩
      refine Kept.then_ (Kept.then_ (Kept.of_below HW3.out O) HK4.out (fun k hk => .inl (HSS.out k hk))) HK5.out (fun k hk => ?_)
      by_cases hkk : k < w3.heap.size
      · exact .inl (HO4.out k hkk hk)
      · exact .inr (by omega)
end Go.Proofs.Ytogjnipojakfjaa.JJour

/- The journal: what its functions do to it. -/
namespace Go.Proofs.Ytogjnipojakfjaa.JJour
open Go.RowKit Go.Proofs.Ytogjnipojakfjaa.PJd Go.Proofs.YtogjnipojakfjaaW.PrintWords Go.Proofs.YtogjnipojakfjaaW.PrintLast Go.Proofs.YtogjnipojakfjaaW.PrintMore
open LSame (Byt)
open LChain (msgS tagS zeroT)
open DDev (Dev dev_below dev_kept dev_drewN dev_mono T8 TD heldN)
set_option linter.unusedVariables false
set_option linter.unusedSimpArgs false
set_option maxHeartbeats 4000000 in
theorem Count.calls (B gj gd : Nat) (O : Nat → Prop) (s : St) (W : World) (h : Jn W B gj gd O s) :
    Calls Try.prog 14 #[.pointer (some ⟨gj, 0, none⟩)] W fun x w' => x = .returned (.int .i64 (s.n : Int)) ∧ W = w' := by
  obtain ⟨vl, At, ct, Ak, ck, h1, h2, h3, h4, h5, h6⟩ := jn_blk h
  have z0 : W.cell? ⟨gj, 0, none⟩ = some (.int .i64 (s.n : Int)) := (blk_cell h1 0).trans rfl
  clear h h1 h2 h3 h4 h5 h6
  go_enter Try.func14, Try.ntmps14
  go_wp2
  go_ret
  exact ⟨rfl, rfl⟩
set_option maxHeartbeats 4000000 in
theorem Tag.calls (B gj gd : Nat) (O : Nat → Prop) (s : St) (hl : s.tag.length ≤ 65536) (W : World) (h : Jn W B gj gd O s) :
    Calls Try.prog 13 #[.pointer (some ⟨gj, 0, none⟩)] W fun x w' => ∃ A c, x = .returned (.slice A s.tag.length c) ∧ s.tag.length ≤ c ∧ Kd.F (Kd.int .u8) w' (fun q => W.heap.size ≤ q) A s.tag.length s.tag ∧ Below W.heap.size W w' := by
  obtain ⟨vl, At, ct, Ak, ck, h1, h2, h3, h4, h5, h6⟩ := jn_blk h
  have z1 : W.cell? ⟨gj, 1, none⟩ = some (.slice At s.tag.length ct) := (blk_cell h1 1).trans rfl
  have HF : Aside0 (slices_Clone_byte_byte.f s.tag = some s.tag) := ⟨by unfold slices_Clone_byte_byte.f; rw [if_pos (by omega)]⟩
  have HC := Aside0.mk (And.intro h2 h3)
  clear h h1 h2 h3 h4 h5 h6 hl
  go_enter Try.func13, Try.ntmps13
  go_wp2_with (go_at_call 33; (with_reducible refine (slices_Clone_byte_byte.calls At ct s.tag s.tag _ (Kd.C_below HC.out.2 (by with_reducible repeat (first | exact Below.refl _ _ | apply below_alloc | apply below_drew))) HC.out.1 HF.out).mono ?_); rintro x w2 ⟨v2, rfl, ho2, hb2⟩; (obtain ⟨A2, c2, rfl⟩ := Kd.R_slice ho2); (have HO2 := Aside0.mk ho2); (have HB2 : Aside0 (Below W.heap.size W w2) := ⟨below_step (by with_reducible repeat (first | exact Below.refl _ _ | apply below_alloc | apply below_drew)) hb2⟩); clear ho2 hb2)
  go_ret
  exact ⟨A2, c2, rfl, (Kd.R_reads' HO2.out).2.1, Kd.F_mono (Kd.R_F (Kd.R_bound HO2.out)) (fun q hq => hq.2.1), HB2.out⟩
set_option maxHeartbeats 4000000 in
theorem Log.calls (w0 : World) (gj gd : Nat) (O : Nat → Prop) (s : St) (hl : s.bs.length ≤ 65536) (W : World) (h : Jn W w0.heap.size gj gd O s) :
    Calls Try.prog 12 #[.pointer (some ⟨gj, 0, none⟩)] W fun x w' => ∃ A c, x = .returned (.slice A s.bs.length c) ∧ s.bs.length ≤ c ∧ Kd.F (Kd.int .u8) w' (fun q => W.heap.size ≤ q) A s.bs.length s.bs ∧ Below W.heap.size W w' := by
  obtain ⟨vl, At, ct, Ak, ck, h1, h2, h3, h4, h5, h6⟩ := jn_blk h
  obtain ⟨vb, hd, hS, hst⟩ := jn_dev h
  have z3 : W.cell? ⟨gj, 3, none⟩ = some (.pointer (some ⟨gd, 0, none⟩)) := (blk_cell h1 3).trans rfl
  have HD := Aside0.mk hd
  have HL := Aside0.mk hl
  clear h h1 h2 h3 h4 h5 h6 hd hS hst hl
  go_enter Try.func12, Try.ntmps12
  go_wp2_with (go_at_call 34; (with_reducible refine (DDev.Bytes.calls gd w0.heap.size _ s.room s.sure s.bs vb _ (dev_below HD.out (by with_reducible repeat (first | exact Below.refl _ _ | apply below_alloc | apply below_drew))) HL.out).mono ?_); rintro x w2 ⟨v2, rfl, ho2, hb2⟩; (obtain ⟨A2, c2, rfl⟩ := Kd.R_slice ho2); (have HO2 := Aside0.mk ho2); (have HB2 : Aside0 (Below W.heap.size W w2) := ⟨below_step (by with_reducible repeat (first | exact Below.refl _ _ | apply below_alloc | apply below_drew)) hb2⟩); clear ho2 hb2)
  go_ret
  exact ⟨A2, c2, rfl, (Kd.R_reads' HO2.out).2.1, Kd.F_mono (Kd.R_F (Kd.R_bound HO2.out)) (fun q hq => hq.2.1), HB2.out⟩
set_option maxHeartbeats 4000000 in
theorem Sync.calls (w0 : World) (gj gd : Nat) (O : Nat → Prop) (s : St) (W : World) (h : Jn W w0.heap.size gj gd O s) (HB : Below w0.heap.size w0 W) :
    Calls Try.prog 24 #[.pointer (some ⟨gj, 0, none⟩)] W fun x w' => x = .returned (.tuple #[]) ∧ Post w0 W gj gd O { s with sure := s.bs.length } w' := by
  obtain ⟨vl, At, ct, Ak, ck, h1, h2, h3, h4, h5, h6⟩ := jn_blk h
  obtain ⟨vb, hd, hS, hst⟩ := jn_dev h
  have z3 : W.cell? ⟨gj, 3, none⟩ = some (.pointer (some ⟨gd, 0, none⟩)) := (blk_cell h1 3).trans rfl
  have HD := Aside0.mk hd
  have HS := Aside0.mk hS
  have HST := Aside0.mk hst
  have HB0 := Aside0.mk HB
  clear h h1 h2 h3 h4 h5 h6 hd hS hst HB
  go_enter Try.func24, Try.ntmps24
  go_wp2_with (go_at_call 47; (with_reducible refine (DDev.Sync.calls gd w0.heap.size _ s.room s.sure s.bs vb w0 W HD.out).mono ?_); rintro x w2 ⟨rfl, hw2⟩; (have HW2 := Aside0.mk hw2); clear hw2)
  go_end0
  have hk : Kept W w2 (fun k => k = gd ∨ some k = vb.ownBlock) := by rw [HW2.out]; exact Kept.setCell (Kept.refl _ _) (.inl (.inl rfl)) _
  obtain ⟨O2, hj, ho⟩ := HST.out W (Below.refl _ _) w2 vb s.bs s.bs.length _ (by rw [HW2.out]; exact DDev.dev_sure HD.out _) hk (fun k hk => .inl hk.symm)
  exact ⟨rfl, O2, hj, hk.mono HS.out, ho, by rw [HW2.out]; exact below_set HB0.out HD.out.2.1⟩
/-! ### no journal -/
theorem nil_Sync (w : World) : Calls Try.prog 24 #[.pointer none] w fun e w' => e = .returned (.tuple #[]) ∧ w = w' := by
  go_enter Try.func24, Try.ntmps24
  go_wp2
  go_end0
  exact ⟨rfl, rfl⟩
theorem nil_Append (k : Int) (A : Option Addr) (n c : Nat) (w : World) : Calls Try.prog 15 #[.pointer none, .agg #[.int .i64 k, .slice A n c]] w fun e w' => e = .returned (.int .i64 14) ∧ Below w.heap.size w w' := by
  go_enter Try.func15, Try.ntmps15
  go_wp2
  go_ret
  exact ⟨rfl, below_alloc (Below.refl _ _) _⟩
theorem nil_Count (w : World) : Calls Try.prog 14 #[.pointer none] w fun e w' => e = .returned (.int .i64 0) ∧ w = w' := by
  go_enter Try.func14, Try.ntmps14
  go_wp2
  go_ret
  exact ⟨rfl, rfl⟩
theorem nil_Log (w : World) : Calls Try.prog 12 #[.pointer none] w fun e w' => e = .returned (.slice none 0 0) ∧ w = w' := by
  go_enter Try.func12, Try.ntmps12
  go_wp2
  go_ret
  exact ⟨rfl, rfl⟩
theorem nil_Entries (w : World) : Calls Try.prog 25 #[.pointer none] w fun e w' => e = .returned (.slice none 0 0) ∧ w = w' := by
  go_enter Try.func25, Try.ntmps25
  go_wp2
  go_ret
  exact ⟨rfl, rfl⟩
theorem nil_Tag (w : World) : Calls Try.prog 13 #[.pointer none] w fun e w' => ∃ A c, e = .returned (.slice A zeroT.length c) ∧ zeroT.length ≤ c ∧ Kd.C (Kd.int .u8) w' A zeroT.length zeroT ∧ Below w.heap.size w w' := by
  go_enter Try.func13, Try.ntmps13
  go_wp2_with (go_at_call 32; (with_reducible refine (chain_First.calls zeroT _ LChain.first_ok).mono ?_); rintro x w2 ⟨v2, rfl, ho2, hb2⟩; (obtain ⟨A2, c2, rfl⟩ := Kd.R_slice ho2); (have HO2 := Aside0.mk ho2); (have HB2 : Aside0 (Below w.heap.size w w2) := ⟨below_step (by with_reducible repeat (first | exact Below.refl _ _ | apply below_alloc | apply below_drew)) hb2⟩); clear ho2 hb2)
  go_ret
  exact ⟨A2, c2, rfl, (Kd.R_reads' HO2.out).2.1, (Kd.R_reads' HO2.out).2.2, HB2.out⟩
end Go.Proofs.Ytogjnipojakfjaa.JJour
