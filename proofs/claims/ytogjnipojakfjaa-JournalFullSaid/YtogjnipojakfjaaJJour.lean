/- The journal: its state, and what its functions do to it. -/
import Derived.StillTailTactics
import Derived.IntWalk
import Derived.WalkSpells
import Derived.Outline
import Derived.Deep.RegionLawGrows
import Derived.Test.YtogjnipojakfjaaDDev
import Derived.Test.YtogjnipojakfjaaLChain2
import Derived.Test.YtogjnipojakfjaaPJnx3
import Derived.Test.YtogjnipojakfjaaPJnx4
import Derived.Test.YtogjnipojakfjaaPJnx5
namespace Go.Proofs.Ytogjnipojakfjaa.JJour
open Go.RowKit Go.Proofs.Ytogjnipojakfjaa.PJn Go.Proofs.YtogjnipojakfjaaW.PrintWords Go.Proofs.YtogjnipojakfjaaW.PrintLast Go.Proofs.YtogjnipojakfjaaW.PrintMore
open LSame (Byt)
open LChain (msgS tagS zeroT)
open DDev (Dev dev_below dev_kept dev_drewN dev_mono T8 TD heldN)
set_option linter.unusedVariables false
set_option linter.unusedSimpArgs false
abbrev Ent := S35
abbrev kE := k35
abbrev TE : Nat := 35
abbrev TJ : Nat := 68
/-- what a journal holds -/
structure St where
  room : Int
  sure : Int
  bs : List Int
  n : Nat
  tag : List Int
  key : List Int
  L : List Ent
/-- a journal's block gj, its device's block gd; O: the blocks that it writes to -/
def Jn (W : World) (B gj gd : Nat) (O : Nat → Prop) (s : St) : Prop :=
  ∃ vb vl At ct Ak ck, W.heap[gj]? = some (.cells #[.int .i64 (s.n : Int), .slice At s.tag.length ct, .slice Ak s.key.length ck, .pointer (some ⟨gd, 0, none⟩), vl] TJ (0, 0)) ∧
    Dev W B gd (fun k => some k = vb.ownBlock) s.room s.sure s.bs vb ∧ B ≤ gj ∧
    Kd.N kE TE W B (fun q => B ≤ q ∧ q ≠ gj ∧ q ≠ gd ∧ some q ≠ vb.ownBlock) vl s.L ∧
    (s.tag.length ≤ ct ∧ Kd.F (Kd.int .u8) W (fun q => ¬ O q) At s.tag.length s.tag) ∧ (s.key.length ≤ ck ∧ Kd.F (Kd.int .u8) W (fun q => ¬ O q) Ak s.key.length s.key) ∧
    ∀ q, O q ↔ q = gj ∨ q = gd ∨ some q = vb.ownBlock ∨ some q = vl.ownBlock
theorem jn_below {W W1 : World} {B gj gd : Nat} {O : Nat → Prop} {s : St} (h : Jn W B gj gd O s) (hb : Below W.heap.size W W1) : Jn W1 B gj gd O s := by
  obtain ⟨vb, vl, At, ct, Ak, ck, h1, h2, h3, h4, ⟨h5, h6⟩, ⟨h7, h8⟩, h9⟩ := h
  exact ⟨vb, vl, At, ct, Ak, ck, blk_below h1 hb, dev_below h2 hb, h3, Kd.N_below h4 hb, ⟨h5, Kd.F_below h6 hb⟩, ⟨h7, Kd.F_below h8 hb⟩, h9⟩
theorem jn_own {W : World} {B gj gd : Nat} {O : Nat → Prop} {s : St} (h : Jn W B gj gd O s) : ∀ q, O q → B ≤ q ∧ q < W.heap.size := by
  obtain ⟨vb, vl, At, ct, Ak, ck, h1, h2, h3, h4, _, _, h9⟩ := h
  intro q hq
  rcases (h9 q).1 hq with rfl | rfl | he | he
  · exact ⟨h3, blk_lt h1⟩
  · exact ⟨h2.2.1, DDev.dev_lt h2⟩
  · exact ⟨own_base h2.2.2.2.2.choose_spec.1 q he.symm, own_lt h2.2.2.2.2.choose_spec.1 q he.symm⟩
  · exact ⟨Kd.N_base h4 q he.symm, Kd.N_lt h4 q he.symm⟩
theorem dev_tight {W : World} {B g : Nat} {O : Nat → Prop} {room sure : Int} {bs : List Int} {v : Value} (h : Dev W B g O room sure bs v) : Dev W B g (fun k => some k = v.ownBlock) room sure bs v :=
  ⟨h.1, h.2.1, fun e => h.2.2.1 (h.2.2.2.1 g e.symm), fun k hk => hk.symm, h.2.2.2.2.imp_ (fun _ _ hp => hp)⟩
theorem payS_inv (k : Int) (b : List Int) (h : (LEnt.payS k b).2 = 0) : 1 ≤ k ∧ k ≤ 3 ∧ b.length ≤ 1024 := by
  unfold LEnt.payS at h
  split at h
  · split at h
    · simp at h
    · rename_i h1 h2
      exact ⟨h1.1, h1.2, by omega⟩
  · simp at h
theorem msg_inv (a : List Int) (n k : Int) (b : List Int) (h : (msgS a n k b).2 = 0) : a.length = 32 ∧ 1 ≤ k ∧ k ≤ 3 ∧ b.length ≤ 1024 := by
  unfold msgS at h
  split at h
  · rename_i h1
    split at h
    · rename_i h2
      exact ⟨h1, payS_inv k b h2⟩
    · rename_i h2
      exact absurd h h2
  · simp at h
theorem msg_fine (a : List Int) (n k : Int) (b : List Int) (ha : Byt a) (hb : Byt b) (h : (msgS a n k b).2 = 0) : Byt (msgS a n k b).1 ∧ (msgS a n k b).1.length ≤ 2000 := by
  obtain ⟨h1, h2, h3, h4⟩ := msg_inv a n k b h
  obtain ⟨r1, r2, _⟩ := LChain.msgS_byt a n (⟨k, b⟩, a) ⟨h2, h3, h4, hb, h1, ha⟩ ha h1
  exact ⟨r1, r2⟩
/-- what stands in a journal's block -/
def cellsJ (n : Nat) (At : Option Addr) (tag : List Int) (ct : Nat) (Ak : Option Addr) (key : List Int) (ck : Nat) (gd : Nat) (vl : Value) : Array Value :=
  #[.int .i64 (n : Int), .slice At tag.length ct, .slice Ak key.length ck, .pointer (some ⟨gd, 0, none⟩), vl]
noncomputable def nextT (key : List Int) (m : List Int × Int) : List Int := open Classical in if m.2 = 0 then tagS key m.1 else []
set_option maxHeartbeats 8000000 in
set_option maxRecDepth 100000 in
theorem next.calls (gj gd : Nat) (n : Nat) (hn : n < 1000000) (tag key : List Int) (At Ak : Option Addr) (ct ck : Nat) (vl : Value) (e : Ent) (Ab : Option Addr) (cb : Nat) (m : List Int × Int) (hm : m = msgS tag ((n : Int) + 1) e.f0 e.f1) (W : World)
    (hg : W.heap[gj]? = some (.cells #[.int .i64 (n : Int), .slice At tag.length ct, .slice Ak key.length ck, .pointer (some ⟨gd, 0, none⟩), vl] TJ (0, 0)))
    (hct : tag.length ≤ ct) (hT : Kd.C (Kd.int .u8) W At tag.length tag) (hck : key.length ≤ ck) (hK : Kd.C (Kd.int .u8) W Ak key.length key) (hcb : e.f1.length ≤ cb) (hE : Kd.C (Kd.int .u8) W Ab e.f1.length e.f1)
    (hk : Byt key) (hkl : key.length ≤ 1000) (htb : Byt tag) (heb : Byt e.f1) :
    Calls Try.prog 36 #[.pointer (some ⟨gj, 0, none⟩), .agg #[.int .i64 e.f0, .slice Ab e.f1.length cb]] W fun x w' => ∃ A c, x = .returned (.tuple #[.slice A (nextT key m).length c, .int .i64 m.2]) ∧ (nextT key m).length ≤ c ∧ Kd.F (Kd.int .u8) w' (fun q => W.heap.size ≤ q) A (nextT key m).length (nextT key m) ∧ Below W.heap.size W w' := by
  obtain ⟨k1, hk1⟩ := Ev.rounds (LChain.message_ev tag ((n : Int) + 1) (by omega) (by omega) e.f0 e.f1)
  rw [← hm] at hk1
  have hfine := fun h0 => msg_fine tag ((n : Int) + 1) e.f0 e.f1 htb heb h0
  rw [← hm] at hfine
  obtain ⟨W1, hW1⟩ : ∃ W1 : World, W1 = W.alloc (.cells #[.int .i64 e.f0, .slice Ab e.f1.length cb] TE) := ⟨_, rfl⟩
  have hb1 : Below W.heap.size W W1 := by rw [hW1]; exact below_alloc (Below.refl _ _) _
  have hx1 : W1.heap[W.heap.size]? = some (.cells #[.int .i64 e.f0, .slice Ab e.f1.length cb] TE (0, 0)) := by rw [hW1]; exact blk_new _ _
  have hw : IntKind.u64.wrap (n : Int) = (n : Int) := by rw [LSame.u64w]; omega
  have hw2 : IntKind.u64.wrap ((n : Int) + 1) = (n : Int) + 1 := by rw [LSame.u64w]; omega
  have HB1 := Aside0.mk hb1
  have HX1 := Aside0.mk hx1
  have HG := Aside0.mk hg
  have HG1 := Aside0.mk (blk_below hg hb1)
  have z0 : W1.cell? ⟨gj, 0, none⟩ = some (.int .i64 (n : Int)) := (blk_cell HG1.out 0).trans rfl
  have z1 : W1.cell? ⟨gj, 1, none⟩ = some (.slice At tag.length ct) := (blk_cell HG1.out 1).trans rfl
  have x0 : W1.cell? ⟨W.heap.size, 0, none⟩ = some (.int .i64 e.f0) := (blk_cell hx1 0).trans rfl
  have x1 : W1.cell? ⟨W.heap.size, 1, none⟩ = some (.slice Ab e.f1.length cb) := (blk_cell hx1 1).trans rfl
  have HCT := Aside0.mk hct
  have HT := Aside0.mk (Kd.C_below hT hb1)
  have HCK := Aside0.mk hck
  have HK := Aside0.mk (Kd.C_below hK hb1)
  have HCB := Aside0.mk hcb
  have HE := Aside0.mk (Kd.C_below hE hb1)
  have HKK := Aside0.mk hk1
  have HM := Aside0.mk hm
  have HF := Aside0.mk hfine
  have HBY := Aside0.mk (And.intro hk hkl)
  clear hg hb1 hx1 hct hT hck hK hcb hE hk1 hm hfine hk hkl htb heb
  obtain ⟨r1, r2⟩ := m
  have hu := Try.underlying35
  go_enter Try.func36, Try.ntmps36
  go_upto_region 1 with (fail)
  try simp only [← hW1]
  clear hW1
  go_region_held3 (fun w' => w'.cell? ⟨gj, 0, none⟩ = some (.int .i64 (n : Int)) ∧ w'.cell? ⟨gj, 1, none⟩ = some (.slice At tag.length ct) ∧ w'.cell? ⟨W.heap.size, 0, none⟩ = some (.int .i64 e.f0) ∧ w'.cell? ⟨W.heap.size, 1, none⟩ = some (.slice Ab e.f1.length cb)) (first | exact ⟨z0, z1, x0, x1⟩ | exact ⟨pw_cell_below HB5.out z0, pw_cell_below HB5.out z1, pw_cell_below HB5.out x0, pw_cell_below HB5.out x1⟩ | go_keep) (first | (go_at_call 54; (with_reducible refine (chain_Message.calls k1 At ct tag ((n : Int) + 1) e.f0 Ab cb e.f1 r1 r2 _ (Kd.C_below HT.out (by with_reducible repeat (first | exact Below.refl _ _ | apply below_alloc | apply below_drew))) HCT.out (Kd.C_below HE.out (by with_reducible repeat (first | exact Below.refl _ _ | apply below_alloc | apply below_drew))) HCB.out HKK.out).mono ?_); rintro e5 w5 ⟨v5, rfl, ho5, hb5⟩; (obtain ⟨A5, c5, rfl⟩ := Kd.R_slice ho5); (have hb5' : Below W1.heap.size W1 w5 := below_step (by with_reducible repeat (first | exact Below.refl _ _ | apply below_alloc | apply below_drew)) hb5); (have HB5 := Aside0.mk hb5'); (have HO5 := Aside0.mk ho5); clear ho5 hb5 hb5'))
  rename_i hHeld
  have HB6 : Aside0 (Below W1.heap.size W1 w5) := HB5
  have HC6 : Aside0 (Kd.C (Kd.int .u8) w5 A5 r1.length r1) := ⟨(Kd.R_reads' HO5.out).2.2⟩
  have HL6 : Aside0 (r1.length ≤ c5) := ⟨(Kd.R_reads' HO5.out).2.1⟩
  clear hHeld HB5 HO5 z0 z1 x0 x1
  generalize w5 = w6 at HB6 HC6 ⊢
  have z2 : w6.cell? ⟨gj, 2, none⟩ = some (.slice Ak key.length ck) := (blk_cell (blk_below HG1.out HB6.out) 2).trans rfl
  by_cases h0 : r2 = 0
  · subst h0
    obtain ⟨tl, tb, te, tu⟩ := LChain.tagS_spec key r1 HBY.out.1 HBY.out.2 (HF.out rfl).1 (by have := (HF.out rfl).2; exact Nat.le_trans this (by decide))
    obtain ⟨k2, hk2⟩ := Ev.rounds te
    have HK2 := Aside0.mk hk2
    clear hk2 te tl tb tu
    go_wp2_with (go_at_call 55; (with_reducible refine (hmac_Tag.calls k2 Ak ck key A5 c5 r1 (tagS key r1) _ (Kd.C_below (Kd.C_below HK.out HB6.out) (by with_reducible repeat (first | exact Below.refl _ _ | apply below_alloc | apply below_drew))) HCK.out (Kd.C_below HC6.out (by with_reducible repeat (first | exact Below.refl _ _ | apply below_alloc | apply below_drew))) HL6.out HK2.out).mono ?_); rintro e7 w7 ⟨v7, rfl, ho7, hb7⟩; (obtain ⟨A7, c7, rfl⟩ := Kd.R_slice ho7); (have HB7 : Aside0 (Below w6.heap.size w6 w7) := ⟨below_step (by with_reducible repeat (first | exact Below.refl _ _ | apply below_alloc | apply below_drew)) hb7⟩); (have HO7 : Aside0 (Kd.R (Kd.int .u8) T8 w7 w6.heap.size (fun _ => True) (.slice A7 (tagS key r1).length c7) (tagS key r1)) := ⟨ho7⟩); clear ho7 hb7)
    go_ret2
    have hsz : W.heap.size ≤ w6.heap.size := Nat.le_trans HB1.out.size HB6.out.size
    rw [show nextT key (r1, 0) = tagS key r1 from if_pos rfl]
    exact ⟨A7, c7, rfl, (Kd.R_reads' HO7.out).2.1, Kd.F_mono (Kd.R_F (Kd.R_bound HO7.out)) (fun q hq => Nat.le_trans hsz hq.2.1), (HB1.out.trans (HB6.out.mono HB1.out.size)).trans (HB7.out.mono hsz)⟩
  · have hne : (r2 != 0) = true := bne_iff_ne.mpr h0
    have hne2 : (r2 == 0) = false := beq_eq_false_iff_ne.mpr h0
    have hnt : nextT key (r1, r2) = [] := if_neg h0
    have HNT := Aside0.mk hnt
    clear h0 hnt
    go_wp2
    go_ret2
    rw [HNT.out]
    exact ⟨none, 0, rfl, Nat.le_refl _, Kd.F_nil _ _ _, HB1.out.trans (HB6.out.mono HB1.out.size)⟩
end Go.Proofs.Ytogjnipojakfjaa.JJour
