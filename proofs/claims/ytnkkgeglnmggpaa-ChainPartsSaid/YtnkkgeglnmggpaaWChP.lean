/- The law of logs of one tag, for every input of its row. -/
import Derived.StillTailTactics
import Derived.IntWalk
import Derived.WalkSpells
import Derived.Outline
import Derived.Test.YtnkkgeglnmggpaaLParts
import Derived.Test.YtnkkgeglnmggpaaLChain3
import Derived.Test.YtnkkgeglnmggpaaSOpen
import Derived.Test.YtnkkgeglnmggpaaPCpx5
import Derived.Test.YtnkkgeglnmggpaaPCpx6
namespace Go.Proofs.Ytnkkgeglnmggpaa.Walk
set_option linter.unusedVariables false
set_option linter.unusedSimpArgs false
open Go.RowKit Go.Proofs.Ytnkkgeglnmggpaa.PCp Go.Proofs.Ytnkkgeglnmggpaa.SOpen Go.Proofs.YtnkkgeglnmggpaaW.PrintWords Go.Proofs.YtnkkgeglnmggpaaW.PrintLast Go.Proofs.YtnkkgeglnmggpaaW.PrintMore
open LChain (Ent parts msgAt cat Oks zeroT)
open LSame (Byt)
theorem opBytes : SOpen.Op Try.prog 22 (Kd.slice 5 (Kd.int .u8)) (fun l => l.length ≤ maxLen ∧ ∀ x ∈ l, (Lit.int .u8 x).wf = true) :=
  op_mono (op_slice Try.underlying22 (by kernel_rfl) (op_int Try.underlying5)) (fun _ h => h)
theorem opEntry : SOpen.Op Try.prog 42 k42 (fun x => ∀ b ∈ x.f1, (Lit.int .u8 b).wf = true) :=
  op_mono (op_struct _ (fun p => ⟨p.1, p.2⟩) (fun _ => rfl) Try.underlying42 (by kernel_rfl) (fun m => seq_cons (op_int Try.underlying3 m) (seq_one (opBytes m)))) (fun _ h => h.2.2)
theorem opEntries : SOpen.Op Try.prog 24 (Kd.slice 42 k42) (fun l => l.length ≤ maxLen ∧ ∀ x ∈ l, ∀ b ∈ x.f1, (Lit.int .u8 b).wf = true) :=
  op_mono (op_slice Try.underlying24 (by kernel_rfl) opEntry) (fun _ h => h)
theorem awake_ret (w : World) : Calls Try.prog 7 #[] w fun e w' => e = .returned (.bool true) ∧ Below w.heap.size w w' := by
  obtain ⟨k, hk⟩ := Ev.rounds LChain.awake_ev
  exact notarylaw47_awake.calls k true w hk
theorem drawn_below {w w' : World} (h : Drawn0 w w') : Below w.heap.size w w' := by
  obtain ⟨n, rfl⟩ := h
  exact pw_below_drewN (Below.refl _ _) n
theorem large_ret (k : Nat) (A : Option Addr) (c : Nat) (l : List Ent) (r : Bool) (w : World) (h0 : Kd.C k42 w A l.length l) (h1 : l.length ≤ c) (h : notaryref47_Large.f k l = some r) :
    Calls Try.prog 17 #[.slice A l.length c] w fun e w' => e = .returned (.bool r) ∧ Below w.heap.size w w' :=
  (notaryref47_Large.calls k A c l r w h0 h1 h).mono (fun e w' ⟨a, b⟩ => ⟨a, drawn_below b⟩)
theorem same_ret (A : Option Addr) (c : Nat) (l : List Int) (A1 : Option Addr) (c1 : Nat) (l1 : List Int) (w : World) (h0 : Kd.C (Kd.int .u8) w A l.length l) (h1 : l.length ≤ c) (h2 : Kd.C (Kd.int .u8) w A1 l1.length l1) (h3 : l1.length ≤ c1) (hl : l.length ≤ 100000) (b : Bool) (hb : b = decide (l = l1)) :
    Calls Try.prog 11 #[.slice A l.length c, .slice A1 l1.length c1] w fun e w' => e = .returned (.bool b) ∧ Below w.heap.size w w' := by
  subst hb
  obtain ⟨k, hk⟩ := Ev.rounds (LSame.same_ev l l1 (by omega))
  exact (notaryref01_Same.calls k A c l A1 c1 l1 _ w h0 h1 h2 h3 hk).mono (fun e w' ⟨a, b⟩ => ⟨a, drawn_below b⟩)
theorem msg_ret (A : Option Addr) (c : Nat) (ah : List Int) (n : Int) (hn : 0 ≤ n ∧ n < 1000000) (e0 : Ent) (A1 : Option Addr) (c1 : Nat) (w : World) (h0 : Kd.C (Kd.int .u8) w A ah.length ah) (h1 : ah.length ≤ c) (h2 : Kd.C (Kd.int .u8) w A1 e0.f1.length e0.f1) (h3 : e0.f1.length ≤ c1) (x : List Int × Int) (hx : x = LChain.msgS ah n e0.f0 e0.f1) :
    Calls Try.prog 20 #[.slice A ah.length c, .int .u64 n, .agg #[.int .i64 e0.f0, .slice A1 e0.f1.length c1]] w fun e w' => ∃ A2 c2, e = .returned (.tuple #[.slice A2 x.1.length c2, .int .i64 x.2]) ∧ x.1.length ≤ c2 ∧ Kd.C (Kd.int .u8) w' A2 x.1.length x.1 ∧ Below w.heap.size w w' := by
  subst hx
  obtain ⟨k, hk⟩ := Ev.rounds (LChain.rmessage_ev ah n (by omega) (by omega) e0.f0 e0.f1)
  refine (notaryref47_Message.calls k A c ah n e0.f0 A1 c1 e0.f1 _ _ w h0 h1 h2 h3 hk).mono (fun e w' ⟨v, a, b, d⟩ => ?_)
  obtain ⟨A2, c2, rfl, hc, hC⟩ := Kd.R_reads b
  exact ⟨A2, c2, a, hc, hC, d⟩
theorem first_ret (w : World) : Calls Try.prog 19 #[] w fun e w' => ∃ A2 c2, e = .returned (.slice A2 zeroT.length c2) ∧ zeroT.length ≤ c2 ∧ Kd.C (Kd.int .u8) w' A2 zeroT.length zeroT ∧ Below w.heap.size w w' :=
  (notaryref47_First.calls zeroT w LChain.rfirst_ok).mono (fun e w' ⟨v, a, b, d⟩ => by
    obtain ⟨A2, c2, rfl, hc, hC⟩ := Kd.R_reads b
    exact ⟨A2, c2, a, hc, hC, d⟩)
theorem forged_ret (tag : List Int) (ht : tag.length = 32) (L : List Ent) (hL : L.length ≤ 20) (A : Option Addr) (c : Nat) (A1 : Option Addr) (c1 : Nat) (w : World) (h0 : Kd.C k42 w A L.length L) (h1 : L.length ≤ c) (h2 : Kd.C (Kd.int .u8) w A1 tag.length tag) (h3 : tag.length ≤ c1) (a : List Int) (ha : a = if Oks tag L then cat tag L else []) :
    Calls Try.prog 18 #[.slice A L.length c, .slice A1 tag.length c1] w fun e w' => ∃ A2 c2, e = .returned (.slice A2 a.length c2) ∧ a.length ≤ c2 ∧ Kd.C (Kd.int .u8) w' A2 a.length a ∧ Below w.heap.size w w' := by
  obtain ⟨k, hk⟩ := Ev.rounds (LChain.forged_ev tag ht L hL)
  rw [← ha] at hk
  exact (notarylaw47_forged.calls k A c L A1 c1 tag a w h0 h1 h2 h3 hk).mono (fun e w' ⟨v, p, b, d⟩ => by
    obtain ⟨A2, c2, rfl, hc, hC⟩ := Kd.R_reads b
    exact ⟨A2, c2, p, hc, hC, d⟩)
theorem clash_ret (a b : List Int) (r : List Int × List Int × Bool) (h : Ev (fun m => chain_Clash.f m a b) r) (A : Option Addr) (c : Nat) (A1 : Option Addr) (c1 : Nat) (w : World) (h0 : Kd.C (Kd.int .u8) w A a.length a) (h1 : a.length ≤ c) (h2 : Kd.C (Kd.int .u8) w A1 b.length b) (h3 : b.length ≤ c1) :
    Calls Try.prog 14 #[.slice A a.length c, .slice A1 b.length c1] w fun e w' => ∃ A2 c2 A3 c3, e = .returned (.tuple #[.slice A2 r.1.length c2, .slice A3 r.2.1.length c3, .bool r.2.2]) ∧ r.1.length ≤ c2 ∧ Kd.C (Kd.int .u8) w' A2 r.1.length r.1 ∧ r.2.1.length ≤ c3 ∧ Kd.C (Kd.int .u8) w' A3 r.2.1.length r.2.1 ∧ Below w.heap.size w w' := by
  obtain ⟨k, hk⟩ := Ev.rounds h
  exact (chain_Clash.calls k A c a A1 c1 b r.1 r.2.1 r.2.2 w h0 h1 h2 h3 hk).mono (fun e w' ⟨v, u, p, ⟨A2, c2, e1, l1, f1⟩, ⟨A3, c3, e2, l2, f2⟩, d⟩ => by
    subst e1
    subst e2
    exact ⟨A2, c2, A3, c3, p, l1, Kd.F_now f1, l2, Kd.F_now f2, d⟩)
set_option maxHeartbeats 4000000 in
set_option maxRecDepth 100000 in
theorem chparts (w : World) (L K : List Ent) (tag : List Int) (A0 A1 A2 : Option Addr) (c0 c1 c2 : Nat) (hc0 : L.length ≤ c0) (hC0 : Kd.C k42 w A0 L.length L) (hB : ∀ e ∈ L, Byt e.f1)
    (hc1 : K.length ≤ c1) (hC1 : Kd.C k42 w A1 K.length K) (hB2 : ∀ e ∈ K, Byt e.f1) (hc2 : tag.length ≤ c2) (hC2 : Kd.C (Kd.int .u8) w A2 tag.length tag) (htb : Byt tag) :
    Calls Try.prog 5 #[.slice A0 L.length c0, .slice A1 K.length c1, .slice A2 tag.length c2] w fun e w' => e = .returned (.bool true) ∧ Below w.heap.size w w' := by
  have hu := Try.underlying42
  obtain ⟨la, hla, hsa⟩ := LChain.large_ev L
  obtain ⟨lb, hlb, hsb⟩ := LChain.large_ev K
  obtain ⟨k1, hk1⟩ := Ev.rounds hla
  obtain ⟨k2, hk2⟩ := Ev.rounds hlb
  have D0 := Aside0.mk hC0
  have D1 := Aside0.mk hC1
  have D2 := Aside0.mk hC2
  have HL0 := Aside0.mk hc0
  have HL1 := Aside0.mk hc1
  have HL2 := Aside0.mk hc2
  have HK1 := Aside0.mk hk1
  have HK2 := Aside0.mk hk2
  have HBL := Aside0.mk hB
  have HBK := Aside0.mk hB2
  have HTB := Aside0.mk htb
  clear hC0 hC1 hC2 hc0 hc1 hc2 hla hlb hk1 hk2 hB hB2 htb
  cases la with
  | true =>
    clear hsa hsb
    go_enter Try.func5, Try.ntmps5
    go_wp2_with (first | (go_at_call 17; (with_reducible refine (large_ret k1 A0 c0 L true _ (Kd.C_below D0.out (by with_reducible repeat (first | exact HX12.out | exact HX11.out | exact HX10.out | exact HX9.out | exact HX8.out | exact HX7.out | exact HX6.out | exact HX5.out | exact HX4.out | exact HX3.out | exact HX2.out | exact HX1.out | exact Below.refl _ _ | apply below_alloc | apply below_drew))) HL0.out HK1.out).mono ?_); rintro e w1 ⟨rfl, hb1⟩; (have HX1 : Aside0 (Below w.heap.size w w1) := ⟨below_step (by with_reducible repeat (first | exact HX12.out | exact HX11.out | exact HX10.out | exact HX9.out | exact HX8.out | exact HX7.out | exact HX6.out | exact HX5.out | exact HX4.out | exact HX3.out | exact HX2.out | exact HX1.out | exact Below.refl _ _ | apply below_alloc | apply below_drew)) hb1⟩); clear hb1) | (go_at_call 7; (with_reducible refine (awake_ret _).mono ?_); rintro e w3 ⟨rfl, hb3⟩; (have HX3 : Aside0 (Below w.heap.size w w3) := ⟨below_step (by with_reducible repeat (first | exact HX12.out | exact HX11.out | exact HX10.out | exact HX9.out | exact HX8.out | exact HX7.out | exact HX6.out | exact HX5.out | exact HX4.out | exact HX3.out | exact HX2.out | exact HX1.out | exact Below.refl _ _ | apply below_alloc | apply below_drew)) hb3⟩); clear hb3))
    go_ret
    exact ⟨rfl, HX3.out⟩
  | false =>
  cases lb with
  | true =>
    clear hsa hsb
    go_enter Try.func5, Try.ntmps5
    go_wp2_with (first | (go_at_call 17; (with_reducible refine (large_ret k1 A0 c0 L false _ (Kd.C_below D0.out (by with_reducible repeat (first | exact HX12.out | exact HX11.out | exact HX10.out | exact HX9.out | exact HX8.out | exact HX7.out | exact HX6.out | exact HX5.out | exact HX4.out | exact HX3.out | exact HX2.out | exact HX1.out | exact Below.refl _ _ | apply below_alloc | apply below_drew))) HL0.out HK1.out).mono ?_); rintro e w1 ⟨rfl, hb1⟩; (have HX1 : Aside0 (Below w.heap.size w w1) := ⟨below_step (by with_reducible repeat (first | exact HX12.out | exact HX11.out | exact HX10.out | exact HX9.out | exact HX8.out | exact HX7.out | exact HX6.out | exact HX5.out | exact HX4.out | exact HX3.out | exact HX2.out | exact HX1.out | exact Below.refl _ _ | apply below_alloc | apply below_drew)) hb1⟩); clear hb1) | (go_at_call 17; (with_reducible refine (large_ret k2 A1 c1 K true _ (Kd.C_below D1.out (by with_reducible repeat (first | exact HX12.out | exact HX11.out | exact HX10.out | exact HX9.out | exact HX8.out | exact HX7.out | exact HX6.out | exact HX5.out | exact HX4.out | exact HX3.out | exact HX2.out | exact HX1.out | exact Below.refl _ _ | apply below_alloc | apply below_drew))) HL1.out HK2.out).mono ?_); rintro e w2 ⟨rfl, hb2⟩; (have HX2 : Aside0 (Below w.heap.size w w2) := ⟨below_step (by with_reducible repeat (first | exact HX12.out | exact HX11.out | exact HX10.out | exact HX9.out | exact HX8.out | exact HX7.out | exact HX6.out | exact HX5.out | exact HX4.out | exact HX3.out | exact HX2.out | exact HX1.out | exact Below.refl _ _ | apply below_alloc | apply below_drew)) hb2⟩); clear hb2) | (go_at_call 7; (with_reducible refine (awake_ret _).mono ?_); rintro e w3 ⟨rfl, hb3⟩; (have HX3 : Aside0 (Below w.heap.size w w3) := ⟨below_step (by with_reducible repeat (first | exact HX12.out | exact HX11.out | exact HX10.out | exact HX9.out | exact HX8.out | exact HX7.out | exact HX6.out | exact HX5.out | exact HX4.out | exact HX3.out | exact HX2.out | exact HX1.out | exact Below.refl _ _ | apply below_alloc | apply below_drew)) hb3⟩); clear hb3))
    go_ret
    exact ⟨rfl, HX3.out⟩
  | false =>
  have hl20 := hsa rfl
  clear hsa hsb
  have HL20 := Aside0.mk hl20
  clear hl20
  by_cases hn0 : L.length = 0
  · have e1 : ((L.length : Int) == 0) = true := by simp [hn0]
    have e2 : (L.length == 0) = true := by simp [hn0]
    clear hn0
    go_enter Try.func5, Try.ntmps5
    go_wp2_with (first | (go_at_call 17; (with_reducible refine (large_ret k1 A0 c0 L false _ (Kd.C_below D0.out (by with_reducible repeat (first | exact HX12.out | exact HX11.out | exact HX10.out | exact HX9.out | exact HX8.out | exact HX7.out | exact HX6.out | exact HX5.out | exact HX4.out | exact HX3.out | exact HX2.out | exact HX1.out | exact Below.refl _ _ | apply below_alloc | apply below_drew))) HL0.out HK1.out).mono ?_); rintro e w1 ⟨rfl, hb1⟩; (have HX1 : Aside0 (Below w.heap.size w w1) := ⟨below_step (by with_reducible repeat (first | exact HX12.out | exact HX11.out | exact HX10.out | exact HX9.out | exact HX8.out | exact HX7.out | exact HX6.out | exact HX5.out | exact HX4.out | exact HX3.out | exact HX2.out | exact HX1.out | exact Below.refl _ _ | apply below_alloc | apply below_drew)) hb1⟩); clear hb1) | (go_at_call 17; (with_reducible refine (large_ret k2 A1 c1 K false _ (Kd.C_below D1.out (by with_reducible repeat (first | exact HX12.out | exact HX11.out | exact HX10.out | exact HX9.out | exact HX8.out | exact HX7.out | exact HX6.out | exact HX5.out | exact HX4.out | exact HX3.out | exact HX2.out | exact HX1.out | exact Below.refl _ _ | apply below_alloc | apply below_drew))) HL1.out HK2.out).mono ?_); rintro e w2 ⟨rfl, hb2⟩; (have HX2 : Aside0 (Below w.heap.size w w2) := ⟨below_step (by with_reducible repeat (first | exact HX12.out | exact HX11.out | exact HX10.out | exact HX9.out | exact HX8.out | exact HX7.out | exact HX6.out | exact HX5.out | exact HX4.out | exact HX3.out | exact HX2.out | exact HX1.out | exact Below.refl _ _ | apply below_alloc | apply below_drew)) hb2⟩); clear hb2) | (go_at_call 7; (with_reducible refine (awake_ret _).mono ?_); rintro e w3 ⟨rfl, hb3⟩; (have HX3 : Aside0 (Below w.heap.size w w3) := ⟨below_step (by with_reducible repeat (first | exact HX12.out | exact HX11.out | exact HX10.out | exact HX9.out | exact HX8.out | exact HX7.out | exact HX6.out | exact HX5.out | exact HX4.out | exact HX3.out | exact HX2.out | exact HX1.out | exact Below.refl _ _ | apply below_alloc | apply below_drew)) hb3⟩); clear hb3))
    go_ret
    exact ⟨rfl, HX3.out⟩
  have e1 : ((L.length : Int) == 0) = false := by simp; intro h; exact hn0 (by rw [h]; rfl)
  have e2 : (L.length == 0) = false := by simpa using hn0
  have HN0 := Aside0.mk hn0
  clear hn0
  by_cases hnk : L.length = K.length
  case neg =>
    have e3 : ((L.length : Int) != (K.length : Int)) = true := by simp; omega
    have e4 : (L.length != K.length) = true := by simpa using hnk
    clear hnk
    go_enter Try.func5, Try.ntmps5
    go_wp2_with (first | (go_at_call 17; (with_reducible refine (large_ret k1 A0 c0 L false _ (Kd.C_below D0.out (by with_reducible repeat (first | exact HX12.out | exact HX11.out | exact HX10.out | exact HX9.out | exact HX8.out | exact HX7.out | exact HX6.out | exact HX5.out | exact HX4.out | exact HX3.out | exact HX2.out | exact HX1.out | exact Below.refl _ _ | apply below_alloc | apply below_drew))) HL0.out HK1.out).mono ?_); rintro e w1 ⟨rfl, hb1⟩; (have HX1 : Aside0 (Below w.heap.size w w1) := ⟨below_step (by with_reducible repeat (first | exact HX12.out | exact HX11.out | exact HX10.out | exact HX9.out | exact HX8.out | exact HX7.out | exact HX6.out | exact HX5.out | exact HX4.out | exact HX3.out | exact HX2.out | exact HX1.out | exact Below.refl _ _ | apply below_alloc | apply below_drew)) hb1⟩); clear hb1) | (go_at_call 17; (with_reducible refine (large_ret k2 A1 c1 K false _ (Kd.C_below D1.out (by with_reducible repeat (first | exact HX12.out | exact HX11.out | exact HX10.out | exact HX9.out | exact HX8.out | exact HX7.out | exact HX6.out | exact HX5.out | exact HX4.out | exact HX3.out | exact HX2.out | exact HX1.out | exact Below.refl _ _ | apply below_alloc | apply below_drew))) HL1.out HK2.out).mono ?_); rintro e w2 ⟨rfl, hb2⟩; (have HX2 : Aside0 (Below w.heap.size w w2) := ⟨below_step (by with_reducible repeat (first | exact HX12.out | exact HX11.out | exact HX10.out | exact HX9.out | exact HX8.out | exact HX7.out | exact HX6.out | exact HX5.out | exact HX4.out | exact HX3.out | exact HX2.out | exact HX1.out | exact Below.refl _ _ | apply below_alloc | apply below_drew)) hb2⟩); clear hb2) | (go_at_call 7; (with_reducible refine (awake_ret _).mono ?_); rintro e w3 ⟨rfl, hb3⟩; (have HX3 : Aside0 (Below w.heap.size w w3) := ⟨below_step (by with_reducible repeat (first | exact HX12.out | exact HX11.out | exact HX10.out | exact HX9.out | exact HX8.out | exact HX7.out | exact HX6.out | exact HX5.out | exact HX4.out | exact HX3.out | exact HX2.out | exact HX1.out | exact Below.refl _ _ | apply below_alloc | apply below_drew)) hb3⟩); clear hb3))
    go_ret
    exact ⟨rfl, HX3.out⟩
  have e3 : ((L.length : Int) != (K.length : Int)) = false := by simp; omega
  have e4 : (L.length != K.length) = false := by simpa using hnk
  have HNK := Aside0.mk hnk
  clear hnk
  by_cases ht : tag.length = 32
  case neg =>
    have e5 : ((tag.length : Int) != 32) = true := by simp; omega
    clear ht
    go_enter Try.func5, Try.ntmps5
    go_wp2_with (first | (go_at_call 17; (with_reducible refine (large_ret k1 A0 c0 L false _ (Kd.C_below D0.out (by with_reducible repeat (first | exact HX12.out | exact HX11.out | exact HX10.out | exact HX9.out | exact HX8.out | exact HX7.out | exact HX6.out | exact HX5.out | exact HX4.out | exact HX3.out | exact HX2.out | exact HX1.out | exact Below.refl _ _ | apply below_alloc | apply below_drew))) HL0.out HK1.out).mono ?_); rintro e w1 ⟨rfl, hb1⟩; (have HX1 : Aside0 (Below w.heap.size w w1) := ⟨below_step (by with_reducible repeat (first | exact HX12.out | exact HX11.out | exact HX10.out | exact HX9.out | exact HX8.out | exact HX7.out | exact HX6.out | exact HX5.out | exact HX4.out | exact HX3.out | exact HX2.out | exact HX1.out | exact Below.refl _ _ | apply below_alloc | apply below_drew)) hb1⟩); clear hb1) | (go_at_call 17; (with_reducible refine (large_ret k2 A1 c1 K false _ (Kd.C_below D1.out (by with_reducible repeat (first | exact HX12.out | exact HX11.out | exact HX10.out | exact HX9.out | exact HX8.out | exact HX7.out | exact HX6.out | exact HX5.out | exact HX4.out | exact HX3.out | exact HX2.out | exact HX1.out | exact Below.refl _ _ | apply below_alloc | apply below_drew))) HL1.out HK2.out).mono ?_); rintro e w2 ⟨rfl, hb2⟩; (have HX2 : Aside0 (Below w.heap.size w w2) := ⟨below_step (by with_reducible repeat (first | exact HX12.out | exact HX11.out | exact HX10.out | exact HX9.out | exact HX8.out | exact HX7.out | exact HX6.out | exact HX5.out | exact HX4.out | exact HX3.out | exact HX2.out | exact HX1.out | exact Below.refl _ _ | apply below_alloc | apply below_drew)) hb2⟩); clear hb2) | (go_at_call 7; (with_reducible refine (awake_ret _).mono ?_); rintro e w3 ⟨rfl, hb3⟩; (have HX3 : Aside0 (Below w.heap.size w w3) := ⟨below_step (by with_reducible repeat (first | exact HX12.out | exact HX11.out | exact HX10.out | exact HX9.out | exact HX8.out | exact HX7.out | exact HX6.out | exact HX5.out | exact HX4.out | exact HX3.out | exact HX2.out | exact HX1.out | exact Below.refl _ _ | apply below_alloc | apply below_drew)) hb3⟩); clear hb3))
    go_ret
    exact ⟨rfl, HX3.out⟩
  have e5 : ((tag.length : Int) != 32) = false := by simp; omega
  have HT := Aside0.mk ht
  clear ht
  obtain ⟨a, ha⟩ : ∃ a, a = if Oks tag L then cat tag L else [] := ⟨_, rfl⟩
  obtain ⟨b, hb⟩ : ∃ b, b = if Oks tag K then cat tag K else [] := ⟨_, rfl⟩
  have HA := Aside0.mk ha
  have HB := Aside0.mk hb
  clear ha hb
  by_cases hoL : Oks tag L
  case neg =>
    have h1 := HA.out
    rw [if_neg hoL] at h1
    have e6 : ((a.length : Int) == 0) = true := by rw [h1]; rfl
    have e7 : (a.length == 0) = true := by rw [h1]; rfl
    clear h1 hoL
    go_enter Try.func5, Try.ntmps5
    go_wp2_with (first | (go_at_call 17; (with_reducible refine (large_ret k1 A0 c0 L false _ (Kd.C_below D0.out (by with_reducible repeat (first | exact HX12.out | exact HX11.out | exact HX10.out | exact HX9.out | exact HX8.out | exact HX7.out | exact HX6.out | exact HX5.out | exact HX4.out | exact HX3.out | exact HX2.out | exact HX1.out | exact Below.refl _ _ | apply below_alloc | apply below_drew))) HL0.out HK1.out).mono ?_); rintro e w1 ⟨rfl, hb1⟩; (have HX1 : Aside0 (Below w.heap.size w w1) := ⟨below_step (by with_reducible repeat (first | exact HX12.out | exact HX11.out | exact HX10.out | exact HX9.out | exact HX8.out | exact HX7.out | exact HX6.out | exact HX5.out | exact HX4.out | exact HX3.out | exact HX2.out | exact HX1.out | exact Below.refl _ _ | apply below_alloc | apply below_drew)) hb1⟩); clear hb1) | (go_at_call 17; (with_reducible refine (large_ret k2 A1 c1 K false _ (Kd.C_below D1.out (by with_reducible repeat (first | exact HX12.out | exact HX11.out | exact HX10.out | exact HX9.out | exact HX8.out | exact HX7.out | exact HX6.out | exact HX5.out | exact HX4.out | exact HX3.out | exact HX2.out | exact HX1.out | exact Below.refl _ _ | apply below_alloc | apply below_drew))) HL1.out HK2.out).mono ?_); rintro e w2 ⟨rfl, hb2⟩; (have HX2 : Aside0 (Below w.heap.size w w2) := ⟨below_step (by with_reducible repeat (first | exact HX12.out | exact HX11.out | exact HX10.out | exact HX9.out | exact HX8.out | exact HX7.out | exact HX6.out | exact HX5.out | exact HX4.out | exact HX3.out | exact HX2.out | exact HX1.out | exact Below.refl _ _ | apply below_alloc | apply below_drew)) hb2⟩); clear hb2) | (go_at_call 18; (with_reducible refine (forged_ret tag HT.out L HL20.out A0 c0 A2 c2 _ (Kd.C_below D0.out (by with_reducible repeat (first | exact HX12.out | exact HX11.out | exact HX10.out | exact HX9.out | exact HX8.out | exact HX7.out | exact HX6.out | exact HX5.out | exact HX4.out | exact HX3.out | exact HX2.out | exact HX1.out | exact Below.refl _ _ | apply below_alloc | apply below_drew))) HL0.out (Kd.C_below D2.out (by with_reducible repeat (first | exact HX12.out | exact HX11.out | exact HX10.out | exact HX9.out | exact HX8.out | exact HX7.out | exact HX6.out | exact HX5.out | exact HX4.out | exact HX3.out | exact HX2.out | exact HX1.out | exact Below.refl _ _ | apply below_alloc | apply below_drew))) HL2.out a HA.out).mono ?_); rintro e w4 ⟨A4, c4, rfl, hc4, hC4, hb4⟩; (have HX4 : Aside0 (Below w.heap.size w w4) := ⟨below_step (by with_reducible repeat (first | exact HX12.out | exact HX11.out | exact HX10.out | exact HX9.out | exact HX8.out | exact HX7.out | exact HX6.out | exact HX5.out | exact HX4.out | exact HX3.out | exact HX2.out | exact HX1.out | exact Below.refl _ _ | apply below_alloc | apply below_drew)) hb4⟩); clear hb4; (have HC4 := Aside0.mk hC4); (have HL4 := Aside0.mk hc4); clear hc4 hC4) | (go_at_call 18; (with_reducible refine (forged_ret tag HT.out K (by have := HL20.out; have := HNK.out; omega) A1 c1 A2 c2 _ (Kd.C_below D1.out (by with_reducible repeat (first | exact HX12.out | exact HX11.out | exact HX10.out | exact HX9.out | exact HX8.out | exact HX7.out | exact HX6.out | exact HX5.out | exact HX4.out | exact HX3.out | exact HX2.out | exact HX1.out | exact Below.refl _ _ | apply below_alloc | apply below_drew))) HL1.out (Kd.C_below D2.out (by with_reducible repeat (first | exact HX12.out | exact HX11.out | exact HX10.out | exact HX9.out | exact HX8.out | exact HX7.out | exact HX6.out | exact HX5.out | exact HX4.out | exact HX3.out | exact HX2.out | exact HX1.out | exact Below.refl _ _ | apply below_alloc | apply below_drew))) HL2.out b HB.out).mono ?_); rintro e w5 ⟨A5, c5, rfl, hc5, hC5, hb5⟩; (have HS5 := Aside0.mk hb5); (have HX5 : Aside0 (Below w.heap.size w w5) := ⟨below_step (by with_reducible repeat (first | exact HX12.out | exact HX11.out | exact HX10.out | exact HX9.out | exact HX8.out | exact HX7.out | exact HX6.out | exact HX5.out | exact HX4.out | exact HX3.out | exact HX2.out | exact HX1.out | exact Below.refl _ _ | apply below_alloc | apply below_drew)) hb5⟩); clear hb5; (have HC5 := Aside0.mk hC5); (have HL5 := Aside0.mk hc5); clear hc5 hC5) | (go_at_call 7; (with_reducible refine (awake_ret _).mono ?_); rintro e w3 ⟨rfl, hb3⟩; (have HX3 : Aside0 (Below w.heap.size w w3) := ⟨below_step (by with_reducible repeat (first | exact HX12.out | exact HX11.out | exact HX10.out | exact HX9.out | exact HX8.out | exact HX7.out | exact HX6.out | exact HX5.out | exact HX4.out | exact HX3.out | exact HX2.out | exact HX1.out | exact Below.refl _ _ | apply below_alloc | apply below_drew)) hb3⟩); clear hb3))
    go_ret
    exact ⟨rfl, HX3.out⟩
  obtain ⟨f1, f2, f3⟩ := LChain.cat_fine tag HT.out HTB.out L HBL.out hoL
  have hA1 := HA.out
  rw [if_pos hoL] at hA1
  have e6 : ((a.length : Int) == 0) = false := by have := HN0.out; rw [hA1]; simp; intro h; rw [h] at f3; simp at f3; exact this (by rw [f3]; rfl)
  have e7 : (a.length == 0) = false := by have := HN0.out; rw [hA1]; simp; intro h; rw [h] at f3; simp at f3; exact this (by rw [f3]; rfl)
  have HOL := Aside0.mk hoL
  have HA1 := Aside0.mk hA1
  clear f1 f2 f3 hA1 hoL
  by_cases hoK : Oks tag K
  case neg =>
    have h1 := HB.out
    rw [if_neg hoK] at h1
    have e8 : ((b.length : Int) == 0) = true := by rw [h1]; rfl
    have e9 : (b.length == 0) = true := by rw [h1]; rfl
    clear h1 hoK
    go_enter Try.func5, Try.ntmps5
    go_wp2_with (first | (go_at_call 17; (with_reducible refine (large_ret k1 A0 c0 L false _ (Kd.C_below D0.out (by with_reducible repeat (first | exact HX12.out | exact HX11.out | exact HX10.out | exact HX9.out | exact HX8.out | exact HX7.out | exact HX6.out | exact HX5.out | exact HX4.out | exact HX3.out | exact HX2.out | exact HX1.out | exact Below.refl _ _ | apply below_alloc | apply below_drew))) HL0.out HK1.out).mono ?_); rintro e w1 ⟨rfl, hb1⟩; (have HX1 : Aside0 (Below w.heap.size w w1) := ⟨below_step (by with_reducible repeat (first | exact HX12.out | exact HX11.out | exact HX10.out | exact HX9.out | exact HX8.out | exact HX7.out | exact HX6.out | exact HX5.out | exact HX4.out | exact HX3.out | exact HX2.out | exact HX1.out | exact Below.refl _ _ | apply below_alloc | apply below_drew)) hb1⟩); clear hb1) | (go_at_call 17; (with_reducible refine (large_ret k2 A1 c1 K false _ (Kd.C_below D1.out (by with_reducible repeat (first | exact HX12.out | exact HX11.out | exact HX10.out | exact HX9.out | exact HX8.out | exact HX7.out | exact HX6.out | exact HX5.out | exact HX4.out | exact HX3.out | exact HX2.out | exact HX1.out | exact Below.refl _ _ | apply below_alloc | apply below_drew))) HL1.out HK2.out).mono ?_); rintro e w2 ⟨rfl, hb2⟩; (have HX2 : Aside0 (Below w.heap.size w w2) := ⟨below_step (by with_reducible repeat (first | exact HX12.out | exact HX11.out | exact HX10.out | exact HX9.out | exact HX8.out | exact HX7.out | exact HX6.out | exact HX5.out | exact HX4.out | exact HX3.out | exact HX2.out | exact HX1.out | exact Below.refl _ _ | apply below_alloc | apply below_drew)) hb2⟩); clear hb2) | (go_at_call 18; (with_reducible refine (forged_ret tag HT.out L HL20.out A0 c0 A2 c2 _ (Kd.C_below D0.out (by with_reducible repeat (first | exact HX12.out | exact HX11.out | exact HX10.out | exact HX9.out | exact HX8.out | exact HX7.out | exact HX6.out | exact HX5.out | exact HX4.out | exact HX3.out | exact HX2.out | exact HX1.out | exact Below.refl _ _ | apply below_alloc | apply below_drew))) HL0.out (Kd.C_below D2.out (by with_reducible repeat (first | exact HX12.out | exact HX11.out | exact HX10.out | exact HX9.out | exact HX8.out | exact HX7.out | exact HX6.out | exact HX5.out | exact HX4.out | exact HX3.out | exact HX2.out | exact HX1.out | exact Below.refl _ _ | apply below_alloc | apply below_drew))) HL2.out a HA.out).mono ?_); rintro e w4 ⟨A4, c4, rfl, hc4, hC4, hb4⟩; (have HX4 : Aside0 (Below w.heap.size w w4) := ⟨below_step (by with_reducible repeat (first | exact HX12.out | exact HX11.out | exact HX10.out | exact HX9.out | exact HX8.out | exact HX7.out | exact HX6.out | exact HX5.out | exact HX4.out | exact HX3.out | exact HX2.out | exact HX1.out | exact Below.refl _ _ | apply below_alloc | apply below_drew)) hb4⟩); clear hb4; (have HC4 := Aside0.mk hC4); (have HL4 := Aside0.mk hc4); clear hc4 hC4) | (go_at_call 18; (with_reducible refine (forged_ret tag HT.out K (by have := HL20.out; have := HNK.out; omega) A1 c1 A2 c2 _ (Kd.C_below D1.out (by with_reducible repeat (first | exact HX12.out | exact HX11.out | exact HX10.out | exact HX9.out | exact HX8.out | exact HX7.out | exact HX6.out | exact HX5.out | exact HX4.out | exact HX3.out | exact HX2.out | exact HX1.out | exact Below.refl _ _ | apply below_alloc | apply below_drew))) HL1.out (Kd.C_below D2.out (by with_reducible repeat (first | exact HX12.out | exact HX11.out | exact HX10.out | exact HX9.out | exact HX8.out | exact HX7.out | exact HX6.out | exact HX5.out | exact HX4.out | exact HX3.out | exact HX2.out | exact HX1.out | exact Below.refl _ _ | apply below_alloc | apply below_drew))) HL2.out b HB.out).mono ?_); rintro e w5 ⟨A5, c5, rfl, hc5, hC5, hb5⟩; (have HS5 := Aside0.mk hb5); (have HX5 : Aside0 (Below w.heap.size w w5) := ⟨below_step (by with_reducible repeat (first | exact HX12.out | exact HX11.out | exact HX10.out | exact HX9.out | exact HX8.out | exact HX7.out | exact HX6.out | exact HX5.out | exact HX4.out | exact HX3.out | exact HX2.out | exact HX1.out | exact Below.refl _ _ | apply below_alloc | apply below_drew)) hb5⟩); clear hb5; (have HC5 := Aside0.mk hC5); (have HL5 := Aside0.mk hc5); clear hc5 hC5) | (go_at_call 7; (with_reducible refine (awake_ret _).mono ?_); rintro e w3 ⟨rfl, hb3⟩; (have HX3 : Aside0 (Below w.heap.size w w3) := ⟨below_step (by with_reducible repeat (first | exact HX12.out | exact HX11.out | exact HX10.out | exact HX9.out | exact HX8.out | exact HX7.out | exact HX6.out | exact HX5.out | exact HX4.out | exact HX3.out | exact HX2.out | exact HX1.out | exact Below.refl _ _ | apply below_alloc | apply below_drew)) hb3⟩); clear hb3))
    go_ret
    exact ⟨rfl, HX3.out⟩
  obtain ⟨f1, f2, f3⟩ := LChain.cat_fine tag HT.out HTB.out K HBK.out hoK
  have hB1 := HB.out
  rw [if_pos hoK] at hB1
  have e8 : ((b.length : Int) == 0) = false := by have h0 := HN0.out; have hk := HNK.out; rw [hB1]; exact beq_eq_false_iff_ne.mpr (by omega)
  have e9 : (b.length == 0) = false := by have h0 := HN0.out; have hk := HNK.out; rw [hB1]; exact beq_eq_false_iff_ne.mpr (by omega)
  have HOK := Aside0.mk hoK
  have HB1 := Aside0.mk hB1
  clear f1 f2 f3 hB1 hoK
  obtain ⟨r, hr⟩ : ∃ r, r = parts tag L K L.length := ⟨_, rfl⟩
  have hcl : Ev (fun m => chain_Clash.f m a b) r := by
    rw [HA1.out, HB1.out, hr]
    exact LChain.clash_parts tag HT.out HTB.out L K HBL.out HBK.out HOL.out HOK.out HL20.out HNK.out
  have HCL := Aside0.mk hcl
  have HR := Aside0.mk hr
  clear hcl hr
  have hw1 : IntKind.i64.wrap ((L.length : Int) - 1) = (L.length : Int) - 1 := by
    have := HL20.out
    rw [i64_w]
    unfold Go.RowKit.wrap64
    omega
  go_enter Try.func5, Try.ntmps5
  go_wp2_with (first | (go_at_call 17; (with_reducible refine (large_ret k1 A0 c0 L false _ (Kd.C_below D0.out (by with_reducible repeat (first | exact HX12.out | exact HX11.out | exact HX10.out | exact HX9.out | exact HX8.out | exact HX7.out | exact HX6.out | exact HX5.out | exact HX4.out | exact HX3.out | exact HX2.out | exact HX1.out | exact Below.refl _ _ | apply below_alloc | apply below_drew))) HL0.out HK1.out).mono ?_); rintro e w1 ⟨rfl, hb1⟩; (have HX1 : Aside0 (Below w.heap.size w w1) := ⟨below_step (by with_reducible repeat (first | exact HX12.out | exact HX11.out | exact HX10.out | exact HX9.out | exact HX8.out | exact HX7.out | exact HX6.out | exact HX5.out | exact HX4.out | exact HX3.out | exact HX2.out | exact HX1.out | exact Below.refl _ _ | apply below_alloc | apply below_drew)) hb1⟩); clear hb1) | (go_at_call 17; (with_reducible refine (large_ret k2 A1 c1 K false _ (Kd.C_below D1.out (by with_reducible repeat (first | exact HX12.out | exact HX11.out | exact HX10.out | exact HX9.out | exact HX8.out | exact HX7.out | exact HX6.out | exact HX5.out | exact HX4.out | exact HX3.out | exact HX2.out | exact HX1.out | exact Below.refl _ _ | apply below_alloc | apply below_drew))) HL1.out HK2.out).mono ?_); rintro e w2 ⟨rfl, hb2⟩; (have HX2 : Aside0 (Below w.heap.size w w2) := ⟨below_step (by with_reducible repeat (first | exact HX12.out | exact HX11.out | exact HX10.out | exact HX9.out | exact HX8.out | exact HX7.out | exact HX6.out | exact HX5.out | exact HX4.out | exact HX3.out | exact HX2.out | exact HX1.out | exact Below.refl _ _ | apply below_alloc | apply below_drew)) hb2⟩); clear hb2) | (go_at_call 18; (with_reducible refine (forged_ret tag HT.out L HL20.out A0 c0 A2 c2 _ (Kd.C_below D0.out (by with_reducible repeat (first | exact HX12.out | exact HX11.out | exact HX10.out | exact HX9.out | exact HX8.out | exact HX7.out | exact HX6.out | exact HX5.out | exact HX4.out | exact HX3.out | exact HX2.out | exact HX1.out | exact Below.refl _ _ | apply below_alloc | apply below_drew))) HL0.out (Kd.C_below D2.out (by with_reducible repeat (first | exact HX12.out | exact HX11.out | exact HX10.out | exact HX9.out | exact HX8.out | exact HX7.out | exact HX6.out | exact HX5.out | exact HX4.out | exact HX3.out | exact HX2.out | exact HX1.out | exact Below.refl _ _ | apply below_alloc | apply below_drew))) HL2.out a HA.out).mono ?_); rintro e w4 ⟨A4, c4, rfl, hc4, hC4, hb4⟩; (have HX4 : Aside0 (Below w.heap.size w w4) := ⟨below_step (by with_reducible repeat (first | exact HX12.out | exact HX11.out | exact HX10.out | exact HX9.out | exact HX8.out | exact HX7.out | exact HX6.out | exact HX5.out | exact HX4.out | exact HX3.out | exact HX2.out | exact HX1.out | exact Below.refl _ _ | apply below_alloc | apply below_drew)) hb4⟩); clear hb4; (have HC4 := Aside0.mk hC4); (have HL4 := Aside0.mk hc4); clear hc4 hC4) | (go_at_call 18; (with_reducible refine (forged_ret tag HT.out K (by have := HL20.out; have := HNK.out; omega) A1 c1 A2 c2 _ (Kd.C_below D1.out (by with_reducible repeat (first | exact HX12.out | exact HX11.out | exact HX10.out | exact HX9.out | exact HX8.out | exact HX7.out | exact HX6.out | exact HX5.out | exact HX4.out | exact HX3.out | exact HX2.out | exact HX1.out | exact Below.refl _ _ | apply below_alloc | apply below_drew))) HL1.out (Kd.C_below D2.out (by with_reducible repeat (first | exact HX12.out | exact HX11.out | exact HX10.out | exact HX9.out | exact HX8.out | exact HX7.out | exact HX6.out | exact HX5.out | exact HX4.out | exact HX3.out | exact HX2.out | exact HX1.out | exact Below.refl _ _ | apply below_alloc | apply below_drew))) HL2.out b HB.out).mono ?_); rintro e w5 ⟨A5, c5, rfl, hc5, hC5, hb5⟩; (have HS5 := Aside0.mk hb5); (have HX5 : Aside0 (Below w.heap.size w w5) := ⟨below_step (by with_reducible repeat (first | exact HX12.out | exact HX11.out | exact HX10.out | exact HX9.out | exact HX8.out | exact HX7.out | exact HX6.out | exact HX5.out | exact HX4.out | exact HX3.out | exact HX2.out | exact HX1.out | exact Below.refl _ _ | apply below_alloc | apply below_drew)) hb5⟩); clear hb5; (have HC5 := Aside0.mk hC5); (have HL5 := Aside0.mk hc5); clear hc5 hC5) | (go_at_call 14; (with_reducible refine (clash_ret a b r HCL.out A4 c4 A5 c5 _ (Kd.C_below HC4.out (by with_reducible repeat (first | exact HS5.out | exact Below.refl _ _ | apply below_alloc | apply below_drew))) HL4.out (Kd.C_below HC5.out (by with_reducible repeat (first | exact Below.refl _ _ | apply below_alloc | apply below_drew))) HL5.out).mono ?_); rintro e w6 ⟨AM, cM, AN, cN, rfl, hcM, hCM, hcN, hCN, hb6⟩; (have HX6 : Aside0 (Below w.heap.size w w6) := ⟨below_step (by with_reducible repeat (first | exact HX12.out | exact HX11.out | exact HX10.out | exact HX9.out | exact HX8.out | exact HX7.out | exact HX6.out | exact HX5.out | exact HX4.out | exact HX3.out | exact HX2.out | exact HX1.out | exact Below.refl _ _ | apply below_alloc | apply below_drew)) hb6⟩); clear hb6; (have HLM := Aside0.mk hcM); (have HCM := Aside0.mk hCM); (have HLN := Aside0.mk hcN); (have HCN := Aside0.mk hCN); clear hcM hCM hcN hCN))
  clear HX1 HX2
  go_loopg [12] L.length (fun q v12 w' => ∃ i : Nat, i = q ∧ v12 = .int .i64 ((i : Int) - 1) ∧ Aside0 (i ≤ L.length) ∧ Aside0 (r = parts tag L K i) ∧ Aside0 (Below w6.heap.size w6 w') ∧ Aside0 (Below w.heap.size w w'))
  case atStart => exact ⟨L.length, rfl, rfl, ⟨Nat.le_refl _⟩, HR, ⟨Below.refl _ _⟩, HX6⟩
  case round =>
    clear HR hw1
    obtain ⟨i, hi, rfl, HI, HR, HY, HXA⟩ := hrel
    replace HCM := Aside0.mk (Kd.C_below HCM.out HY.out)
    replace HCN := Aside0.mk (Kd.C_below HCN.out HY.out)
    clear HX4 HX5 HX6
    cases gk with
    | zero =>
      subst hi
      have d1 : decide (0 ≤ (((0 : Nat) : Int) - 1)) = false := by decide
      have d2 : decide ((0 : Int) ≤ -1) = false := by decide
      have h1 := HR.out
      rw [parts] at h1
      have h2 : r.2.2 = false := by rw [h1]
      clear h1
      go_wp2_with (first | (go_at_call 7; (with_reducible refine (awake_ret _).mono ?_); rintro e w9 ⟨rfl, hb9⟩; (have HX9 : Aside0 (Below w.heap.size w w9) := ⟨below_step HXA.out hb9⟩); clear hb9))
      go_ret
      exact ⟨rfl, HX9.out⟩
    | succ q =>
      subst hi
      have d1 : decide (0 ≤ (((q + 1 : Nat) : Int) - 1)) = true := decide_eq_true (by omega)
      have hqq : (((q + 1 : Nat) : Int) - 1) = (q : Int) := by omega
      rw [hqq]
      rw [hqq] at d1
      clear hqq
      have p0 : 0 ≤ (q : Int) := by omega
      have p1 : (q : Int) < (L.length : Int) := by have := HI.out; omega
      have p2 : (q : Int) < (K.length : Int) := by have := HI.out; have := HNK.out; omega
      have hw2 : IntKind.i64.wrap ((q : Int) + 1) = (q : Int) + 1 := by
        have := HI.out; have := HL20.out
        rw [i64_w]
        unfold Go.RowKit.wrap64
        omega
      have hw3 : IntKind.u64.wrap ((q : Int) + 1) = (q : Int) + 1 := by
        have := HI.out; have := HL20.out
        rw [LSame.u64w]
        omega
      have hw4 : IntKind.i64.wrap ((q : Int) - 1) = (q : Int) - 1 := by
        have := HI.out; have := HL20.out
        rw [i64_w]
        unfold Go.RowKit.wrap64
        omega
      obtain ⟨ad, Ax, cx, ea, m0, m1, hlx, hcx⟩ := at_T42 (Kd.C_below D0.out HXA.out) (q : Int) p0 p1
      obtain ⟨bd, Ay, cy, eb, n0, n1, hly, hcy⟩ := at_T42 (Kd.C_below D1.out HXA.out) (q : Int) p0 p2
      obtain ⟨ex, hex⟩ : ∃ e, e = rd_T42 L (q : Int) := ⟨_, rfl⟩
      obtain ⟨ey, hey⟩ : ∃ e, e = rd_T42 K (q : Int) := ⟨_, rfl⟩
      rw [← hex] at m0 m1 hlx hcx
      rw [← hey] at n0 n1 hly hcy
      subst ea
      subst eb
      rw [Int.toNat_natCast] at m0 m1 n0 n1
      have M0 := Aside0.mk (And.intro m0 m1)
      have N0 := Aside0.mk (And.intro n0 n1)
      have HLX := Aside0.mk hlx
      have HCX := Aside0.mk hcx
      have HLY := Aside0.mk hly
      have HCY := Aside0.mk hcy
      have HEX := Aside0.mk hex
      have HEY := Aside0.mk hey
      have HQ := Aside0.mk (show 0 ≤ (q : Int) + 1 ∧ (q : Int) + 1 < 1000000 by have := HI.out; have := HL20.out; omega)
      clear hlx hcx hly hcy hex hey m0 m1 n0 n1
      -- the tag ahead
      obtain ⟨ah, hah⟩ : ∃ ah, ah = if q = 0 then zeroT else tag := ⟨_, rfl⟩
      obtain ⟨x, hx⟩ : ∃ x, x = (LChain.msgS ah ((q : Int) + 1) ex.f0 ex.f1) := ⟨_, rfl⟩
      obtain ⟨y, hy⟩ : ∃ y, y = (LChain.msgS ah ((q : Int) + 1) ey.f0 ey.f1) := ⟨_, rfl⟩
      have hmx : x.1 = msgAt tag L q := by rw [hx, hah, HEX.out]; rfl
      have hmy : y.1 = msgAt tag K q := by rw [hy, hah, HEY.out]; rfl
      have hxl : x.1.length ≤ 2000 := by rw [hmx]; exact LChain.msgAt_fine tag HT.out HTB.out L HBL.out HOL.out q (by omega)
      have hyl : y.1.length ≤ 2000 := by rw [hmy]; exact LChain.msgAt_fine tag HT.out HTB.out K HBK.out HOK.out q (by omega)
      have hrr := HR.out
      rw [parts, ← hmx, ← hmy] at hrr
      have HRR := Aside0.mk hrr
      have HXX := Aside0.mk hx
      have HYY := Aside0.mk hy
      have HXL := Aside0.mk hxl
      have HYL := Aside0.mk hyl
      have HAH := Aside0.mk hah
      clear hx hy hmx hmy hxl hyl hrr hah HR
      have P0 := Aside0.mk p0
      replace p0 := eq_true p0
      replace p1 := eq_true p1
      replace p2 := eq_true p2
      by_cases hq0 : q = 0
      case pos =>
        have d3 : ((q : Int) == 0) = true := by rw [hq0]; rfl
        have hz : ah = zeroT := by rw [HAH.out, if_pos hq0]
        subst hz
        clear hq0
        by_cases hxy : x.1 = y.1
        case neg =>
          have hr := HRR.out
          rw [if_neg hxy] at hr
          have h2 : r.2.2 = true := by rw [hr]
          have hyl : y.1.length ≤ 2000 := HYL.out
          have HRX := Aside0.mk (show true = decide (r.1 = x.1) by rw [hr]; exact (decide_eq_true rfl).symm)
          have HRY := Aside0.mk (show true = decide (r.2.1 = y.1) by rw [hr]; exact (decide_eq_true rfl).symm)
          have HRL := Aside0.mk (show r.1.length ≤ 100000 by rw [hr]; exact Nat.le_trans HXL.out (by decide))
          have HRL2 := Aside0.mk (show r.2.1.length ≤ 100000 by rw [hr]; exact Nat.le_trans HYL.out (by decide))
          have HXY := Aside0.mk (show false = decide (x.1 = y.1) from (decide_eq_false hxy).symm)
          clear hr hxy hyl
          go_wp2_with (first | (go_at_call 19; (with_reducible refine (first_ret _).mono ?_); rintro e w13 ⟨AF, cF, rfl, hcF, hCF, hb13⟩; (have HZ13 : Aside0 (Below wr.heap.size wr w13) := ⟨below_step (by with_reducible repeat (first | exact HZ20.out | exact HZ19.out | exact HZ18.out | exact HZ17.out | exact HZ16.out | exact HZ15.out | exact HZ14.out | exact HZ13.out | exact Below.refl _ _ | apply below_alloc | apply below_drew)) hb13⟩); clear hb13; (have HCF := Aside0.mk hCF); (have HLF := Aside0.mk hcF); clear hcF hCF; (have m0 := (HZ13.out.cell (World.block_lt_of_cell? _ _ M0.out.1)).trans M0.out.1); (have m1 := (HZ13.out.cell (World.block_lt_of_cell? _ _ M0.out.2)).trans M0.out.2)) | (go_at_call 20; (with_reducible refine (msg_ret AF cF zeroT ((q : Int) + 1) HQ.out ex Ax cx _ (Kd.C_below HCF.out (by with_reducible repeat (first | exact Below.refl _ _ | apply below_alloc | apply below_drew))) HLF.out (Kd.C_below HCX.out (by with_reducible repeat (first | exact HZ20.out | exact HZ19.out | exact HZ18.out | exact HZ17.out | exact HZ16.out | exact HZ15.out | exact HZ14.out | exact HZ13.out | exact Below.refl _ _ | apply below_alloc | apply below_drew))) HLX.out x HXX.out).mono ?_); rintro e w14 ⟨AX, cX, rfl, hcX, hCX, hb14⟩; (have HZ14 : Aside0 (Below wr.heap.size wr w14) := ⟨below_step (by with_reducible repeat (first | exact HZ20.out | exact HZ19.out | exact HZ18.out | exact HZ17.out | exact HZ16.out | exact HZ15.out | exact HZ14.out | exact HZ13.out | exact Below.refl _ _ | apply below_alloc | apply below_drew)) hb14⟩); (replace HCF := Aside0.mk (Kd.C_below HCF.out (below_step (by with_reducible repeat (first | exact Below.refl _ _ | apply below_alloc | apply below_drew)) hb14))); clear hb14; (have HCXX := Aside0.mk hCX); (have HLXX := Aside0.mk hcX); clear hcX hCX; (have n0 := (HZ14.out.cell (World.block_lt_of_cell? _ _ N0.out.1)).trans N0.out.1); (have n1 := (HZ14.out.cell (World.block_lt_of_cell? _ _ N0.out.2)).trans N0.out.2)) | (go_at_call 20; (with_reducible refine (msg_ret AF cF zeroT ((q : Int) + 1) HQ.out ey Ay cy _ (Kd.C_below HCF.out (by with_reducible repeat (first | exact Below.refl _ _ | apply below_alloc | apply below_drew))) HLF.out (Kd.C_below HCY.out (by with_reducible repeat (first | exact HZ20.out | exact HZ19.out | exact HZ18.out | exact HZ17.out | exact HZ16.out | exact HZ15.out | exact HZ14.out | exact HZ13.out | exact Below.refl _ _ | apply below_alloc | apply below_drew))) HLY.out y HYY.out).mono ?_); rintro e w15 ⟨AY, cY, rfl, hcY, hCY, hb15⟩; (have HZ15 : Aside0 (Below wr.heap.size wr w15) := ⟨below_step (by with_reducible repeat (first | exact HZ20.out | exact HZ19.out | exact HZ18.out | exact HZ17.out | exact HZ16.out | exact HZ15.out | exact HZ14.out | exact HZ13.out | exact Below.refl _ _ | apply below_alloc | apply below_drew)) hb15⟩); (replace HCXX := Aside0.mk (Kd.C_below HCXX.out (below_step (by with_reducible repeat (first | exact Below.refl _ _ | apply below_alloc | apply below_drew)) hb15))); clear hb15; (have HCYY := Aside0.mk hCY); (have HLYY := Aside0.mk hcY); clear hcY hCY) | (go_at_call 11; (with_reducible refine (same_ret AX cX x.1 AY cY y.1 _ (Kd.C_below HCXX.out (by with_reducible repeat (first | exact Below.refl _ _ | apply below_alloc | apply below_drew))) HLXX.out (Kd.C_below HCYY.out (by with_reducible repeat (first | exact Below.refl _ _ | apply below_alloc | apply below_drew))) HLYY.out (Nat.le_trans HXL.out (by decide)) false HXY.out).mono ?_); rintro e w16 ⟨rfl, hb16⟩; (have HZ16 : Aside0 (Below wr.heap.size wr w16) := ⟨below_step (by with_reducible repeat (first | exact HZ20.out | exact HZ19.out | exact HZ18.out | exact HZ17.out | exact HZ16.out | exact HZ15.out | exact HZ14.out | exact HZ13.out | exact Below.refl _ _ | apply below_alloc | apply below_drew)) hb16⟩); (replace HCXX := Aside0.mk (Kd.C_below HCXX.out (below_step (by with_reducible repeat (first | exact Below.refl _ _ | apply below_alloc | apply below_drew)) hb16))); (replace HCYY := Aside0.mk (Kd.C_below HCYY.out (below_step (by with_reducible repeat (first | exact Below.refl _ _ | apply below_alloc | apply below_drew)) hb16))); clear hb16) | (go_at_call 11; (with_reducible refine (same_ret AM cM r.1 AX cX x.1 _ (Kd.C_below HCM.out (by with_reducible repeat (first | exact HZ20.out | exact HZ19.out | exact HZ18.out | exact HZ17.out | exact HZ16.out | exact HZ15.out | exact HZ14.out | exact HZ13.out | exact Below.refl _ _ | apply below_alloc | apply below_drew))) HLM.out (Kd.C_below HCXX.out (by with_reducible repeat (first | exact Below.refl _ _ | apply below_alloc | apply below_drew))) HLXX.out HRL.out true HRX.out).mono ?_); rintro e w17 ⟨rfl, hb17⟩; (have HZ17 : Aside0 (Below wr.heap.size wr w17) := ⟨below_step (by with_reducible repeat (first | exact HZ20.out | exact HZ19.out | exact HZ18.out | exact HZ17.out | exact HZ16.out | exact HZ15.out | exact HZ14.out | exact HZ13.out | exact Below.refl _ _ | apply below_alloc | apply below_drew)) hb17⟩); (replace HCXX := Aside0.mk (Kd.C_below HCXX.out (below_step (by with_reducible repeat (first | exact Below.refl _ _ | apply below_alloc | apply below_drew)) hb17))); (replace HCYY := Aside0.mk (Kd.C_below HCYY.out (below_step (by with_reducible repeat (first | exact Below.refl _ _ | apply below_alloc | apply below_drew)) hb17))); clear hb17) | (go_at_call 11; (with_reducible refine (same_ret AN cN r.2.1 AY cY y.1 _ (Kd.C_below HCN.out (by with_reducible repeat (first | exact HZ20.out | exact HZ19.out | exact HZ18.out | exact HZ17.out | exact HZ16.out | exact HZ15.out | exact HZ14.out | exact HZ13.out | exact Below.refl _ _ | apply below_alloc | apply below_drew))) HLN.out (Kd.C_below HCYY.out (by with_reducible repeat (first | exact Below.refl _ _ | apply below_alloc | apply below_drew))) HLYY.out HRL2.out true HRY.out).mono ?_); rintro e w18 ⟨rfl, hb18⟩; (have HZ18 : Aside0 (Below wr.heap.size wr w18) := ⟨below_step (by with_reducible repeat (first | exact HZ20.out | exact HZ19.out | exact HZ18.out | exact HZ17.out | exact HZ16.out | exact HZ15.out | exact HZ14.out | exact HZ13.out | exact Below.refl _ _ | apply below_alloc | apply below_drew)) hb18⟩); (replace HCXX := Aside0.mk (Kd.C_below HCXX.out (below_step (by with_reducible repeat (first | exact Below.refl _ _ | apply below_alloc | apply below_drew)) hb18))); (replace HCYY := Aside0.mk (Kd.C_below HCYY.out (below_step (by with_reducible repeat (first | exact Below.refl _ _ | apply below_alloc | apply below_drew)) hb18))); clear hb18) | (go_at_call 7; (with_reducible refine (awake_ret _).mono ?_); rintro e w20 ⟨rfl, hb20⟩; (have HZ20 : Aside0 (Below wr.heap.size wr w20) := ⟨below_step (by with_reducible repeat (first | exact HZ20.out | exact HZ19.out | exact HZ18.out | exact HZ17.out | exact HZ16.out | exact HZ15.out | exact HZ14.out | exact HZ13.out | exact Below.refl _ _ | apply below_alloc | apply below_drew)) hb20⟩); clear hb20))
          go_ret
          exact ⟨rfl, below_step HXA.out HZ20.out⟩
        case pos =>
          have hr := HRR.out
          rw [if_pos hxy] at hr
          have HRN := Aside0.mk hr
          have HXY := Aside0.mk (show true = decide (x.1 = y.1) from (decide_eq_true hxy).symm)
          clear hr hxy
          go_wp2_with (first | (go_at_call 19; (with_reducible refine (first_ret _).mono ?_); rintro e w13 ⟨AF, cF, rfl, hcF, hCF, hb13⟩; (have HZ13 : Aside0 (Below wr.heap.size wr w13) := ⟨below_step (by with_reducible repeat (first | exact HZ20.out | exact HZ19.out | exact HZ18.out | exact HZ17.out | exact HZ16.out | exact HZ15.out | exact HZ14.out | exact HZ13.out | exact Below.refl _ _ | apply below_alloc | apply below_drew)) hb13⟩); clear hb13; (have HCF := Aside0.mk hCF); (have HLF := Aside0.mk hcF); clear hcF hCF; (have m0 := (HZ13.out.cell (World.block_lt_of_cell? _ _ M0.out.1)).trans M0.out.1); (have m1 := (HZ13.out.cell (World.block_lt_of_cell? _ _ M0.out.2)).trans M0.out.2)) | (go_at_call 20; (with_reducible refine (msg_ret AF cF zeroT ((q : Int) + 1) HQ.out ex Ax cx _ (Kd.C_below HCF.out (by with_reducible repeat (first | exact Below.refl _ _ | apply below_alloc | apply below_drew))) HLF.out (Kd.C_below HCX.out (by with_reducible repeat (first | exact HZ20.out | exact HZ19.out | exact HZ18.out | exact HZ17.out | exact HZ16.out | exact HZ15.out | exact HZ14.out | exact HZ13.out | exact Below.refl _ _ | apply below_alloc | apply below_drew))) HLX.out x HXX.out).mono ?_); rintro e w14 ⟨AX, cX, rfl, hcX, hCX, hb14⟩; (have HZ14 : Aside0 (Below wr.heap.size wr w14) := ⟨below_step (by with_reducible repeat (first | exact HZ20.out | exact HZ19.out | exact HZ18.out | exact HZ17.out | exact HZ16.out | exact HZ15.out | exact HZ14.out | exact HZ13.out | exact Below.refl _ _ | apply below_alloc | apply below_drew)) hb14⟩); (replace HCF := Aside0.mk (Kd.C_below HCF.out (below_step (by with_reducible repeat (first | exact Below.refl _ _ | apply below_alloc | apply below_drew)) hb14))); clear hb14; (have HCXX := Aside0.mk hCX); (have HLXX := Aside0.mk hcX); clear hcX hCX; (have n0 := (HZ14.out.cell (World.block_lt_of_cell? _ _ N0.out.1)).trans N0.out.1); (have n1 := (HZ14.out.cell (World.block_lt_of_cell? _ _ N0.out.2)).trans N0.out.2)) | (go_at_call 20; (with_reducible refine (msg_ret AF cF zeroT ((q : Int) + 1) HQ.out ey Ay cy _ (Kd.C_below HCF.out (by with_reducible repeat (first | exact Below.refl _ _ | apply below_alloc | apply below_drew))) HLF.out (Kd.C_below HCY.out (by with_reducible repeat (first | exact HZ20.out | exact HZ19.out | exact HZ18.out | exact HZ17.out | exact HZ16.out | exact HZ15.out | exact HZ14.out | exact HZ13.out | exact Below.refl _ _ | apply below_alloc | apply below_drew))) HLY.out y HYY.out).mono ?_); rintro e w15 ⟨AY, cY, rfl, hcY, hCY, hb15⟩; (have HZ15 : Aside0 (Below wr.heap.size wr w15) := ⟨below_step (by with_reducible repeat (first | exact HZ20.out | exact HZ19.out | exact HZ18.out | exact HZ17.out | exact HZ16.out | exact HZ15.out | exact HZ14.out | exact HZ13.out | exact Below.refl _ _ | apply below_alloc | apply below_drew)) hb15⟩); (replace HCXX := Aside0.mk (Kd.C_below HCXX.out (below_step (by with_reducible repeat (first | exact Below.refl _ _ | apply below_alloc | apply below_drew)) hb15))); clear hb15; (have HCYY := Aside0.mk hCY); (have HLYY := Aside0.mk hcY); clear hcY hCY) | (go_at_call 11; (with_reducible refine (same_ret AX cX x.1 AY cY y.1 _ (Kd.C_below HCXX.out (by with_reducible repeat (first | exact Below.refl _ _ | apply below_alloc | apply below_drew))) HLXX.out (Kd.C_below HCYY.out (by with_reducible repeat (first | exact Below.refl _ _ | apply below_alloc | apply below_drew))) HLYY.out (Nat.le_trans HXL.out (by decide)) true HXY.out).mono ?_); rintro e w16 ⟨rfl, hb16⟩; (have HZ16 : Aside0 (Below wr.heap.size wr w16) := ⟨below_step (by with_reducible repeat (first | exact HZ20.out | exact HZ19.out | exact HZ18.out | exact HZ17.out | exact HZ16.out | exact HZ15.out | exact HZ14.out | exact HZ13.out | exact Below.refl _ _ | apply below_alloc | apply below_drew)) hb16⟩); (replace HCXX := Aside0.mk (Kd.C_below HCXX.out (below_step (by with_reducible repeat (first | exact Below.refl _ _ | apply below_alloc | apply below_drew)) hb16))); (replace HCYY := Aside0.mk (Kd.C_below HCYY.out (below_step (by with_reducible repeat (first | exact Below.refl _ _ | apply below_alloc | apply below_drew)) hb16))); clear hb16))
          go_roundg q
          case measure => omega
          case rel => exact ⟨q, rfl, rfl, ⟨by have := HI.out; omega⟩, HRN, ⟨below_step HY.out (by with_reducible repeat (first | exact HZ20.out | exact HZ19.out | exact HZ18.out | exact HZ17.out | exact HZ16.out | exact HZ15.out | exact HZ14.out | exact HZ13.out | exact Below.refl _ _ | apply below_alloc | apply below_drew))⟩, ⟨below_step HXA.out (by with_reducible repeat (first | exact HZ20.out | exact HZ19.out | exact HZ18.out | exact HZ17.out | exact HZ16.out | exact HZ15.out | exact HZ14.out | exact HZ13.out | exact Below.refl _ _ | apply below_alloc | apply below_drew))⟩⟩
      case neg =>
        have d3 : ((q : Int) == 0) = false := beq_eq_false_iff_ne.mpr (by omega)
        have hz : tag = ah := by rw [HAH.out, if_neg hq0]
        subst hz
        clear hq0
        have m0 := M0.out.1
        have m1 := M0.out.2
        by_cases hxy : x.1 = y.1
        case neg =>
          have hr := HRR.out
          rw [if_neg hxy] at hr
          have h2 : r.2.2 = true := by rw [hr]
          have hyl : y.1.length ≤ 2000 := HYL.out
          have HRX := Aside0.mk (show true = decide (r.1 = x.1) by rw [hr]; exact (decide_eq_true rfl).symm)
          have HRY := Aside0.mk (show true = decide (r.2.1 = y.1) by rw [hr]; exact (decide_eq_true rfl).symm)
          have HRL := Aside0.mk (show r.1.length ≤ 100000 by rw [hr]; exact Nat.le_trans HXL.out (by decide))
          have HRL2 := Aside0.mk (show r.2.1.length ≤ 100000 by rw [hr]; exact Nat.le_trans HYL.out (by decide))
          have HXY := Aside0.mk (show false = decide (x.1 = y.1) from (decide_eq_false hxy).symm)
          clear hr hxy hyl
          go_wp2_with (first | (go_at_call 20; (with_reducible refine (msg_ret A2 c2 tag ((q : Int) + 1) HQ.out ex Ax cx _ (Kd.C_below D2.out (below_step HXA.out (by with_reducible repeat (first | exact HZ20.out | exact HZ19.out | exact HZ18.out | exact HZ17.out | exact HZ16.out | exact HZ15.out | exact HZ14.out | exact HZ13.out | exact Below.refl _ _ | apply below_alloc | apply below_drew)))) HL2.out (Kd.C_below HCX.out (by with_reducible repeat (first | exact HZ20.out | exact HZ19.out | exact HZ18.out | exact HZ17.out | exact HZ16.out | exact HZ15.out | exact HZ14.out | exact HZ13.out | exact Below.refl _ _ | apply below_alloc | apply below_drew))) HLX.out x HXX.out).mono ?_); rintro e w14 ⟨AX, cX, rfl, hcX, hCX, hb14⟩; (have HZ14 : Aside0 (Below wr.heap.size wr w14) := ⟨below_step (by with_reducible repeat (first | exact HZ20.out | exact HZ19.out | exact HZ18.out | exact HZ17.out | exact HZ16.out | exact HZ15.out | exact HZ14.out | exact HZ13.out | exact Below.refl _ _ | apply below_alloc | apply below_drew)) hb14⟩); clear hb14; (have HCXX := Aside0.mk hCX); (have HLXX := Aside0.mk hcX); clear hcX hCX; (have n0 := (HZ14.out.cell (World.block_lt_of_cell? _ _ N0.out.1)).trans N0.out.1); (have n1 := (HZ14.out.cell (World.block_lt_of_cell? _ _ N0.out.2)).trans N0.out.2)) | (go_at_call 20; (with_reducible refine (msg_ret A2 c2 tag ((q : Int) + 1) HQ.out ey Ay cy _ (Kd.C_below D2.out (below_step HXA.out (by with_reducible repeat (first | exact HZ20.out | exact HZ19.out | exact HZ18.out | exact HZ17.out | exact HZ16.out | exact HZ15.out | exact HZ14.out | exact HZ13.out | exact Below.refl _ _ | apply below_alloc | apply below_drew)))) HL2.out (Kd.C_below HCY.out (by with_reducible repeat (first | exact HZ20.out | exact HZ19.out | exact HZ18.out | exact HZ17.out | exact HZ16.out | exact HZ15.out | exact HZ14.out | exact HZ13.out | exact Below.refl _ _ | apply below_alloc | apply below_drew))) HLY.out y HYY.out).mono ?_); rintro e w15 ⟨AY, cY, rfl, hcY, hCY, hb15⟩; (have HZ15 : Aside0 (Below wr.heap.size wr w15) := ⟨below_step (by with_reducible repeat (first | exact HZ20.out | exact HZ19.out | exact HZ18.out | exact HZ17.out | exact HZ16.out | exact HZ15.out | exact HZ14.out | exact HZ13.out | exact Below.refl _ _ | apply below_alloc | apply below_drew)) hb15⟩); (replace HCXX := Aside0.mk (Kd.C_below HCXX.out (below_step (by with_reducible repeat (first | exact Below.refl _ _ | apply below_alloc | apply below_drew)) hb15))); clear hb15; (have HCYY := Aside0.mk hCY); (have HLYY := Aside0.mk hcY); clear hcY hCY) | (go_at_call 11; (with_reducible refine (same_ret AX cX x.1 AY cY y.1 _ (Kd.C_below HCXX.out (by with_reducible repeat (first | exact Below.refl _ _ | apply below_alloc | apply below_drew))) HLXX.out (Kd.C_below HCYY.out (by with_reducible repeat (first | exact Below.refl _ _ | apply below_alloc | apply below_drew))) HLYY.out (Nat.le_trans HXL.out (by decide)) false HXY.out).mono ?_); rintro e w16 ⟨rfl, hb16⟩; (have HZ16 : Aside0 (Below wr.heap.size wr w16) := ⟨below_step (by with_reducible repeat (first | exact HZ20.out | exact HZ19.out | exact HZ18.out | exact HZ17.out | exact HZ16.out | exact HZ15.out | exact HZ14.out | exact HZ13.out | exact Below.refl _ _ | apply below_alloc | apply below_drew)) hb16⟩); (replace HCXX := Aside0.mk (Kd.C_below HCXX.out (below_step (by with_reducible repeat (first | exact Below.refl _ _ | apply below_alloc | apply below_drew)) hb16))); (replace HCYY := Aside0.mk (Kd.C_below HCYY.out (below_step (by with_reducible repeat (first | exact Below.refl _ _ | apply below_alloc | apply below_drew)) hb16))); clear hb16) | (go_at_call 11; (with_reducible refine (same_ret AM cM r.1 AX cX x.1 _ (Kd.C_below HCM.out (by with_reducible repeat (first | exact HZ20.out | exact HZ19.out | exact HZ18.out | exact HZ17.out | exact HZ16.out | exact HZ15.out | exact HZ14.out | exact HZ13.out | exact Below.refl _ _ | apply below_alloc | apply below_drew))) HLM.out (Kd.C_below HCXX.out (by with_reducible repeat (first | exact Below.refl _ _ | apply below_alloc | apply below_drew))) HLXX.out HRL.out true HRX.out).mono ?_); rintro e w17 ⟨rfl, hb17⟩; (have HZ17 : Aside0 (Below wr.heap.size wr w17) := ⟨below_step (by with_reducible repeat (first | exact HZ20.out | exact HZ19.out | exact HZ18.out | exact HZ17.out | exact HZ16.out | exact HZ15.out | exact HZ14.out | exact HZ13.out | exact Below.refl _ _ | apply below_alloc | apply below_drew)) hb17⟩); (replace HCXX := Aside0.mk (Kd.C_below HCXX.out (below_step (by with_reducible repeat (first | exact Below.refl _ _ | apply below_alloc | apply below_drew)) hb17))); (replace HCYY := Aside0.mk (Kd.C_below HCYY.out (below_step (by with_reducible repeat (first | exact Below.refl _ _ | apply below_alloc | apply below_drew)) hb17))); clear hb17) | (go_at_call 11; (with_reducible refine (same_ret AN cN r.2.1 AY cY y.1 _ (Kd.C_below HCN.out (by with_reducible repeat (first | exact HZ20.out | exact HZ19.out | exact HZ18.out | exact HZ17.out | exact HZ16.out | exact HZ15.out | exact HZ14.out | exact HZ13.out | exact Below.refl _ _ | apply below_alloc | apply below_drew))) HLN.out (Kd.C_below HCYY.out (by with_reducible repeat (first | exact Below.refl _ _ | apply below_alloc | apply below_drew))) HLYY.out HRL2.out true HRY.out).mono ?_); rintro e w18 ⟨rfl, hb18⟩; (have HZ18 : Aside0 (Below wr.heap.size wr w18) := ⟨below_step (by with_reducible repeat (first | exact HZ20.out | exact HZ19.out | exact HZ18.out | exact HZ17.out | exact HZ16.out | exact HZ15.out | exact HZ14.out | exact HZ13.out | exact Below.refl _ _ | apply below_alloc | apply below_drew)) hb18⟩); (replace HCXX := Aside0.mk (Kd.C_below HCXX.out (below_step (by with_reducible repeat (first | exact Below.refl _ _ | apply below_alloc | apply below_drew)) hb18))); (replace HCYY := Aside0.mk (Kd.C_below HCYY.out (below_step (by with_reducible repeat (first | exact Below.refl _ _ | apply below_alloc | apply below_drew)) hb18))); clear hb18) | (go_at_call 7; (with_reducible refine (awake_ret _).mono ?_); rintro e w20 ⟨rfl, hb20⟩; (have HZ20 : Aside0 (Below wr.heap.size wr w20) := ⟨below_step (by with_reducible repeat (first | exact HZ20.out | exact HZ19.out | exact HZ18.out | exact HZ17.out | exact HZ16.out | exact HZ15.out | exact HZ14.out | exact HZ13.out | exact Below.refl _ _ | apply below_alloc | apply below_drew)) hb20⟩); clear hb20))
          go_ret
          exact ⟨rfl, below_step HXA.out HZ20.out⟩
        case pos =>
          have hr := HRR.out
          rw [if_pos hxy] at hr
          have HRN := Aside0.mk hr
          have HXY := Aside0.mk (show true = decide (x.1 = y.1) from (decide_eq_true hxy).symm)
          clear hr hxy
          go_wp2_with (first | (go_at_call 20; (with_reducible refine (msg_ret A2 c2 tag ((q : Int) + 1) HQ.out ex Ax cx _ (Kd.C_below D2.out (below_step HXA.out (by with_reducible repeat (first | exact HZ20.out | exact HZ19.out | exact HZ18.out | exact HZ17.out | exact HZ16.out | exact HZ15.out | exact HZ14.out | exact HZ13.out | exact Below.refl _ _ | apply below_alloc | apply below_drew)))) HL2.out (Kd.C_below HCX.out (by with_reducible repeat (first | exact HZ20.out | exact HZ19.out | exact HZ18.out | exact HZ17.out | exact HZ16.out | exact HZ15.out | exact HZ14.out | exact HZ13.out | exact Below.refl _ _ | apply below_alloc | apply below_drew))) HLX.out x HXX.out).mono ?_); rintro e w14 ⟨AX, cX, rfl, hcX, hCX, hb14⟩; (have HZ14 : Aside0 (Below wr.heap.size wr w14) := ⟨below_step (by with_reducible repeat (first | exact HZ20.out | exact HZ19.out | exact HZ18.out | exact HZ17.out | exact HZ16.out | exact HZ15.out | exact HZ14.out | exact HZ13.out | exact Below.refl _ _ | apply below_alloc | apply below_drew)) hb14⟩); clear hb14; (have HCXX := Aside0.mk hCX); (have HLXX := Aside0.mk hcX); clear hcX hCX; (have n0 := (HZ14.out.cell (World.block_lt_of_cell? _ _ N0.out.1)).trans N0.out.1); (have n1 := (HZ14.out.cell (World.block_lt_of_cell? _ _ N0.out.2)).trans N0.out.2)) | (go_at_call 20; (with_reducible refine (msg_ret A2 c2 tag ((q : Int) + 1) HQ.out ey Ay cy _ (Kd.C_below D2.out (below_step HXA.out (by with_reducible repeat (first | exact HZ20.out | exact HZ19.out | exact HZ18.out | exact HZ17.out | exact HZ16.out | exact HZ15.out | exact HZ14.out | exact HZ13.out | exact Below.refl _ _ | apply below_alloc | apply below_drew)))) HL2.out (Kd.C_below HCY.out (by with_reducible repeat (first | exact HZ20.out | exact HZ19.out | exact HZ18.out | exact HZ17.out | exact HZ16.out | exact HZ15.out | exact HZ14.out | exact HZ13.out | exact Below.refl _ _ | apply below_alloc | apply below_drew))) HLY.out y HYY.out).mono ?_); rintro e w15 ⟨AY, cY, rfl, hcY, hCY, hb15⟩; (have HZ15 : Aside0 (Below wr.heap.size wr w15) := ⟨below_step (by with_reducible repeat (first | exact HZ20.out | exact HZ19.out | exact HZ18.out | exact HZ17.out | exact HZ16.out | exact HZ15.out | exact HZ14.out | exact HZ13.out | exact Below.refl _ _ | apply below_alloc | apply below_drew)) hb15⟩); (replace HCXX := Aside0.mk (Kd.C_below HCXX.out (below_step (by with_reducible repeat (first | exact Below.refl _ _ | apply below_alloc | apply below_drew)) hb15))); clear hb15; (have HCYY := Aside0.mk hCY); (have HLYY := Aside0.mk hcY); clear hcY hCY) | (go_at_call 11; (with_reducible refine (same_ret AX cX x.1 AY cY y.1 _ (Kd.C_below HCXX.out (by with_reducible repeat (first | exact Below.refl _ _ | apply below_alloc | apply below_drew))) HLXX.out (Kd.C_below HCYY.out (by with_reducible repeat (first | exact Below.refl _ _ | apply below_alloc | apply below_drew))) HLYY.out (Nat.le_trans HXL.out (by decide)) true HXY.out).mono ?_); rintro e w16 ⟨rfl, hb16⟩; (have HZ16 : Aside0 (Below wr.heap.size wr w16) := ⟨below_step (by with_reducible repeat (first | exact HZ20.out | exact HZ19.out | exact HZ18.out | exact HZ17.out | exact HZ16.out | exact HZ15.out | exact HZ14.out | exact HZ13.out | exact Below.refl _ _ | apply below_alloc | apply below_drew)) hb16⟩); (replace HCXX := Aside0.mk (Kd.C_below HCXX.out (below_step (by with_reducible repeat (first | exact Below.refl _ _ | apply below_alloc | apply below_drew)) hb16))); (replace HCYY := Aside0.mk (Kd.C_below HCYY.out (below_step (by with_reducible repeat (first | exact Below.refl _ _ | apply below_alloc | apply below_drew)) hb16))); clear hb16))
          go_roundg q
          case measure => omega
          case rel => exact ⟨q, rfl, rfl, ⟨by have := HI.out; omega⟩, HRN, ⟨below_step HY.out (by with_reducible repeat (first | exact HZ20.out | exact HZ19.out | exact HZ18.out | exact HZ17.out | exact HZ16.out | exact HZ15.out | exact HZ14.out | exact HZ13.out | exact Below.refl _ _ | apply below_alloc | apply below_drew))⟩, ⟨below_step HXA.out (by with_reducible repeat (first | exact HZ20.out | exact HZ19.out | exact HZ18.out | exact HZ17.out | exact HZ16.out | exact HZ15.out | exact HZ14.out | exact HZ13.out | exact Below.refl _ _ | apply below_alloc | apply below_drew))⟩⟩
theorem ChainParts (w : World) (A0 : Option Addr) (c0 : Nat) (l0 : List Ent) (hc0 : l0.length ≤ c0) (hC0 : Kd.C k42 w A0 l0.length l0) (hw0 : l0.length ≤ maxLen ∧ ∀ x ∈ l0, ∀ b ∈ x.f1, (Lit.int .u8 b).wf = true)
    (A1 : Option Addr) (c1 : Nat) (l1 : List Ent) (hc1 : l1.length ≤ c1) (hC1 : Kd.C k42 w A1 l1.length l1) (hw1 : l1.length ≤ maxLen ∧ ∀ x ∈ l1, ∀ b ∈ x.f1, (Lit.int .u8 b).wf = true)
    (A2 : Option Addr) (c2 : Nat) (l2 : List Int) (hc2 : l2.length ≤ c2) (hC2 : Kd.C (Kd.int .u8) w A2 l2.length l2) (hw2 : l2.length ≤ maxLen ∧ ∀ x ∈ l2, (Lit.int .u8 x).wf = true) :
    Calls Try.prog 5 #[.slice A0 l0.length c0, .slice A1 l1.length c1, .slice A2 l2.length c2] w fun e w' => e = .returned (.bool true) ∧ Below w.heap.size w w' :=
  chparts w l0 l1 l2 A0 A1 A2 c0 c1 c2 hc0 hC0 (fun e he => LSame.byt_u8 (hw0.2 e he)) hc1 hC1 (fun e he => LSame.byt_u8 (hw1.2 e he)) hc2 hC2 (LSame.byt_u8 hw2.2)
end Go.Proofs.Ytnkkgeglnmggpaa.Walk
