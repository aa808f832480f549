/- The journal: what its functions do to it. -/
import Derived.Test.YtogjnipojakfjaaJJour4
import Derived.Test.YtogjnipojakfjaaPJnx3
import Derived.Test.YtogjnipojakfjaaPJnx4
import Derived.Test.YtogjnipojakfjaaPJnx5
namespace Go.Proofs.Ytogjnipojakfjaa.JJour
open Go.RowKit Go.Proofs.Ytogjnipojakfjaa.PJn Go.Proofs.YtogjnipojakfjaaW.PrintWords Go.Proofs.YtogjnipojakfjaaW.PrintLast Go.Proofs.YtogjnipojakfjaaW.PrintMore
open LSame (Byt)
open LChain (msgS tagS zeroT)
open DDev (Dev dev_below dev_kept dev_drewN dev_mono T8 TD heldN)
set_option linter.unusedVariables false
set_option linter.unusedSimpArgs false
set_option maxHeartbeats 4000000 in
theorem Count.calls (B gj gd : Nat) (O : Nat → Prop) (s : St) (W : World) (h : Jn W B gj gd O s) :
    Calls Try.prog 14 #[.pointer (some ⟨gj, 0, none⟩)] W fun x w' => x = .returned (.int .i64 (s.n : Int)) ∧ W = w' := by
  obtain ⟨vl, At, ct, Ak, ck, h1, h2, h3, h4, h5, h6⟩ := jn_blk h
  have z0 : W.cell? ⟨gj, 0, none⟩ = some (.int .i64 (s.n : Int)) := (blk_cell h1 0).trans rfl
  clear h h1 h2 h3 h4 h5 h6
  go_enter Try.func14, Try.ntmps14
  go_wp2
  go_ret
  exact ⟨rfl, rfl⟩
set_option maxHeartbeats 4000000 in
theorem Tag.calls (B gj gd : Nat) (O : Nat → Prop) (s : St) (hl : s.tag.length ≤ 65536) (W : World) (h : Jn W B gj gd O s) :
    Calls Try.prog 13 #[.pointer (some ⟨gj, 0, none⟩)] W fun x w' => ∃ A c, x = .returned (.slice A s.tag.length c) ∧ s.tag.length ≤ c ∧ Kd.F (Kd.int .u8) w' (fun q => W.heap.size ≤ q) A s.tag.length s.tag ∧ Below W.heap.size W w' := by
  obtain ⟨vl, At, ct, Ak, ck, h1, h2, h3, h4, h5, h6⟩ := jn_blk h
  have z1 : W.cell? ⟨gj, 1, none⟩ = some (.slice At s.tag.length ct) := (blk_cell h1 1).trans rfl
  have HF : Aside0 (slices_Clone_byte_byte.f s.tag = some s.tag) := ⟨by unfold slices_Clone_byte_byte.f; rw [if_pos (by omega)]⟩
  have HC := Aside0.mk (And.intro h2 h3)
  clear h h1 h2 h3 h4 h5 h6 hl
  go_enter Try.func13, Try.ntmps13
  go_wp2_with (go_at_call 33; (with_reducible refine (slices_Clone_byte_byte.calls At ct s.tag s.tag _ (Kd.C_below HC.out.2 (by with_reducible repeat (first | exact Below.refl _ _ | apply below_alloc | apply below_drew))) HC.out.1 HF.out).mono ?_); rintro x w2 ⟨v2, rfl, ho2, hb2⟩; (obtain ⟨A2, c2, rfl⟩ := Kd.R_slice ho2); (have HO2 := Aside0.mk ho2); (have HB2 : Aside0 (Below W.heap.size W w2) := ⟨below_step (by with_reducible repeat (first | exact Below.refl _ _ | apply below_alloc | apply below_drew)) hb2⟩); clear ho2 hb2)
  go_ret
  exact ⟨A2, c2, rfl, (Kd.R_reads' HO2.out).2.1, Kd.F_mono (Kd.R_F (Kd.R_bound HO2.out)) (fun q hq => hq.2.1), HB2.out⟩
set_option maxHeartbeats 4000000 in
theorem Log.calls (w0 : World) (gj gd : Nat) (O : Nat → Prop) (s : St) (hl : s.bs.length ≤ 65536) (W : World) (h : Jn W w0.heap.size gj gd O s) :
    Calls Try.prog 12 #[.pointer (some ⟨gj, 0, none⟩)] W fun x w' => ∃ A c, x = .returned (.slice A s.bs.length c) ∧ s.bs.length ≤ c ∧ Kd.F (Kd.int .u8) w' (fun q => W.heap.size ≤ q) A s.bs.length s.bs ∧ Below W.heap.size W w' := by
  obtain ⟨vl, At, ct, Ak, ck, h1, h2, h3, h4, h5, h6⟩ := jn_blk h
  obtain ⟨vb, hd, hS, hst⟩ := jn_dev h
  have z3 : W.cell? ⟨gj, 3, none⟩ = some (.pointer (some ⟨gd, 0, none⟩)) := (blk_cell h1 3).trans rfl
  have HD := Aside0.mk hd
  have HL := Aside0.mk hl
  clear h h1 h2 h3 h4 h5 h6 hd hS hst hl
  go_enter Try.func12, Try.ntmps12
  go_wp2_with (go_at_call 34; (with_reducible refine (DDev.Bytes.calls gd w0.heap.size _ s.room s.sure s.bs vb _ (dev_below HD.out (by with_reducible repeat (first | exact Below.refl _ _ | apply below_alloc | apply below_drew))) HL.out).mono ?_); rintro x w2 ⟨v2, rfl, ho2, hb2⟩; (obtain ⟨A2, c2, rfl⟩ := Kd.R_slice ho2); (have HO2 := Aside0.mk ho2); (have HB2 : Aside0 (Below W.heap.size W w2) := ⟨below_step (by with_reducible repeat (first | exact Below.refl _ _ | apply below_alloc | apply below_drew)) hb2⟩); clear ho2 hb2)
  go_ret
  exact ⟨A2, c2, rfl, (Kd.R_reads' HO2.out).2.1, Kd.F_mono (Kd.R_F (Kd.R_bound HO2.out)) (fun q hq => hq.2.1), HB2.out⟩
set_option maxHeartbeats 4000000 in
theorem Sync.calls (w0 : World) (gj gd : Nat) (O : Nat → Prop) (s : St) (W : World) (h : Jn W w0.heap.size gj gd O s) (HB : Below w0.heap.size w0 W) :
    Calls Try.prog 24 #[.pointer (some ⟨gj, 0, none⟩)] W fun x w' => x = .returned (.tuple #[]) ∧ Post w0 W gj gd O { s with sure := s.bs.length } w' := by
  obtain ⟨vl, At, ct, Ak, ck, h1, h2, h3, h4, h5, h6⟩ := jn_blk h
  obtain ⟨vb, hd, hS, hst⟩ := jn_dev h
  have z3 : W.cell? ⟨gj, 3, none⟩ = some (.pointer (some ⟨gd, 0, none⟩)) := (blk_cell h1 3).trans rfl
  have HD := Aside0.mk hd
  have HS := Aside0.mk hS
  have HST := Aside0.mk hst
  have HB0 := Aside0.mk HB
  clear h h1 h2 h3 h4 h5 h6 hd hS hst HB
  go_enter Try.func24, Try.ntmps24
  go_wp2_with (go_at_call 47; (with_reducible refine (DDev.Sync.calls gd w0.heap.size _ s.room s.sure s.bs vb w0 W HD.out).mono ?_); rintro x w2 ⟨rfl, hw2⟩; (have HW2 := Aside0.mk hw2); clear hw2)
  go_end0
  have hk : Kept W w2 (fun k => k = gd ∨ some k = vb.ownBlock) := by rw [HW2.out]; exact Kept.setCell (Kept.refl _ _) (.inl (.inl rfl)) _
  obtain ⟨O2, hj, ho⟩ := HST.out W (Below.refl _ _) w2 vb s.bs s.bs.length _ (by rw [HW2.out]; exact DDev.dev_sure HD.out _) hk (fun k hk => .inl hk.symm)
  exact ⟨rfl, O2, hj, hk.mono HS.out, ho, by rw [HW2.out]; exact below_set HB0.out HD.out.2.1⟩
/-! ### no journal -/
theorem nil_Sync (w : World) : Calls Try.prog 24 #[.pointer none] w fun e w' => e = .returned (.tuple #[]) ∧ w = w' := by
  go_enter Try.func24, Try.ntmps24
  go_wp2
  go_end0
  exact ⟨rfl, rfl⟩
theorem nil_Append (k : Int) (A : Option Addr) (n c : Nat) (w : World) : Calls Try.prog 15 #[.pointer none, .agg #[.int .i64 k, .slice A n c]] w fun e w' => e = .returned (.int .i64 14) ∧ Below w.heap.size w w' := by
  go_enter Try.func15, Try.ntmps15
  go_wp2
  go_ret
  exact ⟨rfl, below_alloc (Below.refl _ _) _⟩
theorem nil_Count (w : World) : Calls Try.prog 14 #[.pointer none] w fun e w' => e = .returned (.int .i64 0) ∧ w = w' := by
  go_enter Try.func14, Try.ntmps14
  go_wp2
  go_ret
  exact ⟨rfl, rfl⟩
theorem nil_Log (w : World) : Calls Try.prog 12 #[.pointer none] w fun e w' => e = .returned (.slice none 0 0) ∧ w = w' := by
  go_enter Try.func12, Try.ntmps12
  go_wp2
  go_ret
  exact ⟨rfl, rfl⟩
theorem nil_Entries (w : World) : Calls Try.prog 25 #[.pointer none] w fun e w' => e = .returned (.slice none 0 0) ∧ w = w' := by
  go_enter Try.func25, Try.ntmps25
  go_wp2
  go_ret
  exact ⟨rfl, rfl⟩
theorem nil_Tag (w : World) : Calls Try.prog 13 #[.pointer none] w fun e w' => ∃ A c, e = .returned (.slice A zeroT.length c) ∧ zeroT.length ≤ c ∧ Kd.C (Kd.int .u8) w' A zeroT.length zeroT ∧ Below w.heap.size w w' := by
  go_enter Try.func13, Try.ntmps13
  go_wp2_with (go_at_call 32; (with_reducible refine (chain_First.calls zeroT _ LChain.first_ok).mono ?_); rintro x w2 ⟨v2, rfl, ho2, hb2⟩; (obtain ⟨A2, c2, rfl⟩ := Kd.R_slice ho2); (have HO2 := Aside0.mk ho2); (have HB2 : Aside0 (Below w.heap.size w w2) := ⟨below_step (by with_reducible repeat (first | exact Below.refl _ _ | apply below_alloc | apply below_drew)) hb2⟩); clear ho2 hb2)
  go_ret
  exact ⟨A2, c2, rfl, (Kd.R_reads' HO2.out).2.1, (Kd.R_reads' HO2.out).2.2, HB2.out⟩
end Go.Proofs.Ytogjnipojakfjaa.JJour
