/- The laws of entries, walked. -/
import Derived.StillTailTactics
import Derived.IntWalk
import Derived.WalkSpells
import Derived.Outline
import Derived.Deep.RegionHeld3
import Derived.Test.YtcckjbodboimgaaPAllx1
import Derived.Test.YtcckjbodboimgaaPAllx2
import Derived.Test.YtcckjbodboimgaaPAllx3
namespace Go.Proofs.Ytcckjbodboimgaa.ELaw
open Go.RowKit Go.Proofs.Ytcckjbodboimgaa.PAll Go.Proofs.YtcckjbodboimgaaW.PrintWords Go.Proofs.YtcckjbodboimgaaW.PrintLast Go.Proofs.YtcckjbodboimgaaW.PrintMore
set_option linter.unusedVariables false
set_option linter.unusedSimpArgs false
abbrev TE : Nat := 24
set_option maxHeartbeats 16000000 in
set_option maxRecDepth 100000 in
theorem torn_walk (a0 : Int) (A0 : Option Addr) (c0 : Nat) (b0 : List Int) (A1 : Option Addr) (c1 : Nat) (l1 : List Int) (n : Int) (fr : List Int) (x : Int) (w : World) (hr0 : Kd.C (Kd.int .u8) w A0 b0.length b0) (hc0 : b0.length ≤ c0) (hr1 : Kd.C (Kd.int .u8) w A1 l1.length l1) (hc1 : l1.length ≤ c1)
    (hF : entry_Frame.f a0 b0 l1 = some (fr, x)) (hW : notarylaw46_awake.f = some true) (hT : x = 0 → 0 ≤ n → n < (fr.length : Int) → entry_Read.f (fr.take n.toNat) 0 = some (0, [], [], 0, 1)) :
    Calls Try.prog 5 #[.agg #[.int .i64 a0, .slice A0 b0.length c0], .slice A1 l1.length c1, .int .i64 n] w fun e w' => e = .returned (.bool true) ∧ Below w.heap.size w w' := by
  have hu := Try.underlying24
  have HR0 := Aside0.mk hr0
  have HC0 := Aside0.mk hc0
  have HR1 := Aside0.mk hr1
  have HC1 := Aside0.mk hc1
  have HF := Aside0.mk hF
  have HW := Aside0.mk hW
  have HT := Aside0.mk hT
  clear hr0 hc0 hr1 hc1 hF hW hT
  by_cases hbig : (2000 : Int) < (b0.length : Int)
  · have hd : decide ((2000 : Int) < (b0.length : Int)) = true := decide_eq_true hbig
    go_enter Try.func5, Try.ntmps5
    go_wp2_with (go_at_call 9; refine (notarylaw46_awake.calls true _ HW.out).mono ?_; rintro e wb ⟨rfl, hbb⟩; have HBb := Aside0.mk hbb; clear hbb)
    go_ret
    exact ⟨rfl, below_step (by repeat (first | exact Below.refl _ _ | apply below_alloc | apply below_drew)) HBb.out⟩
  have hd : decide ((2000 : Int) < (b0.length : Int)) = false := decide_eq_false hbig
  clear hbig
  by_cases hx : x = 0
  case neg =>
    have hx1 : (x != 0) = true := by simpa using hx
    clear hx HT
    go_enter Try.func5, Try.ntmps5
    go_wp2_with (first | (go_at_call 12; refine (entry_Frame.calls a0 A0 c0 b0 A1 c1 l1 fr _ _ (Kd.C_below HR0.out (by repeat (first | exact Below.refl _ _ | apply below_alloc | apply below_drew))) HC0.out (Kd.C_below HR1.out (by repeat (first | exact Below.refl _ _ | apply below_alloc | apply below_drew))) HC1.out HF.out).mono ?_; rintro e w1 ⟨v1, rfl, ho1, hb1⟩; (obtain ⟨A2, c2, rfl⟩ := Kd.R_slice ho1); (have HO1 := Aside0.mk ho1); (have HB1 : Aside0 (Below w.heap.size w w1) := ⟨below_step (by repeat (first | exact Below.refl _ _ | apply below_alloc | apply below_drew)) hb1⟩); clear ho1 hb1) | (go_at_call 9; refine (notarylaw46_awake.calls true _ HW.out).mono ?_; rintro e wb ⟨rfl, hbb⟩; have HBb := Aside0.mk hbb; clear hbb))
    go_ret
    exact ⟨rfl, below_step HB1.out HBb.out⟩
  subst hx
  by_cases hn : n < 0
  case pos =>
    have hn1 : decide (n < 0) = true := decide_eq_true hn
    clear hn HT
    go_enter Try.func5, Try.ntmps5
    go_wp2_with (first | (go_at_call 12; refine (entry_Frame.calls a0 A0 c0 b0 A1 c1 l1 fr _ _ (Kd.C_below HR0.out (by repeat (first | exact Below.refl _ _ | apply below_alloc | apply below_drew))) HC0.out (Kd.C_below HR1.out (by repeat (first | exact Below.refl _ _ | apply below_alloc | apply below_drew))) HC1.out HF.out).mono ?_; rintro e w1 ⟨v1, rfl, ho1, hb1⟩; (obtain ⟨A2, c2, rfl⟩ := Kd.R_slice ho1); (have HO1 := Aside0.mk ho1); (have HB1 : Aside0 (Below w.heap.size w w1) := ⟨below_step (by repeat (first | exact Below.refl _ _ | apply below_alloc | apply below_drew)) hb1⟩); clear ho1 hb1) | (go_at_call 9; refine (notarylaw46_awake.calls true _ HW.out).mono ?_; rintro e wb ⟨rfl, hbb⟩; have HBb := Aside0.mk hbb; clear hbb))
    go_ret
    exact ⟨rfl, below_step HB1.out HBb.out⟩
  have hn1 : decide (n < 0) = false := decide_eq_false hn
  by_cases hge : n < (fr.length : Int)
  case neg =>
    have hn2 : decide ((fr.length : Int) ≤ n) = true := decide_eq_true (by omega)
    clear hn hge HT
    go_enter Try.func5, Try.ntmps5
    go_wp2_with (first | (go_at_call 12; refine (entry_Frame.calls a0 A0 c0 b0 A1 c1 l1 fr _ _ (Kd.C_below HR0.out (by repeat (first | exact Below.refl _ _ | apply below_alloc | apply below_drew))) HC0.out (Kd.C_below HR1.out (by repeat (first | exact Below.refl _ _ | apply below_alloc | apply below_drew))) HC1.out HF.out).mono ?_; rintro e w1 ⟨v1, rfl, ho1, hb1⟩; (obtain ⟨A2, c2, rfl⟩ := Kd.R_slice ho1); (have HO1 := Aside0.mk ho1); (have HB1 : Aside0 (Below w.heap.size w w1) := ⟨below_step (by repeat (first | exact Below.refl _ _ | apply below_alloc | apply below_drew)) hb1⟩); clear ho1 hb1) | (go_at_call 9; refine (notarylaw46_awake.calls true _ HW.out).mono ?_; rintro e wb ⟨rfl, hbb⟩; have HBb := Aside0.mk hbb; clear hbb))
    go_ret
    exact ⟨rfl, below_step HB1.out HBb.out⟩
  have hn2 : decide ((fr.length : Int) ≤ n) = false := decide_eq_false (by omega)
  have HTR := Aside0.mk (HT.out rfl (by omega) hge)
  clear HT
  obtain ⟨j, rfl⟩ : ∃ j : Nat, n = (j : Int) := ⟨n.toNat, by omega⟩
  simp only [Int.toNat_natCast] at HTR
  have hjl : j ≤ fr.length := by omega
  obtain ⟨i0', hi0, _, hsz0, _⟩ := info_parts info5
  have hlen : (fr.take j).length = j := by rw [List.length_take]; omega
  have HCL : Aside0 (∀ c, fr.length ≤ c → (fr.take j).length ≤ c) := ⟨fun c h => by rw [hlen]; omega⟩
  have hcut : ∀ (A : Option Addr) (c : Nat) (h : fr.length ≤ c) (W : World), (Instr.slice 22 (.slice A fr.length c) none (some (.int .i64 (j : Int))) none).run Try.prog W = .ok (.slice A j c) W := fun A c h W => by
    have := (print_take_of (P := Try.prog) (Value.int .u8) 0 22 5 .i64 Try.underlying22 hi0 hsz0 A c fr (j : Int) (by omega) (by omega) h).1 W
    simpa [hlen] using this
  have HCUT := Aside0.mk hcut
  have HCC : Aside0 (∀ {W : World} (A : Option Addr), Kd.C (Kd.int .u8) W A fr.length fr → Kd.C (Kd.int .u8) W A (fr.take j).length (fr.take j)) := ⟨fun {W} A h => by
    have := (print_take_of (P := Try.prog) (Value.int .u8) 0 22 5 .i64 Try.underlying22 hi0 hsz0 A fr.length fr (j : Int) (by omega) (by omega) (Nat.le_refl _)).2.1 W (Kd.reads_of_C h)
    exact Kd.C_of_reads (h1 := fun _ => rfl) (by simpa [hlen] using this)⟩
  have hcall : ∀ (A : Option Addr) (c : Nat) (W : World), fr.length ≤ c → Kd.C (Kd.int .u8) W A fr.length fr → Calls Try.prog 15 #[.slice A j c, .int .i64 0] W fun e w' => ∃ (A3 : Option Addr) (c3 : Nat) (A4 : Option Addr) (c4 : Nat), e = .returned (.tuple #[.agg #[.int .i64 0, .slice A3 0 c3], .slice A4 0 c4, .int .i64 0, .int .i64 1]) ∧ Below W.heap.size W w' := fun A c W h hC => by
    have := entry_Read.calls A c (fr.take j) 0 _ _ _ _ _ W (HCC.out A hC) (HCL.out c h) HTR.out
    rw [hlen] at this
    refine this.mono ?_
    rintro e w' ⟨v1, v2, he, g1, g2, hb⟩
    obtain ⟨A3, c3, rfl⟩ := Kd.R_slice g1
    obtain ⟨A4, c4, rfl⟩ := Kd.R_slice g2
    exact ⟨A3, c3, A4, c4, he, hb⟩
  have HCALL := Aside0.mk hcall
  have hnl : ¬ fr.length ≤ j := by omega
  have HJC : Aside0 (∀ c, fr.length ≤ c → j ≤ c) := ⟨fun c h => by omega⟩
  clear hn hge hi0 hsz0 hlen hcut hjl hcall HCC HCL HTR
  go_enter Try.func5, Try.ntmps5
  go_wp2_with (first | (go_at_call 12; refine (entry_Frame.calls a0 A0 c0 b0 A1 c1 l1 fr _ _ (Kd.C_below HR0.out (by repeat (first | exact Below.refl _ _ | apply below_alloc | apply below_drew))) HC0.out (Kd.C_below HR1.out (by repeat (first | exact Below.refl _ _ | apply below_alloc | apply below_drew))) HC1.out HF.out).mono ?_; rintro e w1 ⟨v1, rfl, ho1, hb1⟩; (obtain ⟨A2, c2, rfl⟩ := Kd.R_slice ho1); (have HO1 := Aside0.mk ho1); (have HB1 : Aside0 (Below w.heap.size w w1) := ⟨below_step (by repeat (first | exact Below.refl _ _ | apply below_alloc | apply below_drew)) hb1⟩); clear ho1 hb1; have hct := fun W => HCUT.out A2 c2 (Kd.R_reads' HO1.out).2.1 W; have hjc := HJC.out c2 (Kd.R_reads' HO1.out).2.1) | (go_at_call 15; (with_reducible refine (HCALL.out A2 c2 _ (Kd.R_reads' HO1.out).2.1 (Kd.R_reads' HO1.out).2.2).mono ?_); rintro e w3 ⟨A3, c3, A4, c4, rfl, hb3⟩; (have HB3 : Aside0 (Below w.heap.size w w3) := ⟨below_step HB1.out hb3⟩); clear hb3) | (go_at_call 9; refine (notarylaw46_awake.calls true _ HW.out).mono ?_; rintro e wb ⟨rfl, hbb⟩; have HBb := Aside0.mk hbb; clear hbb))
  go_ret
  exact ⟨rfl, below_step (below_alloc HB3.out _) HBb.out⟩
end Go.Proofs.Ytcckjbodboimgaa.ELaw
