/- The law of what is read, for every input of its row. -/
import Derived.Test.YtcckjbodboimgaaLEnt2
import Derived.Test.YtcckjbodboimgaaELaw
import Derived.Test.YtcckjbodboimgaaWEnt
import Derived.Test.YtcckjbodboimgaaPAllx1
import Derived.Test.YtcckjbodboimgaaPAllx2
import Derived.Test.YtcckjbodboimgaaPAllx3
namespace Go.Proofs.Ytcckjbodboimgaa.Walk
set_option linter.unusedVariables false
open Go.RowKit Go.Proofs.Ytcckjbodboimgaa.PAll Go.Proofs.Ytcckjbodboimgaa.SOpen Go.Proofs.YtcckjbodboimgaaW.PrintWords Go.Proofs.YtcckjbodboimgaaW.PrintLast Go.Proofs.YtcckjbodboimgaaW.PrintMore
theorem read_len (l : List Int) (a : Int) (R : LEnt.Rec) (h : entry_Read.f l a = some R) : R.2.1.length ≤ l.length ∧ R.2.2.1.length ≤ l.length := by
  unfold entry_Read.f entry_Read.g at h
  repeat' (split at h)
  all_goals first
    | (cases h; done)
    | (obtain rfl := Option.some.inj h; constructor <;> simp <;> omega)
    | (obtain rfl := Option.some.inj h; constructor <;> simp)
theorem EntryReads (w : World) (A : Option Addr) (c : Nat) (l : List Int) (hc : l.length ≤ c) (hC : Kd.C (Kd.int .u8) w A l.length l) (hw : l.length ≤ maxLen ∧ ∀ x ∈ l, (Lit.int .u8 x).wf = true) (hy : l.length * 1 ≤ 140737488351232) (a : Int) (ha : (Lit.int .i64 a).wf = true) :
    Calls Try.prog 4 #[.slice A l.length c, .int .i64 a] w fun e w' => e = .returned (.bool true) ∧ Below w.heap.size w w' := by
  have hmax : l.length ≤ 140737488355327 := by omega
  obtain ⟨⟨r1, r2, r3, r4, r5⟩, hR, hE, hF⟩ := LEnt.read_both l (LSame.byt_u8 hw.2) (by omega) a
  have hln := read_len l a _ hR
  simp only at hln hF
  obtain ⟨k, hQ⟩ := Ev.rounds hE
  obtain ⟨k1, h1⟩ := Ev.rounds (LSame.same_self r2 (by omega))
  obtain ⟨k2, h2⟩ := Ev.rounds (LSame.same_self r3 (by omega))
  obtain ⟨k3, h3⟩ := Ev.rounds (LSame.same_self ((l.take r4.toNat).drop a.toNat) (by rw [List.length_drop, List.length_take]; omega))
  refine ELaw.reads_walk A c l a r1 r2 r3 r4 r5 k k1 k2 k3 ((l.take r4.toNat).drop a.toNat) w hC hc hR hQ ?_ h2 LEnt.awake_ok (fun h => ?_) h3 (fun h => ⟨(hF h).1, (hF h).2.1, (hF h).2.2.1, rfl⟩)
  · unfold notaryref46_Same.f
    rw [if_pos rfl, h1]
    rfl
  · rw [LEnt.frame_ok, (hF h).2.2.2]
end Go.Proofs.Ytcckjbodboimgaa.Walk
