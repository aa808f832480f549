/- The law of frames that come back, for every input of its row. -/
import Derived.Test.YtcckjbodboimgaaPureEntryBack
import Derived.Test.YtcckjbodboimgaaSOpen
import Derived.Test.YtcckjbodboimgaaPAllx2
namespace Go.Proofs.Ytcckjbodboimgaa.Walk
set_option linter.unusedVariables false
open Go.RowKit Go.Proofs.Ytcckjbodboimgaa.PAll Go.Proofs.Ytcckjbodboimgaa.SOpen Go.Proofs.YtcckjbodboimgaaW.PrintWords Go.Proofs.YtcckjbodboimgaaW.PrintLast Go.Proofs.YtcckjbodboimgaaW.PrintMore
theorem opBytes : SOpen.Op Try.prog 22 (Kd.slice 5 (Kd.int .u8)) (fun l => l.length ≤ maxLen ∧ ∀ x ∈ l, (Lit.int .u8 x).wf = true) :=
  op_mono (op_slice Try.underlying22 (by kernel_rfl) (op_int Try.underlying5)) (fun _ h => h)
theorem opEntry : SOpen.Op Try.prog 24 k24 (fun _ => True) :=
  op_mono (op_struct _ (fun p => ⟨p.1, p.2⟩) (fun _ => rfl) Try.underlying24 (by kernel_rfl) (fun m => seq_cons (op_int Try.underlying3 m) (seq_one (opBytes m)))) (fun _ _ => trivial)
theorem EntryBack (w : World) (A0 : Option Addr) (c0 : Nat) (l0 : List Int) (hc0 : l0.length ≤ c0) (hC0 : Kd.C (Kd.int .u8) w A0 l0.length l0) (hw0 : l0.length ≤ maxLen ∧ ∀ x ∈ l0, (Lit.int .u8 x).wf = true) (hb0 : l0.length ≤ 1048576) (cs : Array Value) (x : S24) (hK : (k24).K w x cs.toList) (_ : True)
    (A : Option Addr) (c : Nat) (l : List Int) (hc : l.length ≤ c) (hC : Kd.C (Kd.int .u8) w A l.length l) (hw : l.length ≤ maxLen ∧ ∀ x ∈ l, (Lit.int .u8 x).wf = true) (hb : l.length ≤ 1048576) :
    Calls Try.prog 3 #[.slice A0 l0.length c0, .agg cs, .slice A l.length c] w fun e w' => e = .returned (.bool true) ∧ Below w.heap.size w w' := by
  obtain ⟨A1, c1, hcs, h1, h2⟩ := k24_open hK
  obtain rfl : cs = #[.int .i64 x.f0, .slice A1 x.f1.length c1] := by
    have e : cs = cs.toList.toArray := by simp
    rw [e, hcs]
  obtain ⟨k, hk⟩ := Ev.rounds (LEnt.EntryBack l0 x.f0 x.f1 l hb0 (by omega))
  refine (notarylaw46_EntryBack.calls k A0 c0 l0 x.f0 A1 c1 x.f1 A c l true w hC0 hc0 h2 h1 hC hc hk).mono ?_
  rintro e w' ⟨rfl, hd⟩
  exact ⟨rfl, hd⟩
end Go.Proofs.Ytcckjbodboimgaa.Walk
