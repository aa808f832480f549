/- The law of torn frames, for every input of its row. -/
import Derived.Test.YtcckjbodboimgaaLEnt
import Derived.Test.YtcckjbodboimgaaETorn
import Derived.Test.YtcckjbodboimgaaSOpen
import Derived.Test.YtcckjbodboimgaaPAllx1
import Derived.Test.YtcckjbodboimgaaPAllx2
namespace Go.Proofs.Ytcckjbodboimgaa.Walk
set_option linter.unusedVariables false
open Go.RowKit Go.Proofs.Ytcckjbodboimgaa.PAll Go.Proofs.Ytcckjbodboimgaa.SOpen Go.Proofs.YtcckjbodboimgaaW.PrintWords Go.Proofs.YtcckjbodboimgaaW.PrintLast Go.Proofs.YtcckjbodboimgaaW.PrintMore
theorem opBytes : SOpen.Op Try.prog 22 (Kd.slice 5 (Kd.int .u8)) (fun l => l.length ≤ maxLen ∧ ∀ x ∈ l, (Lit.int .u8 x).wf = true) :=
  op_mono (op_slice Try.underlying22 (by kernel_rfl) (op_int Try.underlying5)) (fun _ h => h)
theorem opEntry : SOpen.Op Try.prog 24 k24 (fun _ => True) :=
  op_mono (op_struct _ (fun p => ⟨p.1, p.2⟩) (fun _ => rfl) Try.underlying24 (by kernel_rfl) (fun m => seq_cons (op_int Try.underlying3 m) (seq_one (opBytes m)))) (fun _ _ => trivial)
theorem EntryTorn (w : World) (cs : Array Value) (x : S24) (hK : (k24).K w x cs.toList) (_ : True) (A : Option Addr) (c : Nat) (l : List Int) (hc : l.length ≤ c) (hC : Kd.C (Kd.int .u8) w A l.length l) (hw : l.length ≤ maxLen ∧ ∀ x ∈ l, (Lit.int .u8 x).wf = true) (n : Int) (hn : (Lit.int .i64 n).wf = true) :
    Calls Try.prog 5 #[.agg cs, .slice A l.length c, .int .i64 n] w fun e w' => e = .returned (.bool true) ∧ Below w.heap.size w w' := by
  obtain ⟨A1, c1, hcs, h1, h2⟩ := k24_open hK
  obtain rfl : cs = #[.int .i64 x.f0, .slice A1 x.f1.length c1] := by
    have e : cs = cs.toList.toArray := by simp
    rw [e, hcs]
  exact ELaw.torn_walk x.f0 A1 c1 x.f1 A c l n _ _ w h2 h1 hC hc (LEnt.frame_ok x.f0 x.f1 l) LEnt.awake_ok (fun h h0 h1 => LEnt.torn x.f0 x.f1 l h n.toNat ((Int.toNat_lt h0).2 h1))
end Go.Proofs.Ytcckjbodboimgaa.Walk
