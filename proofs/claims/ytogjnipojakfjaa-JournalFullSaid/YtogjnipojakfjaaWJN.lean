/- The rows' walks: no journal; a device that is full. -/
import Derived.Test.YtogjnipojakfjaaJJour8
import Derived.Test.YtogjnipojakfjaaSOpen
import Derived.Test.YtogjnipojakfjaaPJnx5
namespace Go.Proofs.Ytogjnipojakfjaa.Walk
set_option linter.unusedVariables false
open Go.RowKit Go.Proofs.Ytogjnipojakfjaa.PJn Go.Proofs.Ytogjnipojakfjaa.SOpen Go.Proofs.YtogjnipojakfjaaW.PrintWords Go.Proofs.YtogjnipojakfjaaW.PrintLast Go.Proofs.YtogjnipojakfjaaW.PrintMore
open JJour (Ent kE)
theorem opBytes : SOpen.Op Try.prog 22 (Kd.slice 5 (Kd.int .u8)) (fun l => l.length ≤ maxLen ∧ ∀ x ∈ l, (Lit.int .u8 x).wf = true) :=
  op_mono (op_slice Try.underlying22 (by kernel_rfl) (op_int Try.underlying5)) (fun _ h => h)
theorem opEntry : SOpen.Op Try.prog 35 kE (fun x => ∀ b ∈ x.f1, (Lit.int .u8 b).wf = true) :=
  op_mono (op_struct _ (fun p => ⟨p.1, p.2⟩) (fun _ => rfl) Try.underlying35 (by kernel_rfl) (fun m => seq_cons (op_int Try.underlying3 m) (seq_one (opBytes m)))) (fun _ h => h.2.2)
theorem opEntries : SOpen.Op Try.prog 23 (Kd.slice 35 kE) (fun l => l.length ≤ maxLen ∧ ∀ x ∈ l, ∀ b ∈ x.f1, (Lit.int .u8 b).wf = true) :=
  op_mono (op_slice Try.underlying23 (by kernel_rfl) opEntry) (fun _ h => h)
theorem JournalNil (w : World) (cs0 : Array Value) (x0 : Ent) (hK0 : kE.K w x0 cs0.toList) (hw0 : ∀ b ∈ x0.f1, (Lit.int .u8 b).wf = true) :
    Calls Try.prog 5 #[.agg cs0] w fun e w' => e = .returned (.bool true) ∧ Below w.heap.size w w' := by
  obtain ⟨A0, c0, e0, hc0, hC0⟩ := k35_open hK0
  obtain rfl : cs0 = #[.int .i64 x0.f0, .slice A0 x0.f1.length c0] := by rw [← e0]
  exact JJour.JournalNil w x0 A0 c0 hc0 hC0 hw0
theorem JournalFull (w : World) (A0 : Option Addr) (c0 : Nat) (l0 : List Int) (hc0 : l0.length ≤ c0) (hC0 : Kd.C (Kd.int .u8) w A0 l0.length l0) (hw0 : l0.length ≤ maxLen ∧ ∀ x ∈ l0, (Lit.int .u8 x).wf = true) (room : Int) (hr : (Lit.int .i64 room).wf = true)
    (A2 : Option Addr) (c2 : Nat) (l2 : List Ent) (hc2 : l2.length ≤ c2) (hC2 : Kd.C kE w A2 l2.length l2) (hw2 : l2.length ≤ maxLen ∧ ∀ x ∈ l2, ∀ b ∈ x.f1, (Lit.int .u8 b).wf = true) :
    Calls Try.prog 3 #[.slice A0 l0.length c0, .int .i64 room, .slice A2 l2.length c2] w fun x w' => x = .returned (.bool true) ∧ Below w.heap.size w w' :=
  JJour.JournalFull w A0 c0 l0 hc0 hC0 hw0 room A2 c2 l2 hc2 hC2 hw2
end Go.Proofs.Ytogjnipojakfjaa.Walk
