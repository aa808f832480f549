/- The law of where two logs part, for every input of its row. -/
import Derived.Test.YtnkkgeglnmggpaaPureChainClashes
import Derived.Test.YtnkkgeglnmggpaaSOpen
import Derived.Test.YtnkkgeglnmggpaaPCcx9
namespace Go.Proofs.Ytnkkgeglnmggpaa.Walk
set_option linter.unusedVariables false
open Go.RowKit Go.Proofs.Ytnkkgeglnmggpaa.PCc Go.Proofs.Ytnkkgeglnmggpaa.SOpen Go.Proofs.YtnkkgeglnmggpaaW.PrintWords Go.Proofs.YtnkkgeglnmggpaaW.PrintLast Go.Proofs.YtnkkgeglnmggpaaW.PrintMore
theorem opBytes : SOpen.Op Try.prog 22 (Kd.slice 5 (Kd.int .u8)) (fun l => l.length ≤ maxLen ∧ ∀ x ∈ l, (Lit.int .u8 x).wf = true) :=
  op_mono (op_slice Try.underlying22 (by kernel_rfl) (op_int Try.underlying5)) (fun _ h => h)
theorem ChainClashes (w : World) (A0 : Option Addr) (c0 : Nat) (l0 : List Int) (hc0 : l0.length ≤ c0) (hC0 : Kd.C (Kd.int .u8) w A0 l0.length l0) (hw0 : l0.length ≤ maxLen ∧ ∀ x ∈ l0, (Lit.int .u8 x).wf = true)
    (A1 : Option Addr) (c1 : Nat) (l1 : List Int) (hc1 : l1.length ≤ c1) (hC1 : Kd.C (Kd.int .u8) w A1 l1.length l1) (hw1 : l1.length ≤ maxLen ∧ ∀ x ∈ l1, (Lit.int .u8 x).wf = true)
    (A2 : Option Addr) (c2 : Nat) (l2 : List Int) (hc2 : l2.length ≤ c2) (hC2 : Kd.C (Kd.int .u8) w A2 l2.length l2) (hw2 : l2.length ≤ maxLen ∧ ∀ x ∈ l2, (Lit.int .u8 x).wf = true) :
    Calls Try.prog 4 #[.slice A0 l0.length c0, .slice A1 l1.length c1, .slice A2 l2.length c2] w fun e w' => e = .returned (.bool true) ∧ Below w.heap.size w w' := by
  obtain ⟨k, hk⟩ := Ev.rounds (LChain.ChainClashes l0 l1 l2 (LSame.byt_u8 hw0.2) (LSame.byt_u8 hw1.2) (LSame.byt_u8 hw2.2))
  refine (notarylaw47_ChainClashes.calls k A0 c0 l0 A1 c1 l1 A2 c2 l2 true w hC0 hc0 hC1 hc1 hC2 hc2 hk).mono ?_
  rintro e w' ⟨rfl, hd⟩
  exact ⟨rfl, hd⟩
end Go.Proofs.Ytnkkgeglnmggpaa.Walk
