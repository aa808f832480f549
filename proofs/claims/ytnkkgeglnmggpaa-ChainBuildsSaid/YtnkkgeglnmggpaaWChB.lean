/- The law of logs that are built, for every input of its row. -/
import Derived.Test.YtnkkgeglnmggpaaPureChainBuilds
import Derived.Test.YtnkkgeglnmggpaaSOpen
import Derived.Test.YtnkkgeglnmggpaaPCbx14
namespace Go.Proofs.Ytnkkgeglnmggpaa.Walk
set_option linter.unusedVariables false
open Go.RowKit Go.Proofs.Ytnkkgeglnmggpaa.PCb Go.Proofs.Ytnkkgeglnmggpaa.SOpen Go.Proofs.YtnkkgeglnmggpaaW.PrintWords Go.Proofs.YtnkkgeglnmggpaaW.PrintLast Go.Proofs.YtnkkgeglnmggpaaW.PrintMore
theorem opBytes : SOpen.Op Try.prog 22 (Kd.slice 5 (Kd.int .u8)) (fun l => l.length ≤ maxLen ∧ ∀ x ∈ l, (Lit.int .u8 x).wf = true) :=
  op_mono (op_slice Try.underlying22 (by kernel_rfl) (op_int Try.underlying5)) (fun _ h => h)
theorem opEntry : SOpen.Op Try.prog 42 k42 (fun x => ∀ b ∈ x.f1, (Lit.int .u8 b).wf = true) :=
  op_mono (op_struct _ (fun p => ⟨p.1, p.2⟩) (fun _ => rfl) Try.underlying42 (by kernel_rfl) (fun m => seq_cons (op_int Try.underlying3 m) (seq_one (opBytes m)))) (fun _ h => h.2.2)
theorem opEntries : SOpen.Op Try.prog 24 (Kd.slice 42 k42) (fun l => l.length ≤ maxLen ∧ ∀ x ∈ l, ∀ b ∈ x.f1, (Lit.int .u8 b).wf = true) :=
  op_mono (op_slice Try.underlying24 (by kernel_rfl) opEntry) (fun _ h => h)
theorem ChainBuilds (w : World) (A0 : Option Addr) (c0 : Nat) (l0 : List Int) (hc0 : l0.length ≤ c0) (hC0 : Kd.C (Kd.int .u8) w A0 l0.length l0) (hw0 : l0.length ≤ maxLen ∧ ∀ x ∈ l0, (Lit.int .u8 x).wf = true)
    (A1 : Option Addr) (c1 : Nat) (l1 : List S42) (hc1 : l1.length ≤ c1) (hC1 : Kd.C k42 w A1 l1.length l1) (hw1 : l1.length ≤ maxLen ∧ ∀ x ∈ l1, ∀ b ∈ x.f1, (Lit.int .u8 b).wf = true)
    (a2 : Int) (hw2 : (Lit.int .u64 a2).wf = true) :
    Calls Try.prog 6 #[.slice A0 l0.length c0, .slice A1 l1.length c1, .int .u64 a2] w fun e w' => e = .returned (.bool true) ∧ Below w.heap.size w w' := by
  have hn := hw2
  simp [Lit.wf, IntKind.min, IntKind.max, IntKind.signed, IntKind.bits] at hn
  obtain ⟨k, hk⟩ := Ev.rounds (LChain.ChainBuilds l0 l1 a2 (LSame.byt_u8 hw0.2) (fun e he => LSame.byt_u8 (hw1.2 e he)) (by omega) (by omega))
  refine (notarylaw47_ChainBuilds.calls k A0 c0 l0 A1 c1 l1 a2 true w hC0 hc0 hC1 hc1 hk).mono ?_
  rintro e w' ⟨rfl, hd⟩
  exact ⟨rfl, hd⟩
end Go.Proofs.Ytnkkgeglnmggpaa.Walk
