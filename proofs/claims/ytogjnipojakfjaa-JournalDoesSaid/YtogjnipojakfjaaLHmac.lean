/- A tag: what Tag answers, by the program and by the reference. -/
import Derived.Test.YtogjnipojakfjaaLSha3
import Derived.Test.YtogjnipojakfjaaPJdx3
import Derived.Test.YtogjnipojakfjaaPJdx8
namespace Go.Proofs.Ytogjnipojakfjaa.LHmac
open Go.RowKit Go.Proofs.Ytogjnipojakfjaa.LSha Go.Proofs.Ytogjnipojakfjaa.PJd Go.Proofs.YtogjnipojakfjaaW.PrintWords Go.Proofs.YtogjnipojakfjaaW.PrintLast Go.Proofs.YtogjnipojakfjaaW.PrintMore
set_option linter.unusedVariables false
set_option linter.unusedSimpArgs false
theorem pad_le (kb : List Int) (h : kb.length ≤ 64) : hmac_block.pad kb = kb ++ List.replicate (64 - kb.length) 0 := by
  unfold hmac_block.pad
  rw [List.take_of_length_le h]
theorem row_is (kb : List Int) (c : Int) (hc : bits .xor .u8 0 c = c) (h : kb.length ≤ 64) : notaryref04_Block.row kb c 64 = (hmac_block.pad kb).map (fun z => hmac_block.cell z c) := by
  rw [pad_le kb h]
  apply List.ext_getElem
  · simp [notaryref04_Block.row]; omega
  · intro i h1 h2
    have hi : i < 64 := by simpa [notaryref04_Block.row] using h1
    simp only [notaryref04_Block.row, List.getElem_map, List.getElem_range, notaryref04_Block.cell, hmac_block.cell]
    by_cases hk : i < kb.length
    · rw [if_pos hk, List.getElem_append_left hk, rd_at kb i hk]
    · rw [if_neg hk, List.getElem_append_right (by omega), List.getElem_replicate, hc]
theorem cells_byt (p : List Int) (c : Int) : Byt (p.map (fun z => hmac_block.cell z c)) := by
  intro x hx
  obtain ⟨z, _, rfl⟩ := List.mem_map.1 hx
  have h := bits_within .xor .u8 z c
  have h1 : 0 ≤ bits .xor .u8 z c := h.1
  have h2 : bits .xor .u8 z c ≤ 255 := h.2
  unfold hmac_block.cell
  omega
/-- what the key's block is made of -/
theorem key_ev (l : List Int) (hb : Byt l) (hl : l.length ≤ 1000) : ∃ kb, kb.length ≤ 64 ∧ (64 < l.length → Ev (fun k => notaryref03_Sum.f k l) kb ∧ Byt kb ∧ kb.length = 32) ∧ (¬ 64 < l.length → kb = l) ∧
    (∀ c, Ev (fun k => hmac_block.f k l c) ((hmac_block.pad kb).map (fun z => hmac_block.cell z c))) ∧ (∀ c, Ev (fun k => notaryref04_Block.f k l c) (notaryref04_Block.row kb c 64)) := by
  by_cases h : 64 < l.length
  · obtain ⟨kb, h1, h2, h32, hkb⟩ := sum_same l hb (by omega)
    refine ⟨kb, by omega, fun _ => ⟨h2, hkb, h32⟩, fun hh => absurd h hh, fun c => ?_, fun c => ?_⟩
    · refine Ev.congr (f := fun k => (sha_Sum.f k l).bind fun kb => some ((hmac_block.pad kb).map (fun z => hmac_block.cell z c))) (fun k => by unfold hmac_block.f; rw [if_pos h]) ?_
      exact Ev.bind (f := fun k kb => some ((hmac_block.pad kb).map (fun z => hmac_block.cell z c))) h1 (Ev.now _)
    · refine Ev.congr (f := fun k => (notaryref03_Sum.f k l).bind fun kb => some (notaryref04_Block.row kb c 64)) (fun k => by unfold notaryref04_Block.f; rw [if_pos h]) ?_
      exact Ev.bind (f := fun k kb => some (notaryref04_Block.row kb c 64)) h2 (Ev.now _)
  · refine ⟨l, by omega, fun hh => absurd hh h, fun _ => rfl, fun c => ?_, fun c => ?_⟩
    · refine Ev.congr (f := fun k => some ((hmac_block.pad l).map (fun z => hmac_block.cell z c))) (fun k => by unfold hmac_block.f; rw [if_neg h]; rfl) (Ev.now _)
    · refine Ev.congr (f := fun k => some (notaryref04_Block.row l c 64)) (fun k => by unfold notaryref04_Block.f; rw [if_neg h]; rfl) (Ev.now _)
end Go.Proofs.Ytogjnipojakfjaa.LHmac
