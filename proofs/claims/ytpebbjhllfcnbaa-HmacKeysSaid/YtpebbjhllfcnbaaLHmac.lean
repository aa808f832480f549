/- A tag: what Tag answers, by the program and by the reference. -/
import Derived.Test.YtpebbjhllfcnbaaLSha3
import Derived.Test.YtpebbjhllfcnbaaPAllx3
import Derived.Test.YtpebbjhllfcnbaaPAllx8
import Derived.Test.YtpebbjhllfcnbaaPAllx9
namespace Go.Proofs.Ytpebbjhllfcnbaa.LHmac
open Go.RowKit Go.Proofs.Ytpebbjhllfcnbaa.LSha Go.Proofs.Ytpebbjhllfcnbaa.PAll Go.Proofs.YtpebbjhllfcnbaaW.PrintWords Go.Proofs.YtpebbjhllfcnbaaW.PrintLast Go.Proofs.YtpebbjhllfcnbaaW.PrintMore
set_option linter.unusedVariables false
set_option linter.unusedSimpArgs false
theorem pad_le (kb : List Int) (h : kb.length ≤ 64) : hmac_block.pad kb = kb ++ List.replicate (64 - kb.length) 0 := by
  unfold hmac_block.pad
  rw [List.take_of_length_le h]
theorem row_is (kb : List Int) (c : Int) (hc : bits .xor .u8 0 c = c) (h : kb.length ≤ 64) : notaryref04_Block.row kb c 64 = (hmac_block.pad kb).map (fun z => hmac_block.cell z c) := by
  rw [pad_le kb h]
  apply List.ext_getElem
  · simp [notaryref04_Block.row]; omega
  · intro i h1 h2
    have hi : i < 64 := by simpa [notaryref04_Block.row] using h1
    simp only [notaryref04_Block.row, List.getElem_map, List.getElem_range, notaryref04_Block.cell, hmac_block.cell]
    by_cases hk : i < kb.length
    · rw [if_pos hk, List.getElem_append_left hk, rd_at kb i hk]
    · rw [if_neg hk, List.getElem_append_right (by omega), List.getElem_replicate, hc]
theorem cells_byt (p : List Int) (c : Int) : Byt (p.map (fun z => hmac_block.cell z c)) := by
  intro x hx
  obtain ⟨z, _, rfl⟩ := List.mem_map.1 hx
  have h := bits_within .xor .u8 z c
  have h1 : 0 ≤ bits .xor .u8 z c := h.1
  have h2 : bits .xor .u8 z c ≤ 255 := h.2
  unfold hmac_block.cell
  omega
/-- what the key's block is made of -/
theorem key_ev (l : List Int) (hb : Byt l) (hl : l.length ≤ 1000) : ∃ kb, kb.length ≤ 64 ∧ (64 < l.length → Ev (fun k => notaryref03_Sum.f k l) kb ∧ Byt kb ∧ kb.length = 32) ∧ (¬ 64 < l.length → kb = l) ∧
    (∀ c, Ev (fun k => hmac_block.f k l c) ((hmac_block.pad kb).map (fun z => hmac_block.cell z c))) ∧ (∀ c, Ev (fun k => notaryref04_Block.f k l c) (notaryref04_Block.row kb c 64)) := by
  by_cases h : 64 < l.length
  · obtain ⟨kb, h1, h2, h32, hkb⟩ := sum_same l hb (by omega)
    refine ⟨kb, by omega, fun _ => ⟨h2, hkb, h32⟩, fun hh => absurd h hh, fun c => ?_, fun c => ?_⟩
    · refine Ev.congr (f := fun k => (sha_Sum.f k l).bind fun kb => some ((hmac_block.pad kb).map (fun z => hmac_block.cell z c))) (fun k => by unfold hmac_block.f; rw [if_pos h]) ?_
      exact Ev.bind (f := fun k kb => some ((hmac_block.pad kb).map (fun z => hmac_block.cell z c))) h1 (Ev.now _)
    · refine Ev.congr (f := fun k => (notaryref03_Sum.f k l).bind fun kb => some (notaryref04_Block.row kb c 64)) (fun k => by unfold notaryref04_Block.f; rw [if_pos h]) ?_
      exact Ev.bind (f := fun k kb => some (notaryref04_Block.row kb c 64)) h2 (Ev.now _)
  · refine ⟨l, by omega, fun hh => absurd hh h, fun _ => rfl, fun c => ?_, fun c => ?_⟩
    · refine Ev.congr (f := fun k => some ((hmac_block.pad l).map (fun z => hmac_block.cell z c))) (fun k => by unfold hmac_block.f; rw [if_neg h]; rfl) (Ev.now _)
    · refine Ev.congr (f := fun k => some (notaryref04_Block.row l c 64)) (fun k => by unfold notaryref04_Block.f; rw [if_neg h]; rfl) (Ev.now _)
/-- a tag is told by the key's block -/
theorem tag_p (p m : List Int) (hp : p.length = 64) (hm : Byt m) (hml : m.length ≤ 1000) : ∃ r : List Int, r.length = 32 ∧
    (∀ l, (∀ c, Ev (fun k => hmac_block.f k l c) (p.map (fun z => hmac_block.cell z c))) → Ev (fun k => hmac_Tag.f k l m) r) ∧
    (∀ l, (∀ c, bits .xor .u8 0 c = c → Ev (fun k => notaryref04_Block.f k l c) (p.map (fun z => hmac_block.cell z c))) → Ev (fun k => notaryref04_Tag.f k l m) r) := by
  obtain ⟨i, hi⟩ : ∃ i, i = p.map (fun z => hmac_block.cell z 54) := ⟨_, rfl⟩
  obtain ⟨o, ho⟩ : ∃ o, o = p.map (fun z => hmac_block.cell z 92) := ⟨_, rfl⟩
  have hil : i.length = 64 := by rw [hi, List.length_map, hp]
  have hol : o.length = 64 := by rw [ho, List.length_map, hp]
  have hib : Byt i := by rw [hi]; exact cells_byt p 54
  have hob : Byt o := by rw [ho]; exact cells_byt p 92
  obtain ⟨s, s1, s2, s32, sb⟩ := sum_same (i ++ m) (fun x hx => (List.mem_append.1 hx).elim (hib x) (hm x)) (by rw [List.length_append]; omega)
  obtain ⟨t, t1, t2, t32, tb⟩ := sum_same (o ++ s) (fun x hx => (List.mem_append.1 hx).elim (hob x) (sb x)) (by rw [List.length_append]; omega)
  refine ⟨t, t32, fun l hl => ?_, fun l hl => ?_⟩
  · have h1 := hl 54
    have h2 := hl 92
    rw [← hi] at h1
    rw [← ho] at h2
    unfold hmac_Tag.f
    refine Ev.bind (f := fun k i => (hmac_block.f k l 92).bind fun o => if i.length + m.length < 100000000000000 then (sha_Sum.f k (i ++ m)).bind fun s => if o.length + s.length < 100000000000000 then (sha_Sum.f k (o ++ s)).bind fun t => if 32 ≤ t.length then some (t.take 32) else none else none else none) h1 ?_
    refine Ev.bind (f := fun k o => if i.length + m.length < 100000000000000 then (sha_Sum.f k (i ++ m)).bind fun s => if o.length + s.length < 100000000000000 then (sha_Sum.f k (o ++ s)).bind fun t => if 32 ≤ t.length then some (t.take 32) else none else none else none) h2 ?_
    refine Ev.congr (f := fun k => (sha_Sum.f k (i ++ m)).bind fun s => if o.length + s.length < 100000000000000 then (sha_Sum.f k (o ++ s)).bind fun t => if 32 ≤ t.length then some (t.take 32) else none else none) (fun k => if_pos (by omega)) ?_
    refine Ev.bind (f := fun k s => if o.length + s.length < 100000000000000 then (sha_Sum.f k (o ++ s)).bind fun t => if 32 ≤ t.length then some (t.take 32) else none else none) s1 ?_
    refine Ev.congr (f := fun k => (sha_Sum.f k (o ++ s)).bind fun t => if 32 ≤ t.length then some (t.take 32) else none) (fun k => if_pos (by omega)) ?_
    refine Ev.bind (f := fun k t => if 32 ≤ t.length then some (t.take 32) else none) t1 ?_
    rw [if_pos (by omega), List.take_of_length_le (by omega)]
    exact Ev.now _
  · have h1 := hl 54 (by decide)
    have h2 := hl 92 (by decide)
    rw [← hi] at h1
    rw [← ho] at h2
    unfold notaryref04_Tag.f
    refine Ev.bind (f := fun k t368 => (if t368.length + m.length < 140737488355328 then ((notaryref04_Block.f k l 92).bind fun t374 => ((notaryref03_Sum.f k (t368 ++ m)).bind fun t377 => (if t374.length + t377.length < 140737488355328 then ((notaryref03_Sum.f k (t374 ++ t377)).bind fun t383 => (some t383)) else (none)))) else (none))) h1 ?_
    refine Ev.congr (f := fun k => (notaryref04_Block.f k l 92).bind fun t374 => ((notaryref03_Sum.f k (i ++ m)).bind fun t377 => (if t374.length + t377.length < 140737488355328 then ((notaryref03_Sum.f k (t374 ++ t377)).bind fun t383 => (some t383)) else (none)))) (fun k => if_pos (by omega)) ?_
    refine Ev.bind (f := fun k t374 => (notaryref03_Sum.f k (i ++ m)).bind fun t377 => (if t374.length + t377.length < 140737488355328 then ((notaryref03_Sum.f k (t374 ++ t377)).bind fun t383 => (some t383)) else (none))) h2 ?_
    refine Ev.bind (f := fun k t377 => (if o.length + t377.length < 140737488355328 then ((notaryref03_Sum.f k (o ++ t377)).bind fun t383 => (some t383)) else (none))) s2 ?_
    refine Ev.congr (f := fun k => (notaryref03_Sum.f k (o ++ s)).bind fun t383 => (some t383)) (fun k => if_pos (by omega)) ?_
    exact Ev.bind (f := fun k t => some t) t2 (Ev.now _)
theorem tag_same (l m : List Int) (hb : Byt l) (hl : l.length ≤ 1000) (hm : Byt m) (hml : m.length ≤ 1000) : ∃ r : List Int, r.length = 32 ∧ Ev (fun k => hmac_Tag.f k l m) r ∧ Ev (fun k => notaryref04_Tag.f k l m) r := by
  obtain ⟨kb, hk64, _, _, h1, h2⟩ := key_ev l hb hl
  obtain ⟨r, hr, ha, hc⟩ := tag_p (hmac_block.pad kb) m (hmac_block.pad_length kb) hm hml
  exact ⟨r, hr, ha l h1, hc l (fun c hc0 => by rw [← row_is kb c hc0 hk64]; exact h2 c)⟩
end Go.Proofs.Ytpebbjhllfcnbaa.LHmac
