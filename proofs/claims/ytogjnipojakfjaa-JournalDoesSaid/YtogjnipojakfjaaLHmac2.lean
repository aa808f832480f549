/- A tag: what Tag answers, by the program and by the reference; for longer messages, and its bytes. -/
import Derived.Test.YtogjnipojakfjaaLHmac
import Derived.Test.YtogjnipojakfjaaPJdx3
import Derived.Test.YtogjnipojakfjaaPJdx8
namespace Go.Proofs.Ytogjnipojakfjaa.LHmac
open Go.RowKit Go.Proofs.Ytogjnipojakfjaa.LSha Go.Proofs.Ytogjnipojakfjaa.PJd Go.Proofs.YtogjnipojakfjaaW.PrintWords Go.Proofs.YtogjnipojakfjaaW.PrintLast Go.Proofs.YtogjnipojakfjaaW.PrintMore
set_option linter.unusedVariables false
set_option linter.unusedSimpArgs false
/-- a tag is told by the key's block -/
theorem tag_p2 (p m : List Int) (hp : p.length = 64) (hm : Byt m) (hml : m.length ≤ 100000) : ∃ r : List Int, r.length = 32 ∧ Byt r ∧
    (∀ l, (∀ c, Ev (fun k => hmac_block.f k l c) (p.map (fun z => hmac_block.cell z c))) → Ev (fun k => hmac_Tag.f k l m) r) ∧
    (∀ l, (∀ c, bits .xor .u8 0 c = c → Ev (fun k => notaryref04_Block.f k l c) (p.map (fun z => hmac_block.cell z c))) → Ev (fun k => notaryref04_Tag.f k l m) r) := by
  obtain ⟨i, hi⟩ : ∃ i, i = p.map (fun z => hmac_block.cell z 54) := ⟨_, rfl⟩
  obtain ⟨o, ho⟩ : ∃ o, o = p.map (fun z => hmac_block.cell z 92) := ⟨_, rfl⟩
  have hil : i.length = 64 := by rw [hi, List.length_map, hp]
  have hol : o.length = 64 := by rw [ho, List.length_map, hp]
  have hib : Byt i := by rw [hi]; exact cells_byt p 54
  have hob : Byt o := by rw [ho]; exact cells_byt p 92
  obtain ⟨s, s1, s2, s32, sb⟩ := sum_same (i ++ m) (fun x hx => (List.mem_append.1 hx).elim (hib x) (hm x)) (by rw [List.length_append]; omega)
  obtain ⟨t, t1, t2, t32, tb⟩ := sum_same (o ++ s) (fun x hx => (List.mem_append.1 hx).elim (hob x) (sb x)) (by rw [List.length_append]; omega)
  refine ⟨t, t32, tb, fun l hl => ?_, fun l hl => ?_⟩
  · have h1 := hl 54
    have h2 := hl 92
    rw [← hi] at h1
    rw [← ho] at h2
    unfold hmac_Tag.f
    refine Ev.bind (f := fun k i => (hmac_block.f k l 92).bind fun o => if i.length + m.length < 100000000000000 then (sha_Sum.f k (i ++ m)).bind fun s => if o.length + s.length < 100000000000000 then (sha_Sum.f k (o ++ s)).bind fun t => if 32 ≤ t.length then some (t.take 32) else none else none else none) h1 ?_
    refine Ev.bind (f := fun k o => if i.length + m.length < 100000000000000 then (sha_Sum.f k (i ++ m)).bind fun s => if o.length + s.length < 100000000000000 then (sha_Sum.f k (o ++ s)).bind fun t => if 32 ≤ t.length then some (t.take 32) else none else none else none) h2 ?_
    refine Ev.congr (f := fun k => (sha_Sum.f k (i ++ m)).bind fun s => if o.length + s.length < 100000000000000 then (sha_Sum.f k (o ++ s)).bind fun t => if 32 ≤ t.length then some (t.take 32) else none else none) (fun k => if_pos (by omega)) ?_
    refine Ev.bind (f := fun k s => if o.length + s.length < 100000000000000 then (sha_Sum.f k (o ++ s)).bind fun t => if 32 ≤ t.length then some (t.take 32) else none else none) s1 ?_
    refine Ev.congr (f := fun k => (sha_Sum.f k (o ++ s)).bind fun t => if 32 ≤ t.length then some (t.take 32) else none) (fun k => if_pos (by omega)) ?_
    refine Ev.bind (f := fun k t => if 32 ≤ t.length then some (t.take 32) else none) t1 ?_
    rw [if_pos (by omega), List.take_of_length_le (by omega)]
    exact Ev.now _
  · have h1 := hl 54 (by decide)
    have h2 := hl 92 (by decide)
    rw [← hi] at h1
    rw [← ho] at h2
    unfold notaryref04_Tag.f
    refine Ev.bind (f := fun k t368 => (if t368.length + m.length < 140737488355328 then ((notaryref04_Block.f k l 92).bind fun t374 => ((notaryref03_Sum.f k (t368 ++ m)).bind fun t377 => (if t374.length + t377.length < 140737488355328 then ((notaryref03_Sum.f k (t374 ++ t377)).bind fun t383 => (some t383)) else (none)))) else (none))) h1 ?_
    refine Ev.congr (f := fun k => (notaryref04_Block.f k l 92).bind fun t374 => ((notaryref03_Sum.f k (i ++ m)).bind fun t377 => (if t374.length + t377.length < 140737488355328 then ((notaryref03_Sum.f k (t374 ++ t377)).bind fun t383 => (some t383)) else (none)))) (fun k => if_pos (by omega)) ?_
    refine Ev.bind (f := fun k t374 => (notaryref03_Sum.f k (i ++ m)).bind fun t377 => (if t374.length + t377.length < 140737488355328 then ((notaryref03_Sum.f k (t374 ++ t377)).bind fun t383 => (some t383)) else (none))) h2 ?_
    refine Ev.bind (f := fun k t377 => (if o.length + t377.length < 140737488355328 then ((notaryref03_Sum.f k (o ++ t377)).bind fun t383 => (some t383)) else (none))) s2 ?_
    refine Ev.congr (f := fun k => (notaryref03_Sum.f k (o ++ s)).bind fun t383 => (some t383)) (fun k => if_pos (by omega)) ?_
    exact Ev.bind (f := fun k t => some t) t2 (Ev.now _)
theorem tag_same2 (l m : List Int) (hb : Byt l) (hl : l.length ≤ 1000) (hm : Byt m) (hml : m.length ≤ 100000) : ∃ r : List Int, r.length = 32 ∧ Byt r ∧ Ev (fun k => hmac_Tag.f k l m) r ∧ Ev (fun k => notaryref04_Tag.f k l m) r := by
  obtain ⟨kb, hk64, _, _, h1, h2⟩ := key_ev l hb hl
  obtain ⟨r, hr, hbr, ha, hc⟩ := tag_p2 (hmac_block.pad kb) m (hmac_block.pad_length kb) hm hml
  exact ⟨r, hr, hbr, ha l h1, hc l (fun c hc0 => by rw [← row_is kb c hc0 hk64]; exact h2 c)⟩
end Go.Proofs.Ytogjnipojakfjaa.LHmac
