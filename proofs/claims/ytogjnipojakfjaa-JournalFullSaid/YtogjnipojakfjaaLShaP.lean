/- Digests and tags of the program alone: there is one, for all bytes. -/
import Derived.Test.YtogjnipojakfjaaLEv
import Derived.Test.YtogjnipojakfjaaLTail
import Derived.Test.YtogjnipojakfjaaPJnx1
import Derived.Test.YtogjnipojakfjaaPJnx2
import Derived.Test.YtogjnipojakfjaaPJnx3
namespace Go.Proofs.Ytogjnipojakfjaa.LSha
open Go.RowKit Go.Proofs.Ytogjnipojakfjaa.PJn Go.Proofs.YtogjnipojakfjaaW.PrintWords Go.Proofs.YtogjnipojakfjaaW.PrintLast Go.Proofs.YtogjnipojakfjaaW.PrintMore
open LSame (Byt)
set_option linter.unusedVariables false
set_option linter.unusedSimpArgs false
theorem rot_and : ∀ n : Fin 32, bits .and .u64 (IntKind.u64.wrap (wrap64 (-(n.val : Int)))) 31 = (((32 - n.val) % 32 : Nat) : Int) := by decide +kernel
theorem rot_some (x : Int) (n : Nat) (h0 : 1 ≤ n) (h1 : n < 32) : ∃ v, sha_rot.f x (n : Int) = some v := by
  unfold sha_rot.f bits_RotateLeft32.f
  rw [rot_and ⟨n, h1⟩]
  simp only []
  rw [show (32 - n) % 32 = 32 - n from Nat.mod_eq_of_lt (by omega)]
  rw [show IntKind.u64.wrap (32 - ((32 - n : Nat) : Int)) = (n : Int) by rw [LSame.u64w]; omega]
  rw [if_pos (by omega), if_pos (by omega)]
  exact ⟨_, rfl⟩
theorem first_some : ∃ l, sha_first.f = some l := by
  have h : sha_first.f.isSome = true := by decide +kernel
  exact Option.isSome_iff_exists.1 h
theorem rounds_some : ∃ l, sha_rounds.f = some l := by
  have h : sha_rounds.f.isSome = true := by decide +kernel
  exact Option.isSome_iff_exists.1 h
theorem next_some (l : List Int) (i : Int) : ∃ v, sha_spread.next l i = some v := by
  obtain ⟨a, ha⟩ := rot_some (rd l (i - 15)) 7 (by decide) (by decide)
  obtain ⟨b, hb⟩ := rot_some (rd l (i - 15)) 18 (by decide) (by decide)
  obtain ⟨c, hc⟩ := rot_some (rd l (i - 2)) 17 (by decide) (by decide)
  obtain ⟨d, hd⟩ := rot_some (rd l (i - 2)) 19 (by decide) (by decide)
  change sha_rot.f _ 7 = _ at ha
  change sha_rot.f _ 18 = _ at hb
  change sha_rot.f _ 17 = _ at hc
  change sha_rot.f _ 19 = _ at hd
  unfold sha_spread.next
  rw [ha, hb, hc, hd]
  exact ⟨_, rfl⟩
theorem more_some : ∀ (n : Nat) (l : List Int), ∃ r, sha_spread.more n l = some r ∧ r.length = l.length + n
  | 0, l => ⟨l, rfl, rfl⟩
  | n + 1, l => by
    obtain ⟨v, hv⟩ := next_some l (l.length : Int)
    obtain ⟨r, hr, hl⟩ := more_some n (l ++ [v])
    refine ⟨r, ?_, by rw [hl]; simp; omega⟩
    simp only [sha_spread.more, hv, Option.bind_some]
    exact hr
theorem spread_some (b : List Int) : ∃ r, sha_spread.f b = some r ∧ r.length = 64 := by
  obtain ⟨r, hr, hl⟩ := more_some 48 (sha_spread.begin b 16)
  exact ⟨r, hr, by rw [hl, sha_spread.begin_length]⟩
theorem rnds_some : ∀ (kk ws : List Int) (x : sha_behind.St), ∃ y, sha_behind.rnds kk ws x = some y
  | k :: kk, w :: ws, x => by
    obtain ⟨a, ha⟩ := rot_some x.e 6 (by decide) (by decide)
    obtain ⟨b, hb⟩ := rot_some x.e 11 (by decide) (by decide)
    obtain ⟨c, hc⟩ := rot_some x.e 25 (by decide) (by decide)
    obtain ⟨d, hd⟩ := rot_some x.a 2 (by decide) (by decide)
    obtain ⟨e, he⟩ := rot_some x.a 13 (by decide) (by decide)
    obtain ⟨f, hf⟩ := rot_some x.a 22 (by decide) (by decide)
    change sha_rot.f _ 6 = _ at ha
    change sha_rot.f _ 11 = _ at hb
    change sha_rot.f _ 25 = _ at hc
    change sha_rot.f _ 2 = _ at hd
    change sha_rot.f _ 13 = _ at he
    change sha_rot.f _ 22 = _ at hf
    simp only [sha_behind.rnds, sha_behind.rnd, ha, hb, hc, hd, he, hf, Option.bind_some]
    exact rnds_some kk ws _
  | [], ws, x => ⟨x, by cases ws <;> rfl⟩
  | k :: kk, [], x => ⟨x, rfl⟩
theorem run_some (kk : List Int) : ∀ (n : Nat) (l : List Int) (s : sha_behind.St), ∃ t, sha_Sum.run kk n l s = some t
  | 0, l, s => ⟨s, rfl⟩
  | n + 1, l, s => by
    obtain ⟨ws, hws, _⟩ := spread_some (l.take 64)
    obtain ⟨x, hx⟩ := rnds_some kk ws s
    simp only [sha_Sum.run, hws, hx, Option.bind_some]
    exact run_some kk n _ _
theorem bytes_byt (l : List Int) : Byt (l.flatMap sha_Sum.bytes) := by
  intro x hx
  obtain ⟨z, hz, hxz⟩ := List.mem_flatMap.1 hx
  simp only [sha_Sum.bytes, List.mem_cons, List.not_mem_nil, or_false] at hxz
  rcases hxz with rfl | rfl | rfl | rfl <;> omega
theorem sum_some (l : List Int) (hbig : l.length < 500000) : ∃ r, Ev (fun k => sha_Sum.f k l) r ∧ r.length = 32 ∧ Byt r := by
  obtain ⟨kk, hkk⟩ := rounds_some
  obtain ⟨s0, hs0⟩ := first_some
  have htl := LTail.tail_ev (l.length : Int) (by omega) (by omega)
  have hgl := LTail.gap_lt (l.length : Int)
  have hga := LTail.gap_all (l.length : Int)
  have hln := LTail.tail_length (l.length : Int)
  generalize LTail.tail (l.length : Int) = tl at *
  generalize LTail.gap (l.length : Int) = gp at *
  have hmod : ((l.drop (l.length / 64 * 64)) ++ tl).length % 64 = 0 ∧ tl.length < 1000 := by
    rw [List.length_append, List.length_drop]; omega
  obtain ⟨s1, hs1⟩ := run_some kk (l.length / 64) l (sha_Block.st s0)
  obtain ⟨y, hy⟩ := run_some kk (((l.drop (l.length / 64 * 64)) ++ tl).length / 64) ((l.drop (l.length / 64 * 64)) ++ tl) s1
  refine ⟨y.list.flatMap sha_Sum.bytes, ?_, by rw [sha_Sum.bytes_length]; rfl, bytes_byt _⟩
  unfold sha_Sum.f
  rw [hkk, hs0]
  simp only [Option.bind_some]
  refine Ev.congr (f := fun k => (sha_Tail.f k (l.length : Int)).bind fun tl => if ((l.drop (l.length / 64 * 64)) ++ tl).length % 64 = 0 ∧ tl.length < 1000 then (sha_Sum.run kk (((l.drop (l.length / 64 * 64)) ++ tl).length / 64) ((l.drop (l.length / 64 * 64)) ++ tl) s1).bind fun s2 => some (s2.list.flatMap sha_Sum.bytes) else none) (fun k => ?_) ?_
  · rw [if_pos (by omega), hs1]; rfl
  · refine Ev.bind (f := fun k tl => if ((l.drop (l.length / 64 * 64)) ++ tl).length % 64 = 0 ∧ tl.length < 1000 then (sha_Sum.run kk (((l.drop (l.length / 64 * 64)) ++ tl).length / 64) ((l.drop (l.length / 64 * 64)) ++ tl) s1).bind fun s2 => some (s2.list.flatMap sha_Sum.bytes) else none) htl ?_
    rw [if_pos hmod, hy]
    exact Ev.now _
theorem block_some (l : List Int) (hl : l.length ≤ 1000) (c : Int) : ∃ kb, Ev (fun k => hmac_block.f k l c) ((hmac_block.pad kb).map (fun z => hmac_block.cell z c)) := by
  by_cases h : 64 < l.length
  · obtain ⟨kb, h1, h32, hkb⟩ := sum_some l (by omega)
    refine ⟨kb, Ev.congr (f := fun k => (sha_Sum.f k l).bind fun kb => some ((hmac_block.pad kb).map (fun z => hmac_block.cell z c))) (fun k => by unfold hmac_block.f; rw [if_pos h]) ?_⟩
    exact Ev.bind (f := fun k kb => some ((hmac_block.pad kb).map (fun z => hmac_block.cell z c))) h1 (Ev.now _)
  · exact ⟨l, Ev.congr (f := fun k => some ((hmac_block.pad l).map (fun z => hmac_block.cell z c))) (fun k => by unfold hmac_block.f; rw [if_neg h]; rfl) (Ev.now _)⟩
theorem tag_some (l m : List Int) (hl : l.length ≤ 1000) (hml : m.length ≤ 100000) : ∃ r : List Int, r.length = 32 ∧ Byt r ∧ Ev (fun k => hmac_Tag.f k l m) r := by
  obtain ⟨a, ha⟩ := block_some l hl 54
  obtain ⟨b, hb⟩ := block_some l hl 92
  have hal : ((hmac_block.pad a).map (fun z => hmac_block.cell z 54)).length = 64 := by rw [List.length_map, hmac_block.pad_length]
  have hbl : ((hmac_block.pad b).map (fun z => hmac_block.cell z 92)).length = 64 := by rw [List.length_map, hmac_block.pad_length]
  generalize (hmac_block.pad a).map (fun z => hmac_block.cell z 54) = i at *
  generalize (hmac_block.pad b).map (fun z => hmac_block.cell z 92) = o at *
  obtain ⟨s, s1, s32, sb⟩ := sum_some (i ++ m) (by rw [List.length_append]; omega)
  obtain ⟨t, t1, t32, tb⟩ := sum_some (o ++ s) (by rw [List.length_append]; omega)
  refine ⟨t, t32, tb, ?_⟩
  refine Ev.congr (fun k => hmac_Tag.f.eq_1 ..) (LEv.bd _ ha (LEv.bd _ hb (LEv.pos (by omega) (LEv.bd _ s1 (LEv.pos (by omega) (LEv.bd _ t1 (LEv.pos (by omega) (LEv.fin ?_))))))))
  rw [List.take_of_length_le (by omega)]
end Go.Proofs.Ytogjnipojakfjaa.LSha
