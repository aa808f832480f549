/- The law HmacKeys, over numbers alone. -/
import Derived.Test.YtpebbjhllfcnbaaLHmac
import Derived.Test.YtpebbjhllfcnbaaPAllx9
namespace Go.Proofs.Ytpebbjhllfcnbaa.Pure
open Go.RowKit Go.Proofs.Ytpebbjhllfcnbaa.LSha Go.Proofs.Ytpebbjhllfcnbaa.LHmac Go.Proofs.Ytpebbjhllfcnbaa.PAll Go.Proofs.YtpebbjhllfcnbaaW.PrintWords Go.Proofs.YtpebbjhllfcnbaaW.PrintLast Go.Proofs.YtpebbjhllfcnbaaW.PrintMore
set_option linter.unusedVariables false
theorem keys_big (l m : List Int) : Ev (fun k => notarylaw04_HmacKeys.j0 k l m true) true := by
  obtain ⟨r, hr, h1, h2⟩ := tag_same [] [] (fun x hx => by cases hx) (by simp) (fun x hx => by cases hx) (by simp)
  refine Ev.step (f := fun k => (hmac_Tag.f k ([] : List Int) ([] : List Int)).bind fun t => (some ((t.length : Int) == 32))) (fun k => ?_) ?_
  · simp only [notarylaw04_HmacKeys.j0]; rw [if_pos trivial]
  · refine Ev.bind (f := fun k (t : List Int) => (some ((t.length : Int) == 32))) h1 ?_
    rw [hr]; exact Ev.now _
theorem pad_zero (l : List Int) (h : l.length < 64) : hmac_block.pad (l ++ [0]) = hmac_block.pad l := by
  rw [pad_le _ (by simp; omega), pad_le _ (by omega)]
  rw [List.append_assoc]
  congr 1
  rw [List.length_append, List.length_singleton, show 64 - l.length = (64 - (l.length + 1)) + 1 by omega, List.replicate_succ]
  rfl
/-- the end of the law: two tags of one block -/
theorem keys_end (l m : List Int) (a b : Nat → Option (List Int)) (r : List Int) (hr : r.length = 32) (ha : Ev a r) (hb : Ev b r) :
    Ev (fun k => (a k).bind fun t => (if (t.length : Int) = 32 then ((b k).bind fun u => ((notaryref01_Same.f k t u).bind fun v => (some v))) else (some false))) true := by
  refine Ev.bind (f := fun k t => (if (t.length : Int) = 32 then ((b k).bind fun u => ((notaryref01_Same.f k t u).bind fun v => (some v))) else (some false))) ha ?_
  refine Ev.congr (f := fun k => (b k).bind fun u => ((notaryref01_Same.f k r u).bind fun v => (some v))) (fun k => if_pos (by omega)) ?_
  refine Ev.bind (f := fun k u => (notaryref01_Same.f k r u).bind fun v => (some v)) hb ?_
  exact Ev.bind (f := fun k t => some t) (Ytpebbjhllfcnbaa.LSame.same_self r (by omega)) (Ev.now _)
theorem HmacKeys : notarylaw04_HmacKeys.Pure := by
  intro l m hl hl2 hlw hm hm2 hmw
  have hb : Byt l := Ytpebbjhllfcnbaa.LSame.byt_u8 hlw
  have hmb : Byt m := Ytpebbjhllfcnbaa.LSame.byt_u8 hmw
  refine Ev.rounds (g := fun k => notarylaw04_HmacKeys.f k l m) ?_
  unfold notarylaw04_HmacKeys.f
  by_cases h : (l.length : Int) > 200
  · exact Ev.congr (fun k => if_pos h) (keys_big l m)
  refine Ev.congr (f := fun k => notarylaw04_HmacKeys.j0 k l m (decide ((m.length : Int) > 200))) (fun k => if_neg h) ?_
  by_cases h2 : (m.length : Int) > 200
  · rw [decide_eq_true h2]; exact keys_big l m
  rw [decide_eq_false h2]
  obtain ⟨kb, hk64, hbig, hsm, h1, _⟩ := key_ev l hb (by omega)
  obtain ⟨r, hr, ha, _⟩ := tag_p (hmac_block.pad kb) m (hmac_block.pad_length kb) hmb (by omega)
  have hT := ha l h1
  by_cases c1 : (l.length : Int) > 64
  · obtain ⟨s2, sb, s32⟩ := hbig (by omega)
    obtain ⟨kb2, hk2, _, hsm2, g1, _⟩ := key_ev kb sb (by omega)
    have e2 : kb2 = kb := hsm2 (by omega)
    rw [e2] at g1
    have hU := ha kb g1
    refine Ev.step (f := fun k => (notaryref03_Sum.f k l).bind fun t405 => ((hmac_Tag.f k l m).bind fun t408 => (if (t408.length : Int) = 32 then ((hmac_Tag.f k t405 m).bind fun t411 => ((notaryref01_Same.f k t408 t411).bind fun t414 => (some t414))) else (some false)))) (fun k => ?_) ?_
    · simp only [notarylaw04_HmacKeys.j0, Option.bind_some, List.length_nil]
      rw [if_neg (by simp), if_pos (by omega), if_pos c1]
    · refine Ev.bind (f := fun k t405 => (hmac_Tag.f k l m).bind fun t408 => (if (t408.length : Int) = 32 then ((hmac_Tag.f k t405 m).bind fun t411 => ((notaryref01_Same.f k t408 t411).bind fun t414 => (some t414))) else (some false))) s2 ?_
      exact keys_end l m _ _ r hr hT hU
  · have e1 : kb = l := hsm (by omega)
    by_cases c2 : (l.length : Int) < 64
    · obtain ⟨kb2, hk2, _, hsm2, g1, _⟩ := key_ev (l ++ [0]) (fun x hx => (List.mem_append.1 hx).elim (hb x) (fun hx => by obtain rfl := List.mem_singleton.1 hx; decide)) (by simp; omega)
      have e2 : kb2 = l ++ [0] := hsm2 (by simp; omega)
      rw [e2, pad_zero l (by omega), ← e1] at g1
      have hU := ha _ g1
      rw [e1] at hU
      refine Ev.step (f := fun k => (hmac_Tag.f k l m).bind fun t418 => (if (t418.length : Int) = 32 then ((hmac_Tag.f k (l ++ [0]) m).bind fun t421 => ((notaryref01_Same.f k t418 t421).bind fun t424 => (some t424))) else (some false))) (fun k => ?_) (keys_end l m _ _ r hr hT hU)
      simp only [notarylaw04_HmacKeys.j0, Option.bind_some, List.length_nil, List.nil_append]
      rw [if_neg (by simp), if_pos (by omega), if_neg c1, if_pos c2, if_pos (by omega)]
    · refine Ev.step (f := fun k => (hmac_Tag.f k l m).bind fun t425 => (if (t425.length : Int) = 32 then ((hmac_Tag.f k l m).bind fun t428 => ((notaryref01_Same.f k t425 t428).bind fun t431 => (some t431))) else (some false))) (fun k => ?_) (keys_end l m _ _ r hr hT hT)
      simp only [notarylaw04_HmacKeys.j0, Option.bind_some, List.length_nil, List.nil_append]
      rw [if_neg (by simp), if_pos (by omega), if_neg c1, if_neg c2]
end Go.Proofs.Ytpebbjhllfcnbaa.Pure
