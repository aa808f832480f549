/- The law HmacTags, over numbers alone. -/
import Derived.Test.YtpebbjhllfcnbaaLHmac
import Derived.Test.YtpebbjhllfcnbaaPAllx9
namespace Go.Proofs.Ytpebbjhllfcnbaa.Pure
open Go.RowKit Go.Proofs.Ytpebbjhllfcnbaa.LSha Go.Proofs.Ytpebbjhllfcnbaa.LHmac Go.Proofs.Ytpebbjhllfcnbaa.PAll Go.Proofs.YtpebbjhllfcnbaaW.PrintWords Go.Proofs.YtpebbjhllfcnbaaW.PrintLast Go.Proofs.YtpebbjhllfcnbaaW.PrintMore
set_option linter.unusedVariables false
theorem tags_big (l m : List Int) : Ev (fun k => notarylaw04_HmacTags.j0 k l m true) true := by
  obtain ⟨r, hr, h1, h2⟩ := tag_same [] [] (fun x hx => by cases hx) (by simp) (fun x hx => by cases hx) (by simp)
  refine Ev.step (f := fun k => (hmac_Tag.f k ([] : List Int) ([] : List Int)).bind fun t386 => (some ((t386.length : Int) == 32))) (fun k => ?_) ?_
  · simp only [notarylaw04_HmacTags.j0]; rw [if_pos trivial]
  · refine Ev.bind (f := fun k (t386 : List Int) => (some ((t386.length : Int) == 32))) h1 ?_
    rw [hr]; exact Ev.now _
theorem HmacTags : notarylaw04_HmacTags.Pure := by
  intro l m hl hl2 hlw hm hm2 hmw
  have hb : Byt l := Ytpebbjhllfcnbaa.LSame.byt_u8 hlw
  have hmb : Byt m := Ytpebbjhllfcnbaa.LSame.byt_u8 hmw
  refine Ev.rounds (g := fun k => notarylaw04_HmacTags.f k l m) ?_
  unfold notarylaw04_HmacTags.f
  by_cases h : (l.length : Int) > 200
  · exact Ev.congr (fun k => if_pos h) (tags_big l m)
  · refine Ev.congr (f := fun k => notarylaw04_HmacTags.j0 k l m (decide ((m.length : Int) > 200))) (fun k => if_neg h) ?_
    by_cases h2 : (m.length : Int) > 200
    · rw [decide_eq_true h2]; exact tags_big l m
    · rw [decide_eq_false h2]
      obtain ⟨r, hr, e1, e2⟩ := tag_same l m hb (by omega) hmb (by omega)
      refine Ev.step (f := fun k => (hmac_Tag.f k l m).bind fun t389 => ((notaryref04_Tag.f k l m).bind fun t392 => ((notaryref01_Same.f k t389 t392).bind fun t395 => (some t395)))) (fun k => ?_) ?_
      · simp only [notarylaw04_HmacTags.j0]; rw [if_neg (by simp)]
      · refine Ev.bind (f := fun k t389 => (notaryref04_Tag.f k l m).bind fun t392 => ((notaryref01_Same.f k t389 t392).bind fun t395 => (some t395))) e1 ?_
        refine Ev.bind (f := fun k t392 => (notaryref01_Same.f k r t392).bind fun t395 => (some t395)) e2 ?_
        exact Ev.bind (f := fun k t => some t) (Ytpebbjhllfcnbaa.LSame.same_self r (by omega)) (Ev.now _)
end Go.Proofs.Ytpebbjhllfcnbaa.Pure
