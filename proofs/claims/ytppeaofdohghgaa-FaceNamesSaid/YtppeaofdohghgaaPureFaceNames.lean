/- The law of how faces go over, over lists alone. -/
import Derived.Test.YtppeaofdohghgaaLFace
import Derived.Test.YtppeaofdohghgaaPFcx10
namespace Go.Proofs.Ytppeaofdohghgaa.LFace
open Go.RowKit Go.Proofs.Ytppeaofdohghgaa.PFc Go.Proofs.YtppeaofdohghgaaW.PrintWords Go.Proofs.YtppeaofdohghgaaW.PrintLast Go.Proofs.YtppeaofdohghgaaW.PrintMore
open LTerm (T Fine ind up1 len1 lenlt)
set_option linter.unusedVariables false
theorem l1S_len (q : List F) (l : List P) : ∀ (p : List F) (out r : List N), l1S q l p out = some r → r.length = out.length + p.length
  | [], out, r, h => by obtain rfl := Option.some.inj h; simp
  | f :: fs, out, r, h => by
    rw [l1S] at h
    cases hn : goS q l f with
    | none => rw [hn] at h; cases h
    | some n =>
      rw [hn] at h
      have := l1S_len q l fs (out ++ [n]) r h
      simp at this ⊢
      omega
theorem namesS_len (p q : List F) (l : List P) : (namesS p q l).1.length ≤ p.length := by
  unfold namesS
  cases h : l1S q l p [] with
  | none => simp
  | some out =>
    have := l1S_len q l p [] out h
    simp only
    split
    · simp at this ⊢; omega
    · simp
theorem FaceNames (p q : List F) (l : List P) (hp : p.length ≤ 9223372036854775807) (hq : q.length ≤ 9223372036854775807) (hF : ∀ f ∈ p, FineF f) (hG : ∀ f ∈ q, FineF f) : Ev (fun m => notarylaw18_FaceNames.f m p q l) true := by
  have big : Ev (fun m => notarylaw18_FaceNames.j0 m p q l true) true := Ev.step (fun m => notarylaw18_FaceNames.j0.eq_2 ..) (LEv.pos rfl (LEv.bd true awake_ev (Ev.now _)))
  obtain ⟨a, ha, ha2⟩ := large_ev p hp hF
  obtain ⟨b, hb, hb2⟩ := large_ev q hq hG
  refine Ev.congr (fun m => notarylaw18_FaceNames.f.eq_1 ..) (LEv.bd a ha ?_)
  cases a with
  | true => exact LEv.pos rfl big
  | false =>
    refine LEv.neg (by decide) (LEv.bd b hb ?_)
    cases b with
    | true => exact LEv.pos rfl big
    | false =>
      refine LEv.neg (by decide) ?_
      by_cases hl : (l.length : Int) > 60
      · rw [decide_eq_true hl]
        exact big
      · rw [decide_eq_false hl]
        have h1 := ha2 rfl
        have h2 := hb2 rfl
        have hn := namesS_len p q l
        exact Ev.step (fun m => notarylaw18_FaceNames.j0.eq_2 ..) (LEv.neg (by decide) (LEv.bd _ (names_ev p q l (by omega)) (LEv.bd _ (refnames_ev p q l (by omega) (by omega) (by omega) hF hG) (LEv.pos (by simp) (LEv.bd true (named_self _ (by omega)) (LEv.pos rfl (LEv.bd true awake_ev (Ev.now _))))))))
end Go.Proofs.Ytppeaofdohghgaa.LFace
