/- The law ShaBlocks, over numbers alone. -/
import Derived.Test.YtpebbjhllfcnbaaLSha3
import Derived.Test.YtpebbjhllfcnbaaPAllx7
namespace Go.Proofs.Ytpebbjhllfcnbaa.Pure
open Go.RowKit Go.Proofs.Ytpebbjhllfcnbaa.LSha Go.Proofs.Ytpebbjhllfcnbaa.PAll Go.Proofs.YtpebbjhllfcnbaaW.PrintWords Go.Proofs.YtpebbjhllfcnbaaW.PrintLast Go.Proofs.YtpebbjhllfcnbaaW.PrintMore
set_option linter.unusedVariables false
theorem ShaBlocks : notarylaw03_ShaBlocks.Pure := by
  intro st b hsl hsl2 hsw hbl hbl2 hbw
  have hb : Byt b := Ytpebbjhllfcnbaa.LSame.byt_u8 hbw
  obtain ⟨kk, hkk, hrk, hkw, hkl⟩ := rounds_ev
  obtain ⟨s0, hs0, hrs, hsw0, hsl0⟩ := first_ev
  refine Ev.rounds (g := fun k => notarylaw03_ShaBlocks.f k st b) ?_
  have hbad : ¬ (st.length = 8 ∧ b.length = 64) → Ev (fun k => notarylaw03_ShaBlocks.j0 k st b true) true := by
    intro hne
    refine Ev.step (f := fun k => (notaryref03_Start.f k).bind fun t255 => ((notaryref03_Alike.f k s0 t255).bind fun t258 => (some t258))) (fun k => ?_) ?_
    · simp only [notarylaw03_ShaBlocks.j0, sha_Block.f, if_neg hne, sha_Start.f, hs0, Option.bind_some, List.length_nil]
      simp
    · refine Ev.bind (f := fun k t255 => (notaryref03_Alike.f k s0 t255).bind fun t258 => (some t258)) hrs ?_
      exact Ev.bind (f := fun k t => some t) (alike_ev s0 (by omega)) (Ev.now _)
  by_cases h8 : st.length = 8
  · by_cases h64 : b.length = 64
    · obtain ⟨r, hr, hrev, hrw, hrl⟩ := block_ev st b kk h8 hb h64 hkl
      refine Ev.congr (f := fun k => notarylaw03_ShaBlocks.j0 k st b false) (fun k => ?_) ?_
      · simp only [notarylaw03_ShaBlocks.f]
        rw [if_pos (by omega), h64]; rfl
      · refine Ev.step (f := fun k => (notaryref03_Rounds.f k).bind fun t262 => ((notaryref03_Block.f k st b t262).bind fun t265 => ((notaryref03_Alike.f k r t265).bind fun t268 => (some t268)))) (fun k => ?_) ?_
        · simp only [notarylaw03_ShaBlocks.j0, sha_Block.f]
          rw [if_pos (show st.length = 8 ∧ b.length = 64 from ⟨h8, h64⟩), hkk, Option.bind_some, hr]
          simp
        · refine Ev.bind (f := fun k t262 => (notaryref03_Block.f k st b t262).bind fun t265 => ((notaryref03_Alike.f k r t265).bind fun t268 => (some t268))) hrk ?_
          refine Ev.bind (f := fun k t265 => (notaryref03_Alike.f k r t265).bind fun t268 => (some t268)) hrev ?_
          exact Ev.bind (f := fun k t => some t) (alike_ev r (by omega)) (Ev.now _)
    · refine Ev.congr (f := fun k => notarylaw03_ShaBlocks.j0 k st b true) (fun k => ?_) (hbad (fun hh => h64 hh.2))
      simp only [notarylaw03_ShaBlocks.f]
      rw [if_pos (by omega), show (((b.length : Int) != 64) = true) by simp; omega]
  · refine Ev.congr (f := fun k => notarylaw03_ShaBlocks.j0 k st b true) (fun k => ?_) (hbad (fun hh => h8 hh.1))
    simp only [notarylaw03_ShaBlocks.f]
    rw [if_neg (by omega)]
end Go.Proofs.Ytpebbjhllfcnbaa.Pure
