/- The law of frames that come back, over numbers and lists alone. -/
import Derived.Test.YtcckjbodboimgaaLEnt3
import Derived.Test.YtcckjbodboimgaaPAllx2
namespace Go.Proofs.Ytcckjbodboimgaa.LEnt
open Go.RowKit Go.Proofs.Ytcckjbodboimgaa.PAll Go.Proofs.YtcckjbodboimgaaW.PrintWords Go.Proofs.YtcckjbodboimgaaW.PrintLast Go.Proofs.YtcckjbodboimgaaW.PrintMore
set_option linter.unusedVariables false
theorem awake_bind : Ev (fun _ : Nat => (notarylaw46_awake.f).bind fun t => some t) true := by rw [awake_ok]; exact Ev.now _
theorem entry_same (k : Int) (b : List Int) (hb : b.length ≤ 281474976710656) : Ev (fun m => notaryref46_Same.f m k b k b) true :=
  Ev.congr (fun m => notaryref46_Same.f.eq_1 ..) (LEv.pos rfl (LEv.bd _ (LSame.same_self b hb) (Ev.now _)))
theorem EntryBack (l0 : List Int) (k : Int) (b t : List Int) (h0 : l0.length ≤ 1048576) (ht : t.length ≤ 281474976710656) : Ev (fun m => notarylaw46_EntryBack.f m l0 k b t) true := by
  refine Ev.congr (fun m => notarylaw46_EntryBack.f.eq_1 ..) ?_
  by_cases hb : (b.length : Int) > 2000
  · exact LEv.pos hb awake_bind
  have hp := payS_len k b
  have hf : (frS k b t).1.length ≤ 2000 := by
    by_cases h : (frS k b t).2 = 0
    · obtain ⟨_, _, h1, h2, h3⟩ := frS_ok k b t h
      rw [h3]
      unfold entry_length.bytes
      simp
      omega
    · unfold frS at h ⊢
      by_cases q : (payS k b).2 = 0
      · rw [if_pos q] at h ⊢
        by_cases q2 : t.length = 32
        · rw [if_pos q2] at h
          exact absurd rfl h
        · rw [if_neg q2]
          simp
      · rw [if_neg q]
        simp
  refine LEv.neg hb (LEv.eqb (payload_ok k b) (LEv.bd _ (rpayload_ev k b) (LEv.eqb (frame_ok k b t) (LEv.bd _ (rframe_ev k b t) (LEv.pos rfl (LEv.bd _ (LSame.same_self _ (by omega)) (LEv.pos rfl (LEv.pos rfl (LEv.bd _ (LSame.same_self _ (by omega)) ?_)))))))))
  refine Ev.step (fun m => notarylaw46_EntryBack.j0.eq_2 ..) (LEv.neg (by decide) ?_)
  by_cases h : (frS k b t).2 = 0
  · obtain ⟨hk1, hk2, hb', ht', hfr⟩ := frS_ok k b t h
    rw [hfr] at hf
    have hR := read_frame l0 l0 k b t hk1 hk2 hb' ht' (by omega)
    refine LEv.pos h (LEv.sb (LEv.pos (by simp; omega) (LEv.sb (LEv.pos (by rw [hfr, List.nil_append]; omega) (LEv.sb (LEv.pos (by rw [hfr, List.nil_append, List.length_append]; omega) ?_))))))
    rw [hfr, List.nil_append]
    refine LEv.eqb hR (LEv.pos rfl (LEv.bd _ (entry_same k b (by omega)) (LEv.pos rfl (LEv.bd _ (LSame.same_self _ ht) (LEv.pos rfl (LEv.pos ?_ awake_bind))))))
    rw [LEv.w64 _ (by omega) (by omega)]
    show ((l0.length + _ : Nat) : Int) = _
    omega
  · exact LEv.neg h awake_bind
end Go.Proofs.Ytcckjbodboimgaa.LEnt
