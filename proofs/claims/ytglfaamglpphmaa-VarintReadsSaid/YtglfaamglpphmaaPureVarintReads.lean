/- The law VarintReads, over lists and numbers alone: true of any bytes and any place. -/
import Derived.Test.YtglfaamglpphmaaLVarint
import Derived.Test.YtglfaamglpphmaaPAllx3
namespace Go.Proofs.Ytglfaamglpphmaa.Pure
open Go.RowKit Go.Proofs.Ytglfaamglpphmaa.SVarint Go.Proofs.Ytglfaamglpphmaa.LVarint Go.Proofs.Ytglfaamglpphmaa.PAll Go.Proofs.YtglfaamglpphmaaW.PrintWords Go.Proofs.YtglfaamglpphmaaW.PrintLast

theorem byt_u8 {l : List Int} (h : ∀ x ∈ l, (Lit.int .u8 x).wf = true) : Byt l := by
  intro x hx
  have := h x hx
  simp [Lit.wf, IntKind.min, IntKind.max, IntKind.signed, IntKind.bits] at this
  omega
theorem VarintReads : notarylaw01_VarintReads.Pure := by
  intro l a hl hl2 hb _
  have hB := byt_u8 hb
  have hlen : l.length ≤ 281474976710656 := by omega
  refine Ev.rounds (g := fun k => notarylaw01_VarintReads.f k l a) ?_
  unfold notarylaw01_VarintReads.f
  refine Ev.bind (get_ev l a hlen hB) (Ev.bind (rget_ev l a hlen hB) ?_)
  refine Ev.congr (f := fun k => notarylaw01_VarintReads.j0 k l a (getS l a).1 (getS l a).2.1 (getS l a).2.2 false) (fun k => by simp) ?_
  by_cases he : (getS l a).2.2 = 0
  · have h : getS l a = got a (dec (l.drop a.toNat) 0 0) ∧ 0 ≤ a ∧ a ≤ l.length := by
      unfold getS at he ⊢
      by_cases hr : a < 0 ∨ a > l.length
      · rw [if_pos hr] at he; simp at he
      · rw [if_neg hr]; exact ⟨rfl, by omega, by omega⟩
    obtain ⟨hg, h0, h1⟩ := h
    obtain ⟨v, m, e, hd⟩ : ∃ v m e, dec (l.drop a.toNat) 0 0 = (v, m, e) := ⟨_, _, _, rfl⟩
    have hz : e = 0 := by
      rw [hg, hd] at he
      unfold got at he
      by_cases z : e = 0
      · exact z
      · simp [z] at he
    subst hz
    rw [hg, hd]
    obtain ⟨v0, v1, hm, hm2, htk⟩ := dec_is _ (hB.drop _) v m hd
    have hel := enc_length v
    rw [List.length_drop] at hm2
    simp only [got, if_true]
    refine Ev.step (f := fun k => ((varint_Bytes.f k v).bind fun t124 => (if 0 ≤ a then (if a ≤ a + m then ((notaryref01_Same.f k t124 ((l.take (a + m : Int).toNat).drop a.toNat)).bind fun t128 => (some t128)) else (none)) else (none)))) (fun k => ?_) ?_
    · simp only [notarylaw01_VarintReads.j0]
      rw [if_neg (by decide), if_pos trivial, if_pos (by omega), if_pos (by omega)]
    · refine Ev.bind (bytes_ev v v0 v1) ?_
      refine Ev.congr (f := fun k => (notaryref01_Same.f k (enc v) ((l.take (a + m : Int).toNat).drop a.toNat)).bind fun t128 => (some t128)) (fun k => by rw [if_pos h0, if_pos (by omega)]) ?_
      refine Ev.bind (same_ev _ _ (by omega)) ?_
      have e : (l.take (a + m : Int).toNat).drop a.toNat = enc v := by
        rw [List.drop_take, show (a + (m : Int)).toNat - a.toNat = m by omega]; exact htk
      rw [e]
      simp only [decide_true]
      exact Ev.now _
  · refine Ev.step (f := fun k => ((varint_Bytes.f k (getS l a).1).bind fun t129 => (some ((t129.length : Int) == 1)))) (fun k => ?_) ?_
    · simp only [notarylaw01_VarintReads.j0]
      rw [if_neg (by decide), if_neg he]
    · have hz : (getS l a).1 = 0 := by
        unfold getS at he ⊢
        by_cases hr : a < 0 ∨ a > l.length
        · rw [if_pos hr]
        · rw [if_neg hr] at he ⊢
          unfold got at he ⊢
          by_cases z : (dec (l.drop a.toNat) 0 0).2.2 = 0
          · rw [if_pos z] at he; simp at he
          · rw [if_neg z]
      rw [hz]
      refine Ev.bind (bytes_ev 0 (by decide) (by decide)) ?_
      exact Ev.now _
end Go.Proofs.Ytglfaamglpphmaa.Pure
