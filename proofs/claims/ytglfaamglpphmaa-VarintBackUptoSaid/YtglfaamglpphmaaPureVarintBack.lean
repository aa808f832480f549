/- The law VarintBack, over lists and numbers alone: true of any number, with any bytes ahead and behind that are together no more than a million. -/
import Derived.Test.YtglfaamglpphmaaLVarint
import Derived.Test.YtglfaamglpphmaaPAllx2
namespace Go.Proofs.Ytglfaamglpphmaa.Pure
open Go.RowKit Go.Proofs.Ytglfaamglpphmaa.SVarint Go.Proofs.Ytglfaamglpphmaa.LVarint Go.Proofs.Ytglfaamglpphmaa.PAll Go.Proofs.YtglfaamglpphmaaW.PrintWords Go.Proofs.YtglfaamglpphmaaW.PrintLast

theorem VarintBack (l0 : List Int) (v : Int) (l2 : List Int) (h0 : Byt l0) (h2 : Byt l2) (v0 : 0 ≤ v) (v1 : v < 18446744073709551616) (hs : l0.length + l2.length ≤ 1048576) : ∃ k, notarylaw01_VarintBack.f k l0 v l2 = some true := by
  refine Ev.rounds (g := fun k => notarylaw01_VarintBack.f k l0 v l2) ?_
  have hel := enc_length v
  unfold notarylaw01_VarintBack.f
  refine Ev.bind (bytes_ev v v0 v1) (Ev.bind (rbytes_ev v v0 v1) (Ev.bind (same_ev _ _ (by omega)) ?_))
  have hall : Byt (l0 ++ enc v ++ l2) := (h0.append (enc_byt v v0)).append h2
  have hg : getS (l0 ++ enc v ++ l2) (l0.length : Int) = (v, (l0.length : Int) + (enc v).length, 0) := by
    unfold getS
    rw [if_neg (by simp only [List.length_append]; omega)]
    have e : (l0 ++ enc v ++ l2).drop (l0.length : Int).toNat = enc v ++ l2 := by
      rw [Int.toNat_natCast, List.append_assoc, List.drop_left]
    rw [e, dec_enc v l2 v0 v1]
    rfl
  refine Ev.congr (f := fun k => (varint_Get.f k (l0 ++ enc v ++ l2) (l0.length : Int)).bind fun bt141 => (if bt141.2.2 = 0 then (if bt141.1 = v then (some (bt141.2.1 == (wrap64 ((l0.length : Int) + ((enc v).length : Int))))) else (some false)) else (some false))) (fun k => ?_) ?_
  · simp only [decide_true, if_true, Option.bind_some, List.nil_append, List.length_append, List.length_nil]
    rw [if_pos (by omega), if_pos (by omega), if_pos (by omega)]
  · refine Ev.bind (get_ev _ _ (by simp only [List.length_append]; omega) hall) ?_
    rw [hg]
    simp only [if_true]
    rw [w64 _ (by omega) (by omega)]
    simp only [beq_self_eq_true]
    exact Ev.now _
end Go.Proofs.Ytglfaamglpphmaa.Pure
