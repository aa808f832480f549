/- The law of faces that go over and back, over lists alone. -/
import Derived.Test.YtppeaofdohghgaaLFace
import Derived.Test.YtppeaofdohghgaaPFcx11
namespace Go.Proofs.Ytppeaofdohghgaa.LFace
open Go.RowKit Go.Proofs.Ytppeaofdohghgaa.PFc Go.Proofs.YtppeaofdohghgaaW.PrintWords Go.Proofs.YtppeaofdohghgaaW.PrintLast Go.Proofs.YtppeaofdohghgaaW.PrintMore
open LTerm (T Fine ind up1 len1 lenlt)
set_option linter.unusedVariables false
set_option linter.unusedSimpArgs false
def selfP (f : F) : P := ⟨f.f3, f.f3⟩
def nm (f : F) : N := ⟨f.f0, f.f0⟩
/-- each face at a place of its own -/
def Dist (p : List F) : Prop := ∀ (i j : Nat) (hi : i < j) (hj : j < p.length), p[i].f3 ≠ p[j].f3
theorem find_dist {p : List F} (h : Dist p) {f : F} (hf : f ∈ p) : p.find? (fun g => g.f3 == f.f3) = some f := by
  obtain ⟨i, hi, rfl⟩ := List.getElem_of_mem hf
  rw [List.find?_eq_some_iff_getElem]
  exact ⟨by simp, i, hi, rfl, fun j hj => by simpa using h j i hj hi⟩
theorem find_selfA (p : List F) (d : Int) : (p.map selfP).find? (fun x => x.f0 == d) = (p.find? (fun g => g.f3 == d)).map selfP := by rw [List.find?_map]; rfl
theorem find_selfB (p : List F) (d : Int) : (p.map selfP).find? (fun x => x.f1 == d) = (p.find? (fun g => g.f3 == d)).map selfP := by rw [List.find?_map]; rfl
theorem go_self {p : List F} (h : Dist p) {f : F} (hf : f ∈ p) : goS p (p.map selfP) f = some (nm f) := by
  unfold goS
  rw [find_selfA, find_dist h hf]
  simp only [Option.map_some, selfP]
  rw [find_dist h hf]
  simp only
  rw [find_selfB, find_dist h hf, alB_refl]
  simp [selfP, nm]
theorem two_self {p : List F} (h : Dist p) {f : F} (hf : f ∈ p) : twoS p (p.map selfP) f = true := by
  unfold twoS
  rw [find_selfB, find_dist h hf]
  simp only [Option.map_some, selfP]
  rw [find_dist h hf]
  simp only
  rw [find_selfA, find_dist h hf, alB_refl]
  simp [selfP]
theorem names_self {p : List F} (h : Dist p) : namesS p p (p.map selfP) = (p.map nm, true) := by
  unfold namesS
  rw [l1S_some _ _ p [] (List.all_eq_true.2 (fun f hf => by rw [go_self h hf]; rfl))]
  simp only
  rw [if_pos (List.all_eq_true.2 (fun f hf => two_self h hf)), List.nil_append]
  congr 1
  have : ∀ l : List F, (∀ f ∈ l, f ∈ p) → l.filterMap (goS p (p.map selfP)) = l.map nm := by
    intro l
    induction l with
    | nil => intro _; rfl
    | cons f l ih =>
      intro hl
      rw [List.filterMap_cons, go_self h (hl f List.mem_cons_self), List.map_cons, ih (fun x hx => hl x (List.mem_cons_of_mem _ hx))]
  exact this p (fun _ h => h)
/-- what goes over goes back -/
theorem names_back (p q : List F) (l : List P) (hd : Dist p) (h : (namesS p q l).2 = true) : (namesS q p (l.map sw)).2 = true ∧ (namesS q p (l.map sw)).1.length = q.length ∧ (namesS p q l).1.length = p.length ∧
    ∀ n ∈ (namesS p q l).1, ∃ m ∈ (namesS q p (l.map sw)).1, m.f0 = n.f1 ∧ m.f1 = n.f0 := by
  have h1 : (p.all fun f => (goS q l f).isSome) = true := by
    cases ha : (p.all fun f => (goS q l f).isSome) with
    | true => rfl
    | false => unfold namesS at h; rw [l1S_none q l p [] ha] at h; simp at h
  have h2 : q.all (twoS p l) = true := by
    cases ha : q.all (twoS p l) with
    | true => rfl
    | false => unfold namesS at h; rw [l1S_some q l p [] h1, ha] at h; simp at h
  have e1 : (q.all fun g => (goS p (l.map sw) g).isSome) = true := by
    rw [← h2]
    congr 1
    funext g
    exact (two_turned p l g).symm
  have e2 : p.all (twoS q (l.map sw)) = true := by
    rw [← h1]
    congr 1
    funext f
    rw [two_turned, sw_sw]
  have n1 : namesS p q l = (p.filterMap (goS q l), true) := by
    unfold namesS
    rw [l1S_some q l p [] h1]
    simp only
    rw [if_pos h2, List.nil_append]
  have n2 : namesS q p (l.map sw) = (q.filterMap (goS p (l.map sw)), true) := by
    unfold namesS
    rw [l1S_some p (l.map sw) q [] e1]
    simp only
    rw [if_pos e2, List.nil_append]
  have len : ∀ (q : List F) (l : List P) (p : List F), (p.all fun f => (goS q l f).isSome) = true → (p.filterMap (goS q l)).length = p.length := by
    intro q l p
    induction p with
    | nil => intro _; rfl
    | cons f p ih =>
      intro hh
      rw [List.all_cons, Bool.and_eq_true] at hh
      obtain ⟨n, hn⟩ := Option.isSome_iff_exists.1 hh.1
      rw [List.filterMap_cons, hn]
      simp [ih hh.2]
  rw [n1, n2]
  refine ⟨rfl, len _ _ _ e1, len _ _ _ h1, fun n hn => ?_⟩
  obtain ⟨f, hf, hfn⟩ := List.mem_filterMap.1 hn
  unfold goS at hfn
  cases hx : l.find? (fun x => x.f0 == f.f3) with
  | none => rw [hx] at hfn; simp at hfn
  | some x =>
    rw [hx] at hfn
    simp only at hfn
    cases hg : q.find? (fun g => g.f3 == x.f1) with
    | none => rw [hg] at hfn; simp at hfn
    | some g =>
      rw [hg] at hfn
      simp only at hfn
      split at hfn
      · split at hfn
        · rename_i hy
          obtain rfl := Option.some.inj hfn
          have hgq := List.mem_of_find?_eq_some hg
          have hgd : g.f3 = x.f1 := by simpa using List.find?_some hg
          have hgo := List.all_eq_true.1 e1 g hgq
          obtain ⟨m, hm⟩ := Option.isSome_iff_exists.1 hgo
          refine ⟨m, List.mem_filterMap.2 ⟨g, hgq, hm⟩, ?_⟩
          unfold goS at hm
          rw [find_sw0, hgd] at hm
          cases hz : l.find? (fun y => y.f1 == x.f1) with
          | none => rw [hz] at hm; simp at hm
          | some y =>
            rw [hz] at hm hy
            simp only [Option.map_some, sw, Option.getD_some] at hm hy
            rw [hy, find_dist hd hf] at hm
            simp only at hm
            split at hm
            · split at hm
              · obtain rfl := Option.some.inj hm
                exact ⟨rfl, rfl⟩
              · cases hm
            · cases hm
        · cases hfn
      · cases hfn
theorem l3_ev (n b : List N) (hb : b.length ≤ 1000) (i : Nat) (x : N) (hi : i < n.length) (hx : rd_T58 n (i : Int) = x) (hnext : Ev (fun m => notarylaw18_FaceBack.l2 m n b (wrap64 ((i : Int) + 1))) true) : ∀ (rest pre : List N) (acc : Bool), b = pre ++ rest → (acc = true ∨ ∃ m ∈ rest, m.f0 = x.f1 ∧ m.f1 = x.f0) →
    Ev (fun m => notarylaw18_FaceBack.l3 m n b (i : Int) acc (pre.length : Int)) true := by
  intro rest
  induction rest with
  | nil =>
    intro pre acc he h
    have : acc = true := by rcases h with h | ⟨m, hm, _⟩; exact h; simp at hm
    exact Ev.step (fun m => notarylaw18_FaceBack.l3.eq_2 ..) (LEv.neg (by rw [he]; simp) (LEv.pos this hnext))
  | cons y rest ih =>
    intro pre acc he h
    have e3 : pre.length < b.length := by rw [he]; simp
    have ey : rd_T58 b (pre.length : Int) = y := by rw [he]; exact rdN _ _ _
    have hs := fun acc => ih (pre ++ [y]) acc (by rw [he]; simp)
    rw [len1 pre y] at hs
    refine Ev.step (fun m => notarylaw18_FaceBack.l3.eq_2 ..) (LEv.pos (by omega) ?_)
    rw [up1 pre.length (by omega)]
    by_cases ha : acc = true
    · exact LEv.pos ha (hs true (.inl rfl))
    · refine LEv.neg ha (LEv.pos (by omega) (LEv.pos (by omega) (LEv.pos (by omega) ?_)))
      rw [ey, hx]
      have h' : ∃ m ∈ y :: rest, m.f0 = x.f1 ∧ m.f1 = x.f0 := by rcases h with h | h; exact absurd h ha; exact h
      obtain ⟨m, hm, h1, h2⟩ := h'
      by_cases c : y.f0.toList = x.f1.toList
      · refine LEv.pos c (hs _ ?_)
        rcases List.mem_cons.1 hm with rfl | hm
        · exact .inl (by rw [h2]; simp)
        · exact .inr ⟨m, hm, h1, h2⟩
      · refine LEv.neg c (hs false (.inr ?_))
        rcases List.mem_cons.1 hm with rfl | hm
        · exact absurd (by rw [h1]) c
        · exact ⟨m, hm, h1, h2⟩
theorem l2b_ev (n b : List N) (hn : n.length ≤ 1000) (hb : b.length ≤ 1000) (h : ∀ x ∈ n, ∃ m ∈ b, m.f0 = x.f1 ∧ m.f1 = x.f0) : ∀ (rest pre : List N), n = pre ++ rest → Ev (fun m => notarylaw18_FaceBack.l2 m n b (pre.length : Int)) true := by
  intro rest
  induction rest with
  | nil => exact fun pre he => Ev.step (fun m => notarylaw18_FaceBack.l2.eq_2 ..) (LEv.neg (by rw [he]; simp) (LEv.bd true awake_ev (Ev.now _)))
  | cons x rest ih =>
    intro pre he
    have e3 : pre.length < n.length := by rw [he]; simp
    have ex : rd_T58 n (pre.length : Int) = x := by rw [he]; exact rdN _ _ _
    have hs := ih (pre ++ [x]) (by rw [he]; simp)
    rw [len1 pre x, ← up1 pre.length (by omega)] at hs
    exact Ev.step (fun m => notarylaw18_FaceBack.l2.eq_2 ..) (LEv.pos (by omega) (l3_ev n b hb pre.length x e3 ex hs b [] false rfl (.inr (h x (by rw [he]; simp)))))
theorem FaceBack (p q : List F) (l : List P) (hp : p.length ≤ 9223372036854775807) (hq : q.length ≤ 9223372036854775807) (hF : ∀ f ∈ p, FineF f) (hG : ∀ f ∈ q, FineF f) : Ev (fun m => notarylaw18_FaceBack.f m p q l) true := by
  have big : Ev (fun m => notarylaw18_FaceBack.j0 m p q l true) true := Ev.step (fun m => notarylaw18_FaceBack.j0.eq_2 ..) (LEv.pos rfl (LEv.bd true awake_ev (Ev.now _)))
  obtain ⟨a, ha, ha2⟩ := large_ev p hp hF
  obtain ⟨b, hb, hb2⟩ := large_ev q hq hG
  refine Ev.congr (fun m => notarylaw18_FaceBack.f.eq_1 ..) (LEv.bd a ha ?_)
  cases a with
  | true => exact LEv.pos rfl big
  | false =>
  refine LEv.neg (by decide) (LEv.bd b hb ?_)
  cases b with
  | true => exact LEv.pos rfl big
  | false =>
  refine LEv.neg (by decide) ?_
  by_cases hl : (l.length : Int) > 60
  · rw [decide_eq_true hl]
    exact big
  rw [decide_eq_false hl]
  have h1 := ha2 rfl
  have h2 := hb2 rfl
  refine Ev.step (fun m => notarylaw18_FaceBack.j0.eq_2 ..) (LEv.neg (by decide) ?_)
  -- the faces over, and back
  have fin : Dist p → Ev (fun m => (face_Names.f m p q l).bind fun bt => (if bt.2 = true then ((notaryref18_Turned.f m l).bind fun t => ((face_Names.f m q p t).bind fun bt2 => (if bt2.2 = true then (notarylaw18_FaceBack.j4 m bt.1 bt2.1 ((bt2.1.length : Int) != (q.length : Int))) else (notarylaw18_FaceBack.j4 m bt.1 bt2.1 true)))) else ((notarylaw18_awake.f m).bind fun t => (some t)))) true := by
    intro hd
    refine LEv.bd _ (names_ev p q l (by omega)) ?_
    by_cases hok : (namesS p q l).2 = true
    · obtain ⟨b1, b2, b3, b4⟩ := names_back p q l hd hok
      refine LEv.pos hok (LEv.bd _ (turned_ev l (by omega)) (LEv.bd _ (names_ev q p (l.map sw) (by omega)) (LEv.pos b1 ?_)))
      rw [show (((namesS q p (l.map sw)).1.length : Int) != (q.length : Int)) = false by simp [b2]]
      exact Ev.step (fun m => notarylaw18_FaceBack.j4.eq_2 ..) (LEv.neg (by decide) (l2b_ev _ _ (by omega) (by omega) b4 _ [] rfl))
    · exact LEv.neg hok (LEv.bd true awake_ev (Ev.now _))
  have l1p : Dist p → ∀ (rest pre : List F), p = pre ++ rest → Ev (fun m => notarylaw18_FaceBack.l1 m p q l (p.map nm) (pre.length : Int)) true := by
    intro hd rest
    induction rest with
    | nil => exact fun pre he => Ev.step (fun m => notarylaw18_FaceBack.l1.eq_2 ..) (LEv.neg (by rw [he]; simp) (fin hd))
    | cons f rest ih =>
      intro pre he
      have e1 : rd_T54 p (pre.length : Int) = f := by rw [he]; exact rdF _ _ _
      have e2 : rd_T58 (p.map nm) (pre.length : Int) = nm f := by
        rw [he, List.map_append, List.map_cons]
        have := rdN (pre.map nm) (nm f) (rest.map nm)
        rwa [List.length_map] at this
      have e3 : pre.length < p.length := by rw [he]; simp
      refine Ev.step (fun m => notarylaw18_FaceBack.l1.eq_2 ..) (LEv.pos (by omega) (LEv.pos (by omega) (LEv.pos (by simp; omega) ?_)))
      rw [e1, e2, up1 _ (by omega), ← len1 pre f]
      exact LEv.pos rfl (LEv.pos rfl (ih (pre ++ [f]) (by rw [he]; simp)))
  have l0p : ∀ (rest pre : List F), p = pre ++ rest → (∀ (i j : Nat) (hi : i < j) (hj : j < p.length), j < pre.length → p[i].f3 ≠ p[j].f3) → Ev (fun m => notarylaw18_FaceBack.l0 m p q l (pre.map selfP) (pre.length : Int)) true := by
    intro rest
    induction rest with
    | nil =>
      intro pre he hpre
      obtain rfl : p = pre := by simpa using he
      have hd : Dist p := fun i j hi hj => hpre i j hi hj hj
      refine Ev.step (fun m => notarylaw18_FaceBack.l0.eq_2 ..) (LEv.neg (by simp) (LEv.bd _ (names_ev p p (p.map selfP) (by omega)) ?_))
      rw [names_self hd]
      refine LEv.pos rfl ?_
      rw [show (((p.map nm).length : Int) != (p.length : Int)) = false by simp]
      exact Ev.step (fun m => notarylaw18_FaceBack.j2.eq_2 ..) (LEv.neg (by decide) (l1p hd p [] rfl))
    | cons f rest ih =>
      intro pre he hpre
      have e1 : rd_T54 p (pre.length : Int) = f := by rw [he]; exact rdF _ _ _
      have e3 : pre.length < p.length := by rw [he]; simp
      have eg : p[pre.length] = f := by simp [he]
      obtain ⟨v, hv, hvv⟩ := find_ev p f.f3 (by omega)
      refine Ev.step (fun m => notarylaw18_FaceBack.l0.eq_2 ..) (LEv.pos (by omega) (LEv.pos (by omega) ?_))
      rw [e1]
      refine LEv.bd v hv ?_
      by_cases hlt : v < (pre.length : Int)
      · exact LEv.pos hlt (LEv.bd true awake_ev (Ev.now _))
      · refine LEv.neg hlt (LEv.pos (by simp; omega) ?_)
        have hs := ih (pre ++ [f]) (by rw [he]; simp) (fun i j hi hj hjp => by
          by_cases hj2 : j < pre.length
          · exact hpre i j hi hj hj2
          · have hjl : j = pre.length := by simp at hjp; omega
            subst hjl
            rcases hvv with ⟨rfl, _⟩ | ⟨k, hk, rfl, _, _, hno⟩
            · omega
            · rw [eg]
              exact hno i (by omega))
        rw [len1 pre f, List.map_append] at hs
        rw [up1 _ (by omega)]
        exact hs
  exact l0p p [] rfl (fun i j hi hj hjp => by simp at hjp)
end Go.Proofs.Ytppeaofdohghgaa.LFace
