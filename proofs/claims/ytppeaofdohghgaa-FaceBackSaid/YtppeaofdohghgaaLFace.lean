/- Faces: how they go over by pairs, as both programs tell it. -/
import Derived.Test.YtppeaofdohghgaaLTermS
import Derived.Test.YtppeaofdohghgaaPFcx3
import Derived.Test.YtppeaofdohghgaaPFcx4
import Derived.Test.YtppeaofdohghgaaPFcx5
import Derived.Test.YtppeaofdohghgaaPFcx6
namespace Go.Proofs.Ytppeaofdohghgaa.LFace
open Go.RowKit Go.Proofs.Ytppeaofdohghgaa.PFc Go.Proofs.YtppeaofdohghgaaW.PrintWords Go.Proofs.YtppeaofdohghgaaW.PrintLast Go.Proofs.YtppeaofdohghgaaW.PrintMore
open LTerm (T Fine ind up1 len1 lenlt)
set_option linter.unusedVariables false
set_option linter.unusedSimpArgs false
abbrev F := S54
abbrev P := S56
abbrev N := S58
abbrev zP : P := z56
structure FineF (f : F) : Prop where
  ret : Fine f.f2
  par : ∀ t ∈ f.f1, Fine t
  len : f.f1.length ≤ 9223372036854775807
theorem rdF (pre : List F) (r : F) (rest : List F) : rd_T54 (pre ++ r :: rest) (pre.length : Int) = r := by
  unfold rd_T54
  simp [List.getD_eq_getElem?_getD]
theorem rdP (pre : List P) (r : P) (rest : List P) : rd_T56 (pre ++ r :: rest) (pre.length : Int) = r := by
  unfold rd_T56
  simp [List.getD_eq_getElem?_getD]
theorem rdN (pre : List N) (r : N) (rest : List N) : rd_T58 (pre ++ r :: rest) (pre.length : Int) = r := by
  unfold rd_T58
  simp [List.getD_eq_getElem?_getD]
theorem rdFg (l : List F) (j : Nat) (h : j < l.length) : rd_T54 l (j : Int) = l[j] := by
  unfold rd_T54
  simp [List.getD_eq_getElem?_getD, List.getElem?_eq_getElem h]
/-! ### being alike -/
theorem same_sym (a : T) : ∀ b : T, ∃ r, Ev (fun m => term_Same.f m a.f0 a.f1 a.f2 a.f3 a.f4 a.f5 b.f0 b.f1 b.f2 b.f3 b.f4 b.f5) r ∧ Ev (fun m => term_Same.f m b.f0 b.f1 b.f2 b.f3 b.f4 b.f5 a.f0 a.f1 a.f2 a.f3 a.f4 a.f5) r := by
  induction a using ind with
  | h a ih =>
  intro b
  by_cases h0 : a.f0 = b.f0
  case neg => exact ⟨false, Ev.step (fun m => term_Same.f.eq_2 ..) (LEv.neg h0 (Ev.now _)), Ev.step (fun m => term_Same.f.eq_2 ..) (LEv.neg (Ne.symm h0) (Ev.now _))⟩
  by_cases h1 : a.f1 = b.f1
  case neg => exact ⟨false, Ev.step (fun m => term_Same.f.eq_2 ..) (LEv.pos h0 (LEv.neg h1 (Ev.now _))), Ev.step (fun m => term_Same.f.eq_2 ..) (LEv.pos h0.symm (LEv.neg (Ne.symm h1) (Ev.now _)))⟩
  by_cases h2 : a.f2.toList = b.f2.toList
  case neg => exact ⟨false, Ev.step (fun m => term_Same.f.eq_2 ..) (LEv.pos h0 (LEv.pos h1 (LEv.neg h2 (Ev.now _)))), Ev.step (fun m => term_Same.f.eq_2 ..) (LEv.pos h0.symm (LEv.pos h1.symm (LEv.neg (Ne.symm h2) (Ev.now _))))⟩
  by_cases h3 : a.f3.length = b.f3.length
  case neg => exact ⟨false, Ev.step (fun m => term_Same.f.eq_2 ..) (LEv.pos h0 (LEv.pos h1 (LEv.pos h2 (LEv.neg h3 (Ev.now _))))), Ev.step (fun m => term_Same.f.eq_2 ..) (LEv.pos h0.symm (LEv.pos h1.symm (LEv.pos h2.symm (LEv.neg (Ne.symm h3) (Ev.now _)))))⟩
  have key : ∀ (xs ys : List T), (∀ x ∈ xs, x ∈ a.f3) → xs.length = ys.length → ∃ r, Ev (fun m => term_Same.eqs (fun x y => term_Same.f m x.f0 x.f1 x.f2 x.f3 x.f4 x.f5 y.f0 y.f1 y.f2 y.f3 y.f4 y.f5) xs ys) r ∧ Ev (fun m => term_Same.eqs (fun x y => term_Same.f m x.f0 x.f1 x.f2 x.f3 x.f4 x.f5 y.f0 y.f1 y.f2 y.f3 y.f4 y.f5) ys xs) r := by
    intro xs
    induction xs with
    | nil =>
      intro ys hx hl
      obtain rfl : ys = [] := List.eq_nil_of_length_eq_zero hl.symm
      exact ⟨true, Ev.now _, Ev.now _⟩
    | cons x xs ih2 =>
      intro ys hx hl
      cases ys with
      | nil => simp at hl
      | cons y ys =>
        obtain ⟨r, r1, r2⟩ := ih x (hx x List.mem_cons_self) y
        obtain ⟨s, s1, s2⟩ := ih2 ys (fun z hz => hx z (List.mem_cons_of_mem _ hz)) (by simpa using hl)
        refine ⟨if r = true then s else false, LEv.bd r r1 ?_, LEv.bd r r2 ?_⟩
        · cases r with
          | true => exact LEv.pos rfl s1
          | false => exact LEv.neg (by decide) (Ev.now _)
        · cases r with
          | true => exact LEv.pos rfl s2
          | false => exact LEv.neg (by decide) (Ev.now _)
  obtain ⟨r, r1, r2⟩ := key a.f3 b.f3 (fun _ h => h) h3
  exact ⟨r, Ev.step (fun m => term_Same.f.eq_2 ..) (LEv.pos h0 (LEv.pos h1 (LEv.pos h2 (LEv.pos h3 r1)))), Ev.step (fun m => term_Same.f.eq_2 ..) (LEv.pos h0.symm (LEv.pos h1.symm (LEv.pos h2.symm (LEv.pos h3.symm r2))))⟩
theorem eqs_sym : ∀ (xs ys : List T), xs.length = ys.length → ∃ r, Ev (fun m => term_Same.eqs (fun x y => term_Same.f m x.f0 x.f1 x.f2 x.f3 x.f4 x.f5 y.f0 y.f1 y.f2 y.f3 y.f4 y.f5) xs ys) r ∧ Ev (fun m => term_Same.eqs (fun x y => term_Same.f m x.f0 x.f1 x.f2 x.f3 x.f4 x.f5 y.f0 y.f1 y.f2 y.f3 y.f4 y.f5) ys xs) r
  | [], [], _ => ⟨true, Ev.now _, Ev.now _⟩
  | [], _ :: _, h => by simp at h
  | _ :: _, [], h => by simp at h
  | x :: xs, y :: ys, h => by
    obtain ⟨r, r1, r2⟩ := same_sym x y
    obtain ⟨s, s1, s2⟩ := eqs_sym xs ys (by simpa using h)
    refine ⟨if r = true then s else false, LEv.bd r r1 ?_, LEv.bd r r2 ?_⟩
    · cases r with
      | true => exact LEv.pos rfl s1
      | false => exact LEv.neg (by decide) (Ev.now _)
    · cases r with
      | true => exact LEv.pos rfl s2
      | false => exact LEv.neg (by decide) (Ev.now _)
theorem alike_sym (a b : F) : ∃ r, Ev (fun m => face_alike.f m a b) r ∧ Ev (fun m => face_alike.f m b a) r := by
  obtain ⟨s, s1, s2⟩ := same_sym a.f2 b.f2
  by_cases h : a.f1.length = b.f1.length
  · obtain ⟨r, r1, r2⟩ := eqs_sym a.f1 b.f1 h
    refine ⟨if r = true then s else false, LEv.bd r (LEv.pos h r1) ?_, LEv.bd r (LEv.pos h.symm r2) ?_⟩
    · cases r with
      | true => exact LEv.pos rfl s1
      | false => exact LEv.neg (by decide) (Ev.now _)
    · cases r with
      | true => exact LEv.pos rfl s2
      | false => exact LEv.neg (by decide) (Ev.now _)
  · exact ⟨false, LEv.bd false (LEv.neg h (Ev.now _)) (LEv.neg (by decide) (Ev.now _)), LEv.bd false (LEv.neg (Ne.symm h) (Ev.now _)) (LEv.neg (by decide) (Ev.now _))⟩
theorem alike_refl (a : F) : Ev (fun m => face_alike.f m a a) true := by
  refine LEv.bd true (LEv.pos rfl ?_) (LEv.pos rfl (LTerm.same_self a.f2))
  refine LTerm.eqs_true (g := fun m x y => term_Same.f m x.f0 x.f1 x.f2 x.f3 x.f4 x.f5 y.f0 y.f1 y.f2 y.f3 y.f4 y.f5) a.f1 a.f1 rfl (fun p hp => ?_)
  have : ∀ l : List T, p ∈ l.zip l → p.1 = p.2 := by
    intro l
    induction l with
    | nil => simp
    | cons x l ih => intro h; rcases List.mem_cons.1 h with rfl | h; exact rfl; exact ih h
  rw [← this a.f1 hp]
  exact LTerm.same_self p.1
open Classical in
/-- have two faces the same types? -/
noncomputable def alB (a b : F) : Bool := decide (Ev (fun m => face_alike.f m a b) true)
theorem alB_ev (a b : F) : Ev (fun m => face_alike.f m a b) (alB a b) := by
  obtain ⟨r, r1, _⟩ := alike_sym a b
  unfold alB
  by_cases h : Ev (fun m => face_alike.f m a b) true
  · simp [h]
  · cases r with
    | true => exact absurd r1 h
    | false => simpa [h] using r1
theorem alB_sym (a b : F) : alB a b = alB b a := by
  obtain ⟨r, r1, r2⟩ := alike_sym a b
  rw [LEv.uniq (alB_ev a b) r1, LEv.uniq (alB_ev b a) r2]
theorem alB_refl (a : F) : alB a a = true := LEv.uniq (alB_ev a a) (alike_refl a)
/-! ### finding -/
theorem find_ev (l : List F) (d : Int) (hl : l.length ≤ 1000) : ∃ v : Int, Ev (fun m => notaryref18_Find.f m l d) v ∧ ((v = -1 ∧ l.find? (fun f => f.f3 == d) = none) ∨ ∃ (j : Nat) (h : j < l.length), v = (j : Int) ∧ l.find? (fun f => f.f3 == d) = some l[j] ∧ l[j].f3 = d ∧ ∀ i (hi : i < j), l[i].f3 ≠ d) := by
  have key : ∀ (rest pre : List F), l = pre ++ rest → (∀ f ∈ pre, f.f3 ≠ d) → ∃ v : Int, Ev (fun m => notaryref18_Find.l0 m l d (pre.length : Int)) v ∧ ((v = -1 ∧ rest.find? (fun f => f.f3 == d) = none) ∨ ∃ (j : Nat) (h : j < l.length), v = (j : Int) ∧ rest.find? (fun f => f.f3 == d) = some l[j] ∧ l[j].f3 = d ∧ ∀ i (hi : i < j), l[i].f3 ≠ d) := by
    intro rest
    induction rest with
    | nil => exact fun pre he hp => ⟨-1, Ev.step (fun m => notaryref18_Find.l0.eq_2 ..) (LEv.neg (by rw [he]; simp) (Ev.now _)), .inl ⟨rfl, rfl⟩⟩
    | cons f rest ih =>
      intro pre he hp
      have e1 : rd_T54 l (pre.length : Int) = f := by rw [he]; exact rdF _ _ _
      have e3 : pre.length < l.length := by rw [he]; simp
      have eg : l[pre.length] = f := by simp [he]
      by_cases hf : f.f3 = d
      · refine ⟨(pre.length : Int), Ev.step (fun m => notaryref18_Find.l0.eq_2 ..) (LEv.pos (by omega) (LEv.pos (by omega) (LEv.pos (by rw [e1]; exact hf) (Ev.now _)))), .inr ⟨pre.length, e3, rfl, by simp [hf, eg], by rw [eg]; exact hf, fun i hi => ?_⟩⟩
        have : l[i] = pre[i] := by simp only [he]; rw [List.getElem_append_left hi]
        rw [this]
        exact hp _ (List.getElem_mem _)
      · obtain ⟨v, hv, h⟩ := ih (pre ++ [f]) (by rw [he]; simp) (fun x hx => by rcases List.mem_append.1 hx with hx | hx; exact hp x hx; rw [List.mem_singleton.1 hx]; exact hf)
        refine ⟨v, Ev.step (fun m => notaryref18_Find.l0.eq_2 ..) (LEv.pos (by omega) (LEv.pos (by omega) (LEv.neg (by rw [e1]; exact hf) ?_))), ?_⟩
        · rw [up1 _ (by omega), ← len1 pre f]
          exact hv
        · rw [List.find?_cons_of_neg (by simpa using hf)]
          exact h
  exact key l [] rfl (fun f hf => by simp at hf)
def sw (x : P) : P := ⟨x.f1, x.f0⟩
theorem turned_ev (l : List P) (hl : l.length ≤ 1000) : Ev (fun m => notaryref18_Turned.f m l) (l.map sw) := by
  have key : ∀ (rest pre : List P), l = pre ++ rest → Ev (fun m => notaryref18_Turned.l0 m l (pre.map sw) (pre.length : Int)) (l.map sw) := by
    intro rest
    induction rest with
    | nil => exact fun pre he => Ev.step (fun m => notaryref18_Turned.l0.eq_2 ..) (LEv.neg (by rw [he]; simp) (LEv.fin (by rw [he]; simp)))
    | cons x rest ih =>
      intro pre he
      have e1 : rd_T56 l (pre.length : Int) = x := by rw [he]; exact rdP _ _ _
      have e3 : pre.length < l.length := by rw [he]; simp
      have hs := ih (pre ++ [x]) (by rw [he]; simp)
      rw [len1 pre x, List.map_append] at hs
      refine Ev.step (fun m => notaryref18_Turned.l0.eq_2 ..) (LEv.pos (by omega) (LEv.pos (by omega) (LEv.pos (by simp; omega) ?_)))
      rw [e1, up1 _ (by omega)]
      exact hs
  exact key l [] rfl
theorem find_sw0 (l : List P) (a : Int) : (l.map sw).find? (fun x => x.f0 == a) = (l.find? (fun x => x.f1 == a)).map sw := by rw [List.find?_map]; rfl
theorem find_sw1 (l : List P) (a : Int) : (l.map sw).find? (fun x => x.f1 == a) = (l.find? (fun x => x.f0 == a)).map sw := by rw [List.find?_map]; rfl
theorem sw_sw (l : List P) : (l.map sw).map sw = l := by simp [sw, Function.comp_def]
/-! ### going over -/
noncomputable def goS (q : List F) (l : List P) (f : F) : Option N :=
  match l.find? (fun x => x.f0 == f.f3) with
  | none => none
  | some x => match q.find? (fun g => g.f3 == x.f1) with
    | none => none
    | some g => if alB f g = true then (if ((l.find? (fun y => y.f1 == x.f1)).getD zP).f0 = f.f3 then some ⟨f.f0, g.f0⟩ else none) else none
noncomputable def twoS (p : List F) (l : List P) (g : F) : Bool :=
  match l.find? (fun x => x.f1 == g.f3) with
  | none => false
  | some x => match p.find? (fun f => f.f3 == x.f0) with
    | none => false
    | some f => if alB f g = true then (if ((l.find? (fun y => y.f0 == x.f0)).getD zP).f1 = g.f3 then true else false) else false
theorem one_ev (q : List F) (l : List P) (f : F) : Ev (fun m => face_Names.one m q l f) (goS q l f) := by
  unfold face_Names.one goS
  cases l.find? (fun x => x.f0 == f.f3) with
  | none => exact Ev.now _
  | some x =>
    simp only
    cases q.find? (fun g => g.f3 == x.f1) with
    | none => exact Ev.now _
    | some g =>
      simp only
      refine LEv.bd _ (alB_ev f g) ?_
      cases alB f g with
      | true =>
        refine LEv.pos rfl ?_
        split
        · exact Ev.now _
        · exact Ev.now _
      | false => exact LEv.neg (by decide) (Ev.now _)
theorem two_ev (p : List F) (l : List P) (g : F) : Ev (fun m => face_Names.two m p l g) (twoS p l g) := by
  unfold face_Names.two twoS
  cases l.find? (fun x => x.f1 == g.f3) with
  | none => exact Ev.now _
  | some x =>
    simp only
    cases p.find? (fun f => f.f3 == x.f0) with
    | none => exact Ev.now _
    | some f =>
      simp only
      refine LEv.bd _ (alB_ev f g) ?_
      cases alB f g with
      | true =>
        refine LEv.pos rfl ?_
        split
        · exact Ev.now _
        · exact Ev.now _
      | false => exact LEv.neg (by decide) (Ev.now _)
noncomputable def l1S (q : List F) (l : List P) : List F → List N → Option (List N)
  | [], out => some out
  | f :: fs, out => match goS q l f with
    | none => none
    | some n => l1S q l fs (out ++ [n])
theorem l1_ev (q : List F) (l : List P) : ∀ (p : List F) (out : List N), p.length + out.length ≤ 1000 → Ev (fun m => face_Names.l1 m q l p out) (l1S q l p out)
  | [], out, h => Ev.now _
  | f :: fs, out, h => by
    refine LEv.pos (by simp at h; omega) (LEv.bd _ (one_ev q l f) ?_)
    rw [l1S]
    cases goS q l f with
    | none => exact Ev.now _
    | some n => exact l1_ev q l fs (out ++ [n]) (by simp at h ⊢; omega)
theorem l2_ev (p : List F) (l : List P) : ∀ q : List F, Ev (fun m => face_Names.l2 m p l q) (q.all (twoS p l))
  | [] => Ev.now _
  | g :: gs => by
    refine LEv.bd _ (two_ev p l g) ?_
    rw [List.all_cons]
    cases twoS p l g with
    | true => exact LEv.pos rfl (l2_ev p l gs)
    | false => exact LEv.neg (by decide) (Ev.now _)
noncomputable def namesS (p q : List F) (l : List P) : List N × Bool :=
  match l1S q l p [] with
  | none => ([], false)
  | some out => if q.all (twoS p l) = true then (out, true) else ([], false)
theorem names_ev (p q : List F) (l : List P) (hp : p.length ≤ 1000) : Ev (fun m => face_Names.f m p q l) (namesS p q l) := by
  refine LEv.bd _ (l1_ev q l p [] (by simp; omega)) ?_
  unfold namesS face_Names.fin
  cases l1S q l p [] with
  | none => exact Ev.now _
  | some out =>
    refine LEv.bd _ (l2_ev p l q) ?_
    cases q.all (twoS p l) with
    | true => exact LEv.pos rfl (Ev.now _)
    | false => exact LEv.neg (by decide) (Ev.now _)
/-- the other side, by the pairs turned round -/
theorem two_turned (p : List F) (l : List P) (g : F) : twoS p l g = (goS p (l.map sw) g).isSome := by
  unfold twoS goS
  rw [find_sw0]
  cases l.find? (fun x => x.f1 == g.f3) with
  | none => rfl
  | some x =>
    simp only [Option.map_some, sw]
    cases p.find? (fun f => f.f3 == x.f0) with
    | none => rfl
    | some f =>
      simp only
      rw [find_sw1, alB_sym f g]
      have e : (((l.find? (fun y => y.f0 == x.f0)).map sw).getD zP).f0 = ((l.find? (fun y => y.f0 == x.f0)).getD zP).f1 := by cases l.find? (fun y => y.f0 == x.f0) <;> rfl
      rw [e]
      split
      · split <;> rfl
      · rfl
theorem l1S_some (q : List F) (l : List P) : ∀ (p : List F) (out : List N), (p.all fun f => (goS q l f).isSome) = true → l1S q l p out = some (out ++ p.filterMap (goS q l))
  | [], out, _ => by simp [l1S]
  | f :: fs, out, h => by
    rw [List.all_cons, Bool.and_eq_true] at h
    obtain ⟨n, hn⟩ := Option.isSome_iff_exists.1 h.1
    rw [l1S, hn]
    simp only
    rw [l1S_some q l fs _ h.2]
    simp [hn]
theorem l1S_none (q : List F) (l : List P) : ∀ (p : List F) (out : List N), (p.all fun f => (goS q l f).isSome) = false → l1S q l p out = none
  | [], out, h => by simp at h
  | f :: fs, out, h => by
    rw [l1S]
    cases hn : goS q l f with
    | none => rfl
    | some n =>
      simp only
      rw [List.all_cons, hn] at h
      exact l1S_none q l fs _ (by simpa using h)
theorem awake_ev : Ev (fun m => notarylaw18_awake.f m) true := by
  refine ⟨5, fun m hm => ?_⟩
  obtain ⟨n, rfl⟩ : ∃ n, m = n + 5 := ⟨m - 5, by omega⟩
  simp [notarylaw18_awake.f, face_Names.f, face_Names.l1, face_Names.l2, face_Names.one, face_Names.two, face_Names.fin, face_alike.f, term_Same.f, term_Same.eqs, rd_T58]
theorem large_ev (l : List F) (hl : l.length ≤ 9223372036854775807) (hF : ∀ f ∈ l, FineF f) : ∃ b, Ev (fun m => notaryref18_Large.f m l) b ∧ (b = false → l.length ≤ 20) := by
  have key : ∀ (rest pre : List F), l = pre ++ rest → pre.length ≤ 20 → ∃ b, Ev (fun m => notaryref18_Large.l0 m l (pre.length : Int)) b ∧ (b = false → l.length ≤ 20) := by
    intro rest
    induction rest with
    | nil =>
      intro pre he hp
      refine ⟨decide ((l.length : Int) > 20), Ev.step (fun m => notaryref18_Large.l0.eq_2 ..) (LEv.neg (by rw [he]; simp) (Ev.step (fun m => notaryref18_Large.j1.eq_2 ..) (LEv.neg (by decide) (Ev.now _)))), fun h => ?_⟩
      have := of_decide_eq_false h
      omega
    | cons f rest ih =>
      intro pre he hp
      have e1 : rd_T54 l (pre.length : Int) = f := by rw [he]; exact rdF _ _ _
      have e3 : pre.length < l.length := by rw [he]; simp
      have hf := hF f (by rw [he]; simp)
      have j2t : Ev (fun m => notaryref18_Large.j2 m l (pre.length : Int) true) true := Ev.step (fun m => notaryref18_Large.j2.eq_2 ..) (LEv.pos rfl (Ev.now _))
      by_cases h20 : pre.length < 20
      case neg =>
        refine ⟨decide ((l.length : Int) > 20), Ev.step (fun m => notaryref18_Large.l0.eq_2 ..) (LEv.pos (by omega) ?_), fun h => ?_⟩
        · rw [decide_eq_false (by omega)]
          exact Ev.step (fun m => notaryref18_Large.j1.eq_2 ..) (LEv.neg (by decide) (Ev.now _))
        · have := of_decide_eq_false h
          omega
      have wrap : ∀ b, Ev (fun m => notaryref18_Large.j1 m l (pre.length : Int) true) b → Ev (fun m => notaryref18_Large.l0 m l (pre.length : Int)) b := fun b h => by
        refine Ev.step (fun m => notaryref18_Large.l0.eq_2 ..) (LEv.pos (by omega) ?_)
        rw [decide_eq_true (by omega)]
        exact h
      by_cases hpar : ((f.f1.length : Nat) : Int) > 20
      · exact ⟨true, wrap true (Ev.step (fun m => notaryref18_Large.j1.eq_2 ..) (LEv.pos rfl (LEv.pos (by omega) (LEv.pos (by omega) (LEv.pos (by rw [e1]; exact hpar) j2t))))), fun h => by cases h⟩
      by_cases hnm : (f.f0.size : Int) > 40
      · exact ⟨true, wrap true (Ev.step (fun m => notaryref18_Large.j1.eq_2 ..) (LEv.pos rfl (LEv.pos (by omega) (LEv.pos (by omega) (LEv.neg (by rw [e1]; exact hpar) (LEv.pos (by rw [e1]; exact hnm) j2t)))))), fun h => by cases h⟩
      obtain ⟨b, hb, _⟩ := LTerm.large_ev f.f2 hf.ret
      have go : ∀ c, Ev (fun m => notaryref18_Large.j2 m l (pre.length : Int) b) c → Ev (fun m => notaryref18_Large.l0 m l (pre.length : Int)) c := fun c h => wrap c (Ev.step (fun m => notaryref18_Large.j1.eq_2 ..) (LEv.pos rfl (LEv.pos (by omega) (LEv.pos (by omega) (LEv.neg (by rw [e1]; exact hpar) (LEv.neg (by rw [e1]; exact hnm) (by rw [e1]; exact LEv.bd b hb h)))))))
      cases b with
      | true => exact ⟨true, go true j2t, fun h => by cases h⟩
      | false =>
        obtain ⟨c, hc, hc2⟩ := ih (pre ++ [f]) (by rw [he]; simp) (by simp; omega)
        rw [len1 pre f] at hc
        have inner : ∀ (rs ps : List T), f.f1 = ps ++ rs → ∃ d, Ev (fun m => notaryref18_Large.l1 m l (pre.length : Int) (ps.length : Int)) d ∧ (d = false → l.length ≤ 20) := by
          intro rs
          induction rs with
          | nil =>
            intro ps hps
            refine ⟨c, Ev.step (fun m => notaryref18_Large.l1.eq_2 ..) (LEv.pos (by omega) (LEv.pos (by omega) (LEv.neg (by rw [e1, hps]; simp) ?_))), hc2⟩
            rw [up1 _ (by omega)]
            exact hc
          | cons t rs ih3 =>
            intro ps hps
            have e4 : rd_T24 f.f1 (ps.length : Int) = t := by rw [hps]; exact LTerm.rdT _ _ _
            have e5 : (ps.length : Int) < (f.f1.length : Int) := by rw [hps]; exact lenlt _ _ _
            obtain ⟨b, hb, _⟩ := LTerm.large_ev t (hf.par t (by rw [hps]; simp))
            cases b with
            | true =>
              refine ⟨true, Ev.step (fun m => notaryref18_Large.l1.eq_2 ..) (LEv.pos (by omega) (LEv.pos (by omega) (LEv.pos (by rw [e1]; exact e5) (LEv.pos (by omega) ?_)))), fun h => by cases h⟩
              rw [e1, e4]
              exact LEv.bd true hb (LEv.pos rfl (Ev.now _))
            | false =>
              obtain ⟨d, hd, hd2⟩ := ih3 (ps ++ [t]) (by rw [hps]; simp)
              rw [len1 ps t] at hd
              refine ⟨d, Ev.step (fun m => notaryref18_Large.l1.eq_2 ..) (LEv.pos (by omega) (LEv.pos (by omega) (LEv.pos (by rw [e1]; exact e5) (LEv.pos (by omega) ?_)))), hd2⟩
              rw [e1, e4]
              refine LEv.bd false hb (LEv.neg (by decide) ?_)
              rw [up1 _ (by omega)]
              exact hd
        obtain ⟨d, hd, hd2⟩ := inner f.f1 [] rfl
        exact ⟨d, go d (Ev.step (fun m => notaryref18_Large.j2.eq_2 ..) (LEv.neg (by decide) hd)), hd2⟩
  exact key l [] rfl (by simp)
end Go.Proofs.Ytppeaofdohghgaa.LFace
