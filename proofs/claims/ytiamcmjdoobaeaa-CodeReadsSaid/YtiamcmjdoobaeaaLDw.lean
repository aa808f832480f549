/- Derivations as bytes, plainly: the derivations themselves. -/
import Derived.Test.YtiamcmjdoobaeaaLDv
namespace Go.Proofs.Ytiamcmjdoobaeaa.LDv
open Go.RowKit Go.Proofs.Ytiamcmjdoobaeaa.PCe Go.Proofs.YtiamcmjdoobaeaaW.PrintWords Go.Proofs.YtiamcmjdoobaeaaW.PrintLast Go.Proofs.YtiamcmjdoobaeaaW.PrintMore
open LTerm SVarint LVarint LCd
set_option linter.unusedVariables false
set_option linter.unusedSimpArgs false
theorem ltD {x y : D} (h : y ∈ x.f3) : SizeOf.sizeOf y < SizeOf.sizeOf x := by
  have := List.sizeOf_lt_of_mem h
  cases x
  simp at this ⊢
  omega
theorem indD {P : D → Prop} (h : ∀ x : D, (∀ y ∈ x.f3, P y) → P x) (x : D) : P x := by
  suffices h2 : ∀ n, ∀ x : D, SizeOf.sizeOf x < n → P x from h2 _ x (Nat.lt_succ_self _)
  intro n
  induction n with
  | zero => intro x hx; omega
  | succ n ih => exact fun x hx => h x (fun y hy => ih y (by have := ltD hy; omega))
/-- no more bytes than this -/
def dz (d : D) : Nat := 30 + sw d.f2 + 10 * d.f1.length + (d.f3.attach.map fun y => dz y.1).sum
termination_by SizeOf.sizeOf d
decreasing_by exact ltD y.2
theorem dz_eq (d : D) : dz d = 30 + sw d.f2 + 10 * d.f1.length + (d.f3.map dz).sum := by rw [dz, List.attach_map_val (f := dz)]
/-- a derivation's bytes -/
def db (d : D) : List Int := [d.f0] ++ (if d.f0 = 1 then sb d.f2 else (if d.f0 = 3 then lb d.f1 else []) ++ enc (d.f3.length : Int) ++ (d.f3.attach.map fun y => db y.1).flatten)
termination_by SizeOf.sizeOf d
decreasing_by exact ltD y.2
theorem db_eq (d : D) : db d = [d.f0] ++ (if d.f0 = 1 then sb d.f2 else (if d.f0 = 3 then lb d.f1 else []) ++ enc (d.f3.length : Int) ++ (d.f3.map db).flatten) := by rw [db, List.attach_map_val (f := db)]
inductive TameD : Nat → D → Prop
  | mk (n : Nat) (x : D) : x.f1.length ≤ 100000 → x.f3.length ≤ 100000 → TameS x.f2 → (∀ y ∈ x.f3, TameD n y) → TameD (n + 1) x
theorem TameD.l1 {n : Nat} {x : D} (h : TameD n x) : x.f1.length ≤ 100000 := by cases h; assumption
theorem TameD.l3 {n : Nat} {x : D} (h : TameD n x) : x.f3.length ≤ 100000 := by cases h; assumption
theorem TameD.s {n : Nat} {x : D} (h : TameD n x) : TameS x.f2 := by cases h; assumption
theorem TameD.sub {n : Nat} {x y : D} (h : TameD (n + 1) x) (hy : y ∈ x.f3) : TameD n y := by cases h with | mk _ _ _ _ _ h => exact h y hy
inductive GoodD : Nat → D → Prop
  | mk (lv : Nat) (x : D) : lv ≤ 64 → 1 ≤ x.f0 ∧ x.f0 ≤ 3 → code_dw.fineB x = true → (x.f0 = 1 → GoodS x.f2) → (x.f0 = 3 → okL x.f1) → (∀ y ∈ x.f3, GoodD (lv + 1) y) → GoodD lv x
theorem GoodD.lvl {lv : Nat} {x : D} (h : GoodD lv x) : lv ≤ 64 := by cases h; assumption
theorem GoodD.knd {lv : Nat} {x : D} (h : GoodD lv x) : 1 ≤ x.f0 ∧ x.f0 ≤ 3 := by cases h; assumption
theorem GoodD.fine {lv : Nat} {x : D} (h : GoodD lv x) : code_dw.fineB x = true := by cases h; assumption
theorem GoodD.step {lv : Nat} {x : D} (h : GoodD lv x) : x.f0 = 1 → GoodS x.f2 := by cases h; assumption
theorem GoodD.path {lv : Nat} {x : D} (h : GoodD lv x) : x.f0 = 3 → okL x.f1 := by cases h; assumption
theorem GoodD.sub {lv : Nat} {x y : D} (h : GoodD lv x) (hy : y ∈ x.f3) : GoodD (lv + 1) y := by cases h with | mk _ _ _ _ _ _ _ h => exact h y hy
/-- is there no step -/
def bareB (s : S) : Bool := s.f0 == 0 && !s.f1 && s.f2.length == 0 && s.f3.length == 0 && s.f4.f0 == 0 && s.f4.f1 == 0 && s.f4.f2.toList == [] && s.f4.f3.length == 0 && s.f4.f4 == 0 && s.f4.f5 == 0
theorem len0 {α : Type} (l : List α) : ((l.length : Int) = 0) = (l.length = 0) := by apply propext; omega
theorem bare_ev (s : S) : code_bare.f s.f0 s.f1 s.f2 s.f3 s.f4.f0 s.f4.f1 s.f4.f2 s.f4.f3 s.f4.f4 s.f4.f5 = some (bareB s) := by
  unfold code_bare.f bareB
  simp only [len0]
  by_cases h0 : s.f0 = 0
  case neg => simp [h0]
  by_cases h1 : s.f1 = true
  case pos => simp [h1]
  by_cases h2 : s.f2.length = 0
  case neg => simp [h0, h1, h2]
  by_cases h3 : s.f3.length = 0
  case neg => simp [h0, h1, h2, h3]
  by_cases h4 : s.f4.f0 = 0
  case neg => simp [h0, h1, h2, h3, h4]
  by_cases h5 : s.f4.f1 = 0
  case neg => simp [h0, h1, h2, h3, h4, h5]
  by_cases h6 : s.f4.f2.toList = []
  case neg => simp [h0, h1, h2, h3, h4, h5, h6]
  by_cases h7 : s.f4.f3.length = 0
  case neg => simp [h0, h1, h2, h3, h4, h5, h6, h7]
  by_cases h8 : s.f4.f4 = 0 <;> simp [h0, h1, h2, h3, h4, h5, h6, h7, h8]
theorem lenb {α : Type} (l : List α) : ((l.length : Int) == 0) = (l.length == 0) := by rw [Bool.eq_iff_iff]; simp
theorem fine_ev (x : D) : code_fine.f x.f0 x.f1 x.f2.f0 x.f2.f1 x.f2.f2 x.f2.f3 x.f2.f4.f0 x.f2.f4.f1 x.f2.f4.f2 x.f2.f4.f3 x.f2.f4.f4 x.f2.f4.f5 x.f3 = some (code_dw.fineB x) := by
  unfold code_fine.f code_dw.fineB
  rw [bare_ev]
  simp only [len0, Option.bind_some]
  by_cases h0 : x.f0 = 1
  · by_cases h1 : x.f1.length = 0 <;> simp [h0, h1, lenb]
  rw [if_neg h0, if_neg h0]
  change _ = some (bareB x.f2 && _)
  cases bareB x.f2 with
  | false => simp
  | true =>
    by_cases h3 : x.f0 = 3
    · simp [h3]
    · have : (x.f0 == 3) = false := by simpa using h3
      simp [h3, this, lenb]
theorem fine1 {x : D} (h : x.f0 = 1) : code_dw.fineB x = (x.f1.length == 0 && x.f3.length == 0) := by unfold code_dw.fineB; rw [if_pos h]
theorem fineN {x : D} (h : x.f0 ≠ 1) : code_dw.fineB x = (bareB x.f2 && (x.f0 == 3 || x.f1.length == 0)) := by unfold code_dw.fineB; rw [if_neg h]; rfl
theorem placed0 (t : T) : Ev (fun m => notaryref06_Placed.f m t.f0 t.f1 t.f2 t.f3 t.f4 t.f5 0 0 ⟨#[]⟩ [] 0 0) (t.f0 == 0 && t.f1 == 0 && t.f2.toList == [] && t.f3.length == 0 && t.f4 == 0 && t.f5 == 0) := by
  have e0 : ByteArray.toList ⟨#[]⟩ = [] := by rw [ByteArray.toList_eq]
  have no : ∀ (v : Bool), v = false → Ev (fun m => notaryref06_Placed.j0 m true t.f0 t.f1 t.f2 t.f3 t.f4 t.f5 0 0 ⟨#[]⟩ [] 0 0) v := fun v hv => by
    rw [hv]
    exact Ev.step (fun m => notaryref06_Placed.j0.eq_2 ..) (LEv.pos rfl (Ev.now _))
  refine Ev.step (fun m => notaryref06_Placed.f.eq_2 ..) ?_
  refine LEv.ite (fun h0 => LEv.ite (fun h1 => LEv.ite (fun h2 => LEv.ite (fun h4 => LEv.ite (fun h5 => ?_) (fun h => no _ (by simp [h]))) (fun h => no _ (by simp [h]))) (fun h => no _ (by rw [e0] at h; simp [h]))) (fun h => no _ (by simp [h]))) (fun h => no _ (by simp [h]))
  rw [e0] at h2
  by_cases h3 : t.f3.length = 0
  · rw [show ((t.f3.length : Int) != (([] : List T).length : Int)) = false by simp [h3]]
    refine Ev.step (fun m => notaryref06_Placed.j0.eq_2 ..) (LEv.neg (by decide) (Ev.step (fun m => notaryref06_Placed.l0.eq_2 ..) (LEv.neg (by omega) (LEv.fin ?_))))
    simp [h0, h1, h2, h3, h4, h5]
  · rw [show ((t.f3.length : Int) != (([] : List T).length : Int)) = true by simp; simpa using h3]
    exact no _ (by simp [h3])
theorem rbare_ev (s : S) : Ev (fun m => notaryref35_Bare.f m s.f0 s.f1 s.f2 s.f3 s.f4.f0 s.f4.f1 s.f4.f2 s.f4.f3 s.f4.f4 s.f4.f5) (bareB s) := by
  refine Ev.congr (fun m => notaryref35_Bare.f.eq_1 ..) ?_
  have hp := placed0 s.f4
  refine LEv.ite (fun h0 => LEv.ite (fun h1 => LEv.fin ?_) (fun h1 => LEv.ite (fun h2 => LEv.ite (fun h3 => LEv.bd _ hp (LEv.fin ?_)) (fun h => LEv.fin ?_)) (fun h => LEv.fin ?_))) (fun h => LEv.fin ?_)
  · unfold bareB; simp [h1]
  · unfold bareB
    rw [len0] at h2 h3
    simp only [h0, Bool.not_eq_true] at h1 ⊢
    simp [h1, h2, h3, Bool.and_assoc]
  · unfold bareB
    rw [len0] at h
    simp [h]
  · unfold bareB
    rw [len0] at h
    simp [h]
  · unfold bareB; simp [h]
/-- up to what is written -/
theorem rderiv_in (x : D) (lv : Int) (hl : ¬ lv > 64) (hk : 1 ≤ x.f0 ∧ x.f0 ≤ 3) {r : List Int × Int}
    (k : Ev (fun m => notaryref36_Deriv.j1 m lv (!code_dw.fineB x) x.f0 x.f1 x.f2.f0 x.f2.f1 x.f2.f2 x.f2.f3 x.f2.f4.f0 x.f2.f4.f1 x.f2.f4.f2 x.f2.f4.f3 x.f2.f4.f4 x.f2.f4.f5 x.f3) r) :
    Ev (fun m => notaryref36_Deriv.f m x.f0 x.f1 x.f2.f0 x.f2.f1 x.f2.f2 x.f2.f3 x.f2.f4.f0 x.f2.f4.f1 x.f2.f4.f2 x.f2.f4.f3 x.f2.f4.f4 x.f2.f4.f5 x.f3 lv) r := by
  have hj : Ev (fun m => notaryref36_Deriv.j0 m lv false x.f0 x.f1 x.f2.f0 x.f2.f1 x.f2.f2 x.f2.f3 x.f2.f4.f0 x.f2.f4.f1 x.f2.f4.f2 x.f2.f4.f3 x.f2.f4.f4 x.f2.f4.f5 x.f3) r := by
    refine Ev.step (fun m => notaryref36_Deriv.j0.eq_2 ..) (LEv.neg (by decide) ?_)
    refine LEv.ite (fun h3 => LEv.neg (by omega) ?_) (fun h3 => ?_)
    · refine LEv.bd _ (rbare_ev x.f2) ?_
      rw [fineN (by omega), h3] at k
      simpa [h3] using k
    · refine LEv.ite (fun hp => ?_) (fun hp => LEv.ite (fun h1 => ?_) (fun h1 => ?_))
      · have : code_dw.fineB x = false := by
          by_cases h1 : x.f0 = 1
          · rw [fine1 h1]; simp; intro h; simp [h] at hp
          · rw [fineN h1]; simp [h3]; intro _ h; simp [h] at hp
        rw [this] at k
        exact k
      · refine LEv.ite (fun hq => ?_) (fun hq => ?_)
        · have : code_dw.fineB x = false := by rw [fine1 h1]; simp; intro _ h; simp [h] at hq
          rw [this] at k
          exact k
        · have : code_dw.fineB x = true := by
            rw [fine1 h1]
            simp
            constructor
            · exact List.length_eq_zero_iff.1 (by omega)
            · exact List.length_eq_zero_iff.1 (by omega)
          rw [this] at k
          exact k
      · refine LEv.bd _ (rbare_ev x.f2) ?_
        have : code_dw.fineB x = bareB x.f2 := by
          rw [fineN h1]
          have : x.f1.length = 0 := by omega
          simp [this]
        rw [this] at k
        exact k
  refine Ev.step (fun m => notaryref36_Deriv.f.eq_2 ..) (LEv.neg hl (LEv.ite (fun _ => hj) (fun h1 => LEv.ite (fun _ => hj) (fun h2 => ?_))))
  rw [show (x.f0 != 3) = false by simp; omega]
  exact hj
theorem dwr_err (x : D) (lv : Int) (s : List Int × Int) (h1 : s.1.length < 1000000000) (h2 : x.f3.length < 1000000000) (h3 : -1000000 ≤ lv ∧ lv ≤ 1000000) (he : s.2 ≠ 0) : Ev (fun m => code_dw.deriv m x lv s) s :=
  Ev.step (fun m => code_dw.deriv.eq_2 ..) (LEv.pos ⟨h1, h2, h3⟩ (LEv.pos he (Ev.now _)))
theorem dall_err (lv : Int) (s : List Int × Int) (h1 : s.1.length < 1000000000) (h3 : -1000000 ≤ lv ∧ lv ≤ 1000000) (he : s.2 ≠ 0) : ∀ xs : List D, (∀ x ∈ xs, x.f3.length < 1000000000) → Ev (fun m => code_dw.all (fun x s => code_dw.deriv m x lv s) xs s) s
  | [], _ => Ev.now _
  | x :: xs, h => LEv.bd s (dwr_err x lv s h1 (h x (by simp)) h3 he) (dall_err lv s h1 h3 he xs (fun y hy => h y (by simp [hy])))
structure EncD (x : D) (lv : Nat) (b : List Int) (e : Int) : Prop where
  len : b.length ≤ dz x
  byt : Byt b
  dbx : e = 0 → b = db x
  good : GoodD lv x → e = 0
  ref : ∃ rb, rb.length ≤ dz x ∧ Ev (fun m => notaryref36_Deriv.f m x.f0 x.f1 x.f2.f0 x.f2.f1 x.f2.f2 x.f2.f3 x.f2.f4.f0 x.f2.f4.f1 x.f2.f4.f2 x.f2.f4.f3 x.f2.f4.f4 x.f2.f4.f5 x.f3 (lv : Int)) (rb, e) ∧ (e = 0 → rb = b)
  wr : ∀ out : List Int, out.length + dz x ≤ 100000000 → ∃ b', b'.length ≤ out.length + dz x ∧ Ev (fun m => code_dw.deriv m x (lv : Int) (out, 0)) (b', e) ∧ (e = 0 → b' = out ++ b)
  rd : e = 0 → 0 < b.length ∧ ∀ (B pre rest : List Int), B = pre ++ b ++ rest → Byt B → B.length ≤ 100000000000 → Ev (fun m => code_rs.deriv m B ((lv : Int) - 1) (pre.length : Int) 0) (x, ((pre.length + b.length : Nat) : Int), 0)
structure EncDL (x : D) (xs : List D) (lv : Nat) (b : List Int) (e : Int) : Prop where
  len : b.length ≤ (xs.map dz).sum
  byt : Byt b
  dbx : e = 0 → b = (xs.map db).flatten
  good : (∀ y ∈ xs, GoodD (lv + 1) y) → e = 0
  ref : ∀ (pre : List D) (acc : List Int), x.f3 = pre ++ xs → acc.length + (xs.map dz).sum ≤ 100000000 → Ev (fun m => notaryref36_Deriv.l0 m (lv : Int) acc (pre.length : Int) x.f0 x.f1 x.f2.f0 x.f2.f1 x.f2.f2 x.f2.f3 x.f2.f4.f0 x.f2.f4.f1 x.f2.f4.f2 x.f2.f4.f3 x.f2.f4.f4 x.f2.f4.f5 x.f3) (if e = 0 then acc ++ b else [], e)
  wr : ∀ out : List Int, out.length + (xs.map dz).sum ≤ 100000000 → ∃ b', b'.length ≤ out.length + (xs.map dz).sum ∧ Ev (fun m => code_dw.all (fun x s => code_dw.deriv m x ((lv : Int) + 1) s) xs (out, 0)) (b', e) ∧ (e = 0 → b' = out ++ b)
  rd : e = 0 → ∀ (B pre rest : List Int) (outs : List D) (c : Nat), B = pre ++ b ++ rest → Byt B → B.length ≤ 100000000000 → outs.length + xs.length ≤ 100000 → Ev (fun m => code_rr.loopD (fun p e => code_rs.deriv (m + c) B (lv : Int) p e) m ((outs.length + xs.length : Nat) : Int) (pre.length : Int) 0 outs) (outs ++ xs, ((pre.length + b.length : Nat) : Int), 0)
theorem rdD (pre : List D) (r : D) (rest : List D) : rd_T42 (pre ++ r :: rest) (pre.length : Int) = r := by
  unfold rd_T42
  simp [List.getD_eq_getElem?_getD]
theorem dlt (pre : List D) (r : D) (rest : List D) : (pre.length : Int) < ((pre ++ r :: rest).length : Int) := by simp; omega
theorem encDL (x : D) (lv : Nat) (hlv : 1 ≤ lv ∧ lv ≤ 500) : ∀ xs : List D, xs.length ≤ 100000 → x.f3.length ≤ 100000 → (xs.map dz).sum ≤ 50000000 → (∀ y ∈ xs, y.f3.length ≤ 100000 ∧ ∃ b e, EncD y (lv + 1) b e) → ∃ b e, EncDL x xs lv b e := by
  intro xs
  induction xs with
  | nil =>
    intro hl hx hz _
    refine ⟨[], 0, by simp, Byt.nil, fun _ => rfl, fun _ => rfl, fun pre acc he ha => ?_, fun out ho => ⟨out, by omega, Ev.now _, fun _ => by simp⟩, fun _ B pre rest outs c hB hb hl ho => ?_⟩
    · refine Ev.step (fun m => notaryref36_Deriv.l0.eq_2 ..) (LEv.neg (by rw [he]; simp) (LEv.fin (by simp)))
    · refine Ev.step (fun m => code_rr.loopD.eq_2 ..) (LEv.neg (by simp) (LEv.fin (by simp)))
  | cons y xs ih =>
    intro hl hx hz hall
    simp only [List.map_cons, List.sum_cons, List.length_cons] at hl hz
    obtain ⟨hy3, b1, e1, h1⟩ := hall y (by simp)
    obtain ⟨b2, e2, h2⟩ := ih (by omega) hx (by omega) (fun z hz => hall z (by simp [hz]))
    have l1 := h1.len
    have l2 := h2.len
    obtain ⟨rb, q1, q2, q3⟩ := h1.ref
    by_cases he : e1 = 0
    case neg =>
      refine ⟨[], e1, by simp, Byt.nil, fun h => absurd h he, fun h => h1.good (h y (by simp)), fun pre acc hp ha => ?_, fun out ho => ?_, fun h => absurd h he⟩
      · have er : rd_T42 x.f3 (pre.length : Int) = y := by rw [hp]; exact rdD _ _ _
        refine Ev.step (fun m => notaryref36_Deriv.l0.eq_2 ..) (LEv.pos (by rw [hp]; exact dlt _ _ _) (LEv.pos (by omega) ?_))
        rw [er, up1 lv (by omega)]
        refine LEv.bd _ q2 (LEv.neg he (LEv.fin (by simp [he])))
      · simp only [List.map_cons, List.sum_cons] at ho
        obtain ⟨b', c1, c2, c3⟩ := h1.wr out (by omega)
        refine ⟨b', by simp only [List.map_cons, List.sum_cons]; omega, ?_, fun h => absurd h he⟩
        have c4 : Ev (fun m => code_dw.deriv m y ((lv : Int) + 1) (out, 0)) (b', e1) := by rw [show ((lv : Int) + 1) = ((lv + 1 : Nat) : Int) by omega]; exact c2
        exact LEv.bd _ c4 (dall_err _ _ (by show b'.length < _; omega) (by omega) he xs (fun z hz => by have := (hall z (by simp [hz])).1; omega))
    subst he
    obtain rfl := q3 rfl
    refine ⟨rb ++ b2, e2, by simp only [List.length_append, List.map_cons, List.sum_cons]; omega, h1.byt.append h2.byt, fun h0 => by rw [h1.dbx rfl, h2.dbx h0]; simp, fun h => h2.good (fun z hz => h z (by simp [hz])), fun pre acc hp ha => ?_, fun out ho => ?_, fun h0 B pre rest outs c hB hb hlB ho => ?_⟩
    · simp only [List.map_cons, List.sum_cons] at ha
      have er : rd_T42 x.f3 (pre.length : Int) = y := by rw [hp]; exact rdD _ _ _
      refine Ev.step (fun m => notaryref36_Deriv.l0.eq_2 ..) (LEv.pos (by rw [hp]; exact dlt _ _ _) (LEv.pos (by omega) ?_))
      rw [er, up1 lv (by omega)]
      refine LEv.bd _ q2 (LEv.pos rfl (LEv.pos (by show acc.length + rb.length < _; omega) ?_))
      rw [up1 _ (by rw [hp] at hx; simp at hx; omega), ← len1 pre y]
      have := h2.ref (pre ++ [y]) (acc ++ rb) (by rw [hp]; simp) (by simp only [List.length_append]; omega)
      rw [List.append_assoc] at this
      exact this
    · simp only [List.map_cons, List.sum_cons] at ho
      obtain ⟨b', c1, c2, c3⟩ := h1.wr out (by omega)
      obtain rfl := c3 rfl
      obtain ⟨b'', d1, d2, d3⟩ := h2.wr (out ++ rb) (by simp only [List.length_append]; omega)
      refine ⟨b'', by simp only [List.length_append, List.map_cons, List.sum_cons] at d1 ⊢; omega, ?_, fun h => by rw [d3 h, List.append_assoc]⟩
      have c4 : Ev (fun m => code_dw.deriv m y ((lv : Int) + 1) (out, 0)) (out ++ rb, 0) := by rw [show ((lv : Int) + 1) = ((lv + 1 : Nat) : Int) by omega]; exact c2
      exact LEv.bd _ c4 d2
    · simp only [List.length_cons] at ho
      have r1 := (h1.rd rfl).2 B pre (b2 ++ rest) (by rw [hB]; simp) hb hlB
      rw [show (((lv + 1 : Nat) : Int) - 1) = (lv : Int) by omega] at r1
      have r2 := h2.rd h0 B (pre ++ rb) rest (outs ++ [y]) (c + 1) (by rw [hB]; simp) hb hlB (by simp only [List.length_append, List.length_singleton]; omega)
      refine Ev.step (fun m => code_rr.loopD.eq_2 ..) (LEv.pos ⟨by simp only [List.length_cons]; omega, rfl⟩ (LEv.bd _ (Ev.congr (fun m => by rw [Nat.add_assoc]) (shift r1 (1 + c))) ?_))
      refine LEv.pos (by omega) ?_
      rw [show (outs ++ [y]).length + xs.length = outs.length + (y :: xs).length by simp; omega, show outs ++ [y] ++ xs = outs ++ y :: xs by simp, show (pre ++ rb).length + b2.length = pre.length + (rb ++ b2).length by simp; omega, show (pre ++ rb).length = pre.length + rb.length by simp] at r2
      exact Ev.congr (fun m => by rw [Nat.add_assoc, Nat.add_comm 1 c]) r2
theorem dsum_mem (y : D) : ∀ l : List D, y ∈ l → dz y ≤ (l.map dz).sum
  | z :: l, h => by
    simp only [List.map_cons, List.sum_cons]
    rcases List.mem_cons.1 h with rfl | h
    · omega
    · have := dsum_mem y l h; omega
theorem zeroS {s : S} (h : bareB s = true) : s = ⟨0, false, [], [], ⟨0, 0, ⟨#[]⟩, [], 0, 0⟩⟩ := by
  unfold bareB at h
  simp only [Bool.and_eq_true, beq_iff_eq, Bool.not_eq_true', List.length_eq_zero_iff] at h
  obtain ⟨⟨⟨⟨⟨⟨⟨⟨⟨h0, h1⟩, h2⟩, h3⟩, h4⟩, h5⟩, h6⟩, h7⟩, h8⟩, h9⟩ := h
  have := f2_nil _ h6
  obtain ⟨a, b, c, d, ⟨e, f, g, i, j, k⟩⟩ := s
  simp_all
theorem enc_deriv (x : D) : ∀ n lv : Nat, TameD n x → dz x ≤ 50000000 → 1 ≤ lv → lv + n ≤ 500 → ∃ b e, EncD x lv b e := by
  induction x using indD with
  | h x ih =>
  intro n lv hT hz hlv hln
  obtain ⟨n', rfl⟩ : ∃ k, n = k + 1 := by cases hT; exact ⟨_, rfl⟩
  have h1 := hT.l1
  have h3 := hT.l3
  have hS := hT.s
  have hzx := dz_eq x
  -- what is wrong at once
  have bad : ∀ e : Int, e ≠ 0 → Ev (fun m => notaryref36_Deriv.f m x.f0 x.f1 x.f2.f0 x.f2.f1 x.f2.f2 x.f2.f3 x.f2.f4.f0 x.f2.f4.f1 x.f2.f4.f2 x.f2.f4.f3 x.f2.f4.f4 x.f2.f4.f5 x.f3 (lv : Int)) ([], e) → (∀ out : List Int, out.length < 1000000000 → Ev (fun m => code_dw.deriv m x (lv : Int) (out, 0)) (out, e)) → ¬ GoodD lv x → ∃ b e, EncD x lv b e := fun e he q1 q2 q3 =>
    ⟨[], e, ⟨by simp, Byt.nil, fun h => absurd h he, fun g => absurd g q3, ⟨[], by simp, q1, fun h => absurd h he⟩, fun out ho => ⟨out, by omega, q2 out (by omega), fun h => absurd h he⟩, fun h => absurd h he⟩⟩
  have wst : ∀ (out : List Int) (r : List Int × Int), out.length < 1000000000 → Ev (fun m => if (lv : Int) > 64 then some (out, 7) else if x.f0 < 1 ∨ x.f0 > 3 then some (out, 23) else if code_dw.fineB x = true then
        (if x.f0 = 1 then code_dw.step m x.f2 (out ++ [x.f0], 0) else (if x.f0 = 3 then code_dw.list m x.f1 (out ++ [x.f0], 0) else some (out ++ [x.f0], 0)).bind fun s2 => (varint_Bytes.f m (x.f3.length : Int)).bind fun nb => if s2.1.length < 1000000000 ∧ nb.length ≤ 1000 then code_dw.all (fun x s => code_dw.deriv m x ((lv : Int) + 1) s) x.f3 (s2.1 ++ nb, s2.2) else none) else some (out, 2)) r → Ev (fun m => code_dw.deriv m x (lv : Int) (out, 0)) r := fun out r ho k => by
    refine Ev.step (fun m => code_dw.deriv.eq_2 ..) (LEv.pos ⟨ho, by omega, by omega⟩ (LEv.neg (fun h => h rfl) ?_))
    rw [fine_ev]
    exact k
  by_cases c1 : (lv : Int) > 64
  · exact bad 7 (by decide) (Ev.step (fun m => notaryref36_Deriv.f.eq_2 ..) (LEv.pos c1 (Ev.now _))) (fun out ho => wst out _ ho (LEv.pos c1 (Ev.now _))) (fun g => by have := g.lvl; omega)
  by_cases c2 : x.f0 < 1 ∨ x.f0 > 3
  · refine bad 23 (by decide) (Ev.step (fun m => notaryref36_Deriv.f.eq_2 ..) (LEv.neg c1 (LEv.neg (by omega) (LEv.neg (by omega) ?_)))) (fun out ho => wst out _ ho (LEv.neg c1 (LEv.pos c2 (Ev.now _)))) (fun g => by have := g.knd; omega)
    rw [show (x.f0 != 3) = true by simp; omega]
    exact Ev.step (fun m => notaryref36_Deriv.j0.eq_2 ..) (LEv.pos rfl (Ev.now _))
  have hk : 1 ≤ x.f0 ∧ x.f0 ≤ 3 := by omega
  by_cases c3 : code_dw.fineB x = true
  case neg =>
    refine bad 2 (by decide) (rderiv_in x _ c1 hk ?_) (fun out ho => wst out _ ho (LEv.neg c1 (LEv.neg c2 (LEv.neg c3 (Ev.now _))))) (fun g => c3 g.fine)
    rw [show (!code_dw.fineB x) = true by simpa using c3]
    exact Ev.step (fun m => notaryref36_Deriv.j1.eq_2 ..) (LEv.pos rfl (Ev.now _))
  have hm : x.f0 % 256 = x.f0 := by omega
  have rin : ∀ r : List Int × Int, Ev (fun m => if x.f0 = 1 then ((notaryref36_Step.f m x.f2.f0 x.f2.f1 x.f2.f2 x.f2.f3 x.f2.f4.f0 x.f2.f4.f1 x.f2.f4.f2 x.f2.f4.f3 x.f2.f4.f4 x.f2.f4.f5).bind fun bt281 => (if ([x.f0] : List Int).length + bt281.1.length < 140737488355328 then (some (([x.f0] ++ bt281.1), bt281.2)) else (none))) else (if x.f0 = 3 then ((notaryref36_List.f m x.f1).bind fun bt288 => (if bt288.2 = 0 then (if ([x.f0] : List Int).length + bt288.1.length < 140737488355328 then (notaryref36_Deriv.j2 m (lv : Int) ([x.f0] ++ bt288.1) x.f0 x.f1 x.f2.f0 x.f2.f1 x.f2.f2 x.f2.f3 x.f2.f4.f0 x.f2.f4.f1 x.f2.f4.f2 x.f2.f4.f3 x.f2.f4.f4 x.f2.f4.f5 x.f3) else (none)) else (some ((([] : List Int)), bt288.2)))) else (notaryref36_Deriv.j2 m (lv : Int) [x.f0] x.f0 x.f1 x.f2.f0 x.f2.f1 x.f2.f2 x.f2.f3 x.f2.f4.f0 x.f2.f4.f1 x.f2.f4.f2 x.f2.f4.f3 x.f2.f4.f4 x.f2.f4.f5 x.f3))) r → Ev (fun m => notaryref36_Deriv.f m x.f0 x.f1 x.f2.f0 x.f2.f1 x.f2.f2 x.f2.f3 x.f2.f4.f0 x.f2.f4.f1 x.f2.f4.f2 x.f2.f4.f3 x.f2.f4.f4 x.f2.f4.f5 x.f3 (lv : Int)) r := fun r k => by
    refine rderiv_in x _ c1 hk ?_
    rw [c3]
    refine Ev.step (fun m => notaryref36_Deriv.j1.eq_2 ..) (LEv.neg (by decide) (LEv.sb ?_))
    rw [hm]
    exact k
  have win : ∀ (out : List Int) (r : List Int × Int), out.length < 1000000000 → Ev (fun m => if x.f0 = 1 then code_dw.step m x.f2 (out ++ [x.f0], 0) else (if x.f0 = 3 then code_dw.list m x.f1 (out ++ [x.f0], 0) else some (out ++ [x.f0], 0)).bind fun s2 => (varint_Bytes.f m (x.f3.length : Int)).bind fun nb => if s2.1.length < 1000000000 ∧ nb.length ≤ 1000 then code_dw.all (fun x s => code_dw.deriv m x ((lv : Int) + 1) s) x.f3 (s2.1 ++ nb, s2.2) else none) r → Ev (fun m => code_dw.deriv m x (lv : Int) (out, 0)) r := fun out r ho k => wst out r ho (LEv.neg c1 (LEv.neg c2 (LEv.pos c3 k)))
  have hdn : code_rd.down ((lv : Int) - 1) 0 = (true, (lv : Int), 0) := by
    unfold code_rd.down
    rw [if_pos rfl, if_neg (by omega), Int.sub_add_cancel]
  have hkd : code_rs.kind x.f0 0 = 0 := by unfold code_rs.kind; rw [if_neg (by omega)]
  -- the first byte, read
  have rdin : ∀ (B pre rest : List Int) (r : D × Int × Int), B = pre ++ [x.f0] ++ rest → B.length ≤ 100000000000 → Ev (fun m => if x.f0 = 1 then (code_rs.step m B ((pre ++ [x.f0]).length : Int) 0).bind fun s => some (⟨x.f0, [], s.1, []⟩, s.2.1, s.2.2) else (if x.f0 = 3 then code_rr.manyI (code_rr.index m B) m B ((pre ++ [x.f0]).length : Int) 0 else some ([], ((pre ++ [x.f0]).length : Int), 0)).bind fun l => (code_rr.manyD (code_rs.deriv m B (lv : Int)) m B l.2.1 l.2.2).bind fun q => some (⟨x.f0, l.1, ⟨0, false, [], [], ⟨0, 0, ⟨#[]⟩, [], 0, 0⟩⟩, q.1⟩, q.2.1, q.2.2)) r → Ev (fun m => code_rs.deriv m B ((lv : Int) - 1) (pre.length : Int) 0) r := fun B pre rest r hB hl k => by
    have hlB : B.length = pre.length + 1 + rest.length := by rw [hB]; simp; omega
    have hrd : rd B (pre.length : Int) = x.f0 := by
      have : B = pre ++ x.f0 :: rest := by rw [hB]; simp
      rw [this, rdI]
    have one : code_rd.one B (pre.length : Int) 0 = some (x.f0, ((pre ++ [x.f0]).length : Int), 0) := by
      unfold code_rd.one
      rw [if_pos rfl, if_neg (by omega), if_pos (by omega), hrd, w64 _ (by omega) (by omega)]
      simp
    refine Ev.step (fun m => code_rs.deriv.eq_2 ..) (LEv.pos ⟨by omega, by omega⟩ ?_)
    rw [hdn]
    refine LEv.pos rfl (LEv.eqb one ?_)
    rw [hkd, Int.sub_add_cancel]
    exact k
  by_cases hK : x.f0 = 1
  · obtain ⟨b, e, hE⟩ := enc_step x.f2 hS
    have lE := hE.len
    have hf := c3
    rw [fine1 hK] at hf
    simp only [Bool.and_eq_true, beq_iff_eq, List.length_eq_zero_iff] at hf
    refine ⟨[x.f0] ++ b, e, by simp only [List.length_append, List.length_singleton]; omega, (Byt.nil.cons (by omega) (by omega)).append hE.byt, fun h => by rw [db_eq, if_pos hK, hE.sbx h], fun g => hE.good (g.step hK), ⟨[x.f0] ++ (if e = 0 then b else []), ?_, rin _ (LEv.pos hK (LEv.bd _ hE.ref (LEv.pos ?_ (Ev.now _)))), fun h => by rw [if_pos h]⟩, fun out ho => ?_, fun h => ⟨by simp, fun B pre rest hB hb hl => ?_⟩⟩
    · split <;> simp <;> omega
    · show ([x.f0] : List Int).length + (if e = 0 then b else []).length < _
      split <;> simp <;> omega
    · obtain ⟨b', d1, d2, d3⟩ := hE.wr (out ++ [x.f0]) (by simp only [List.length_append, List.length_singleton]; omega)
      refine ⟨b', by simp only [List.length_append, List.length_singleton] at d1; omega, win out _ (by omega) (LEv.pos hK d2), fun h => by rw [d3 h]; simp⟩
    · subst h
      have r := hE.rd rfl B (pre ++ [x.f0]) rest (by rw [hB]; simp) hb hl
      refine rdin B pre (b ++ rest) _ (by rw [hB]; simp) hl (LEv.pos hK (LEv.bd _ r (LEv.fin ?_)))
      have hx : (⟨x.f0, [], x.f2, []⟩ : D) = x := by
        obtain ⟨a, p, s, l⟩ := x
        simp_all
      rw [hx]
      simp only [List.length_append, List.length_singleton, Prod.mk.injEq, true_and, and_true]
      omega
  obtain ⟨b, e, hL⟩ := encDL x lv (by omega) x.f3 h3 h3 (by omega) (fun y hy => ⟨(hT.sub hy).l3, ih y hy n' (lv + 1) (hT.sub hy) (by have := dsum_mem y x.f3 hy; omega) (by omega) (by omega)⟩)
  have lL := hL.len
  have hf := c3
  rw [fineN hK] at hf
  simp only [Bool.and_eq_true, Bool.or_eq_true, beq_iff_eq, List.length_eq_zero_iff] at hf
  have e2 := enc_length (x.f3.length : Int)
  have hw : IntKind.u64.wrap (x.f3.length : Int) = (x.f3.length : Int) := by rw [u64w]; omega
  have lp := lb_length x.f1
  obtain ⟨q1, q1'⟩ := rlist x.f1 h1
  -- the path is wrong
  by_cases hP : x.f0 = 3 ∧ ¬ okL x.f1
  · refine ⟨[], 13, by simp, Byt.nil, fun h => absurd h (by decide), fun g => absurd (g.path hP.1) hP.2, ⟨[], by simp, rin _ (LEv.neg hK (LEv.pos hP.1 (LEv.bd _ (q1' hP.2) (LEv.neg (by decide) (LEv.fin rfl))))), fun h => absurd h (by decide)⟩, fun out ho => ?_, fun h => absurd h (by decide)⟩
    obtain ⟨b', d1, d2⟩ := list_bad x.f1 (out ++ [x.f0]) hP.2 h1 (by simp only [List.length_append, List.length_singleton]; omega)
    simp only [List.length_append, List.length_singleton] at d1
    refine ⟨b' ++ enc (x.f3.length : Int), by simp only [List.length_append]; unfold sw at hzx; omega, win out _ (by omega) (LEv.neg hK (LEv.bd _ (LEv.pos hP.1 d2) (LEv.bd _ (bytes_ev _ (by omega) (by omega)) (LEv.pos ⟨by show b'.length < _; omega, by omega⟩ ?_)))), fun h => absurd h (by decide)⟩
    exact dall_err _ _ (by show (b' ++ enc (x.f3.length : Int)).length < _; simp only [List.length_append]; omega) (by omega) ne13 x.f3 (fun z hz => by have := (hT.sub hz).l3; omega)
  have hok : x.f0 = 3 → okL x.f1 := fun h => Classical.byContradiction fun g => hP ⟨h, g⟩
  -- the bytes ahead of the parts
  obtain ⟨L, hLe⟩ : ∃ L, L = (if x.f0 = 3 then lb x.f1 else []) := ⟨_, rfl⟩
  have lL1 : L.length ≤ 10 * (x.f1.length + 1) := by rw [hLe]; split; exact lp; exact Nat.zero_le _
  have bL : Byt L := by rw [hLe]; split; exact lb_byt _ (hok (by assumption)); exact Byt.nil
  have hpath : x.f0 ≠ 3 → x.f1 = [] := fun h => hf.2.resolve_left h
  refine ⟨[x.f0] ++ (L ++ enc (x.f3.length : Int) ++ b), e, ?_, ?_, fun h => by rw [db_eq, if_neg hK, hL.dbx h, hLe], fun g => hL.good (fun y hy => g.sub hy), ⟨if e = 0 then [x.f0] ++ (L ++ enc (x.f3.length : Int) ++ b) else [], ?_, rin _ (LEv.neg hK ?_), fun h => by rw [if_pos h]⟩, fun out ho => ?_, fun h => ⟨by simp, fun B pre rest hB hb hl => ?_⟩⟩
  · simp only [List.length_append, List.length_singleton]; unfold sw at hzx; omega
  · exact (Byt.nil.cons (by omega) (by omega)).append ((bL.append (enc_byt _ (by omega))).append hL.byt)
  · split
    · simp only [List.length_append, List.length_singleton]; unfold sw at hzx; omega
    · simp
  · have k2 : ∀ y : List Int, y = [x.f0] ++ L → Ev (fun m => notaryref36_Deriv.j2 m (lv : Int) y x.f0 x.f1 x.f2.f0 x.f2.f1 x.f2.f2 x.f2.f3 x.f2.f4.f0 x.f2.f4.f1 x.f2.f4.f2 x.f2.f4.f3 x.f2.f4.f4 x.f2.f4.f5 x.f3) (if e = 0 then [x.f0] ++ (L ++ enc (x.f3.length : Int) ++ b) else [], e) := fun y hy => by
      refine Ev.step (fun m => notaryref36_Deriv.j2.eq_2 ..) ?_
      rw [hw]
      refine LEv.bd _ (rbytes_ev _ (by omega) (by omega)) (LEv.pos (by rw [hy]; simp only [List.length_append, List.length_singleton]; omega) ?_)
      have := hL.ref [] (y ++ enc (x.f3.length : Int)) rfl (by rw [hy]; simp only [List.length_append, List.length_singleton]; unfold sw at hzx; omega)
      rw [show [x.f0] ++ (L ++ enc (x.f3.length : Int) ++ b) = y ++ enc (x.f3.length : Int) ++ b by rw [hy]; simp]
      rw [show ((([] : List D).length : Nat) : Int) = 0 from rfl] at this
      exact this
    refine LEv.ite (fun h => ?_) (fun h => ?_)
    · have hL3 : L = lb x.f1 := by rw [hLe, if_pos h]
      exact LEv.bd _ (q1 (hok h)) (LEv.pos rfl (LEv.pos (by simp only [List.length_singleton]; omega) (k2 _ (by rw [hL3]))))
    · have hL3 : L = [] := by rw [hLe, if_neg h]
      exact k2 _ (by rw [hL3]; simp)
  · have hz2 : out.length + (31 + 10 * x.f1.length + 10) + (x.f3.map dz).sum ≤ 100000000 := by unfold sw at hzx; omega
    obtain ⟨b', d1, d2, d3⟩ := hL.wr (out ++ [x.f0] ++ L ++ enc (x.f3.length : Int)) (by simp only [List.length_append, List.length_singleton]; omega)
    simp only [List.length_append, List.length_singleton] at d1
    refine ⟨b', by unfold sw at hzx; omega, win out _ (by omega) (LEv.neg hK ?_), fun h => by rw [d3 h]; simp⟩
    refine LEv.bd (out ++ [x.f0] ++ L, 0) ?_ (LEv.bd _ (bytes_ev _ (by omega) (by omega)) (LEv.pos ⟨by simp only [List.length_append, List.length_singleton]; omega, by omega⟩ d2))
    refine LEv.ite (fun h => ?_) (fun h => ?_)
    · have hL3 : L = lb x.f1 := by rw [hLe, if_pos h]
      rw [hL3]
      exact list_ok x.f1 _ (hok h) h1 (by simp only [List.length_append, List.length_singleton]; omega)
    · have hL3 : L = [] := by rw [hLe, if_neg h]
      exact LEv.fin (by rw [hL3]; simp)
  · subst h
    have hlB : B.length = pre.length + (1 + (L.length + (enc (x.f3.length : Int)).length + b.length)) + rest.length := by rw [hB]; simp; omega
    have num := number_ok B (pre ++ [x.f0] ++ L) (x.f3.length : Int) (b ++ rest) (by omega) (by omega) (by rw [hB]; simp) hb hl
    have lst := hL.rd rfl B (pre ++ [x.f0] ++ L ++ enc (x.f3.length : Int)) rest [] 0 (by rw [hB]; simp) hb hl (by simp; omega)
    refine rdin B pre (L ++ enc (x.f3.length : Int) ++ b ++ rest) _ (by rw [hB]; simp) hl (LEv.neg hK ?_)
    refine LEv.bd (x.f1, ((pre ++ [x.f0] ++ L).length : Int), 0) ?_ (LEv.bd (x.f3, ((pre.length + ([x.f0] ++ (L ++ enc (x.f3.length : Int) ++ b)).length : Nat) : Int), 0) (Ev.congr (fun m => code_rr.manyD.eq_1 ..) (LEv.bd _ num ?_)) (LEv.fin ?_))
    · refine LEv.ite (fun h => ?_) (fun h => ?_)
      · have hL3 : L = lb x.f1 := by rw [hLe, if_pos h]
        have := rmany_ok B (pre ++ [x.f0]) x.f1 (enc (x.f3.length : Int) ++ b ++ rest) (hok h) h1 (by rw [hB, hL3]; simp) hb hl
        rw [hL3, show (pre ++ [x.f0] ++ lb x.f1).length = (pre ++ [x.f0]).length + (lb x.f1).length from List.length_append]
        exact this
      · have hL3 : L = [] := by rw [hLe, if_neg h]
        exact LEv.fin (by rw [hL3, hpath h]; simp)
    · rw [List.length_nil, Nat.zero_add, List.nil_append, show (pre ++ [x.f0] ++ L ++ enc (x.f3.length : Int)).length + b.length = pre.length + ([x.f0] ++ (L ++ enc (x.f3.length : Int) ++ b)).length by simp only [List.length_append, List.length_singleton]; omega, show (pre ++ [x.f0] ++ L ++ enc (x.f3.length : Int)).length = (pre ++ [x.f0] ++ L).length + (enc (x.f3.length : Int)).length by simp only [List.length_append]] at lst
      exact lst
    · have hx : (⟨x.f0, x.f1, ⟨0, false, [], [], ⟨0, 0, ⟨#[]⟩, [], 0, 0⟩⟩, x.f3⟩ : D) = x := by
        have := zeroS hf.1
        obtain ⟨a, p, s, l⟩ := x
        simp_all
      rw [hx]
end Go.Proofs.Ytiamcmjdoobaeaa.LDv
