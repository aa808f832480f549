/- Derivations as bytes, plainly: what is written, by both programs, and that it is read back. -/
import Derived.Test.YtiamcmjdoobaeaaLCd
import Derived.Test.YtiamcmjdoobaeaaLStub
import Derived.Test.YtiamcmjdoobaeaaPCex2
import Derived.Test.YtiamcmjdoobaeaaPCex3
import Derived.Test.YtiamcmjdoobaeaaPCex7
import Derived.Test.YtiamcmjdoobaeaaPCex8
namespace Go.Proofs.Ytiamcmjdoobaeaa.LDv
open Go.RowKit Go.Proofs.Ytiamcmjdoobaeaa.PCe Go.Proofs.YtiamcmjdoobaeaaW.PrintWords Go.Proofs.YtiamcmjdoobaeaaW.PrintLast Go.Proofs.YtiamcmjdoobaeaaW.PrintMore
open LTerm SVarint LVarint LCd
set_option linter.unusedVariables false
set_option linter.unusedSimpArgs false
abbrev S := S39
abbrev D := S42
/-- a number of a list -/
def okI (n : Int) : Prop := 0 ≤ n ∧ n ≤ 2147483647
def okL (l : List Int) : Prop := ∀ n ∈ l, okI n
def fb (l : List Int) : List Int := (l.map enc).flatten
def lb (l : List Int) : List Int := enc (l.length : Int) ++ fb l
theorem ne13 : ¬ ((13 : Int) = 0) := by decide
theorem okL.head {n : Int} {l : List Int} (h : okL (n :: l)) : okI n := h n (by simp)
theorem okL.tail {n : Int} {l : List Int} (h : okL (n :: l)) : okL l := fun x hx => h x (by simp [hx])
theorem fb_cons (n : Int) (l : List Int) : fb (n :: l) = enc n ++ fb l := by simp [fb]
theorem fb_length : ∀ l : List Int, (fb l).length ≤ 10 * l.length
  | [] => by simp [fb]
  | n :: l => by have := fb_length l; have := enc_length n; rw [fb_cons]; simp; omega
theorem lb_length (l : List Int) : (lb l).length ≤ 10 * (l.length + 1) := by have := fb_length l; have := enc_length (l.length : Int); unfold lb; simp; omega
theorem fb_byt : ∀ l : List Int, okL l → Byt (fb l)
  | [], _ => Byt.nil
  | n :: l, h => by rw [fb_cons]; exact (enc_byt n h.head.1).append (fb_byt l h.tail)
theorem lb_byt (l : List Int) (h : okL l) : Byt (lb l) := (enc_byt _ (by omega)).append (fb_byt l h)
theorem index_ok (n : Int) (h : okI n) (out : List Int) (ho : out.length < 1000000000) : Ev (fun m => code_dw.index m n (out, 0)) (out ++ enc n, 0) :=
  Ev.congr (fun m => code_dw.index.eq_1 ..) (LEv.pos ho (LEv.neg (by have := h.1; have := h.2; omega) (LEv.bd _ (bytes_ev n h.1 (by have := h.2; omega)) (LEv.pos (by have := enc_length n; omega) (Ev.now _)))))
theorem index_bad (n : Int) (h : ¬ okI n) (out : List Int) (ho : out.length < 1000000000) : Ev (fun m => code_dw.index m n (out, 0)) (out, 13) :=
  Ev.congr (fun m => code_dw.index.eq_1 ..) (LEv.pos ho (LEv.pos (by unfold okI at h; omega) (LEv.fin rfl)))
theorem idxs_err : ∀ (l : List Int) (s : List Int × Int), s.2 ≠ 0 → Ev (fun m => code_dw.idxs m l s) s
  | [], s, h => Ev.now _
  | n :: l, s, h => Ev.congr (fun m => code_dw.idxs.eq_2 ..) (LEv.pos h (Ev.now _))
theorem idxs_ok : ∀ (l : List Int) (out : List Int), okL l → out.length + 10 * l.length ≤ 100000000 → Ev (fun m => code_dw.idxs m l (out, 0)) (out ++ fb l, 0)
  | [], out, _, _ => LEv.fin (by simp [fb])
  | n :: l, out, h, ho => by
    have := enc_length n
    simp only [List.length_cons] at ho
    refine Ev.congr (fun m => code_dw.idxs.eq_2 ..) (LEv.neg (fun h => h rfl) (LEv.bd _ (index_ok n h.head out (by omega)) ?_))
    rw [fb_cons, ← List.append_assoc]
    exact idxs_ok l (out ++ enc n) h.tail (by simp only [List.length_append]; omega)
theorem idxs_bad : ∀ (l : List Int) (out : List Int), ¬ okL l → out.length + 10 * l.length ≤ 100000000 → ∃ b', b'.length ≤ out.length + 10 * l.length ∧ Ev (fun m => code_dw.idxs m l (out, 0)) (b', 13)
  | [], out, h, _ => absurd (fun n hn => by cases hn) h
  | n :: l, out, h, ho => by
    have := enc_length n
    simp only [List.length_cons] at ho ⊢
    by_cases hn : okI n
    · obtain ⟨b', c1, c2⟩ := idxs_bad l (out ++ enc n) (fun g => h (fun x hx => by rcases List.mem_cons.1 hx with rfl | hx; exact hn; exact g x hx)) (by simp only [List.length_append]; omega)
      refine ⟨b', by simp only [List.length_append] at c1; omega, ?_⟩
      exact Ev.congr (fun m => code_dw.idxs.eq_2 ..) (LEv.neg (fun h => h rfl) (LEv.bd _ (index_ok n hn out (by omega)) c2))
    · refine ⟨out, by omega, ?_⟩
      exact Ev.congr (fun m => code_dw.idxs.eq_2 ..) (LEv.neg (fun h => h rfl) (LEv.bd _ (index_bad n hn out (by omega)) (idxs_err l _ ne13)))
theorem list_ok (l out : List Int) (h : okL l) (hl : l.length ≤ 100000) (ho : out.length + 10 * (l.length + 1) ≤ 100000000) : Ev (fun m => code_dw.list m l (out, 0)) (out ++ lb l, 0) := by
  have := enc_length (l.length : Int)
  refine Ev.congr (fun m => code_dw.list.eq_1 ..) (LEv.pos ⟨by show out.length < _; omega, by omega⟩ (LEv.bd _ (bytes_ev _ (by omega) (by omega)) (LEv.pos (by omega) ?_)))
  unfold lb
  rw [← List.append_assoc]
  exact idxs_ok l _ h (by simp only [List.length_append]; omega)
theorem list_bad (l out : List Int) (h : ¬ okL l) (hl : l.length ≤ 100000) (ho : out.length + 10 * (l.length + 1) ≤ 100000000) : ∃ b', b'.length ≤ out.length + 10 * (l.length + 1) ∧ Ev (fun m => code_dw.list m l (out, 0)) (b', 13) := by
  have := enc_length (l.length : Int)
  obtain ⟨b', c1, c2⟩ := idxs_bad l (out ++ enc (l.length : Int)) h (by simp only [List.length_append]; omega)
  refine ⟨b', by simp only [List.length_append] at c1; omega, ?_⟩
  exact Ev.congr (fun m => code_dw.list.eq_1 ..) (LEv.pos ⟨by show out.length < _; omega, by omega⟩ (LEv.bd _ (bytes_ev _ (by omega) (by omega)) (LEv.pos (by omega) c2)))
theorem rlist_l0 (l : List Int) (hl : l.length ≤ 100000) : ∀ (rest pre acc : List Int), l = pre ++ rest → acc.length + 10 * rest.length ≤ 100000000 → ((okL rest → Ev (fun m => notaryref36_List.l0 m l acc (pre.length : Int)) (acc ++ fb rest, 0)) ∧ (¬ okL rest → Ev (fun m => notaryref36_List.l0 m l acc (pre.length : Int)) ([], 13))) := by
  intro rest
  induction rest with
  | nil => exact fun pre acc he ha => ⟨fun _ => Ev.step (fun m => notaryref36_List.l0.eq_2 ..) (LEv.neg (by rw [he]; simp) (LEv.fin (by simp [fb]))), fun h => absurd (fun n hn => by cases hn) h⟩
  | cons n rest ih =>
    intro pre acc he ha
    have e1 := enc_length n
    simp only [List.length_cons] at ha
    have hr : rd l (pre.length : Int) = n := by rw [he]; exact rdI _ _ _
    have hlt : (pre.length : Int) < (l.length : Int) := by rw [he]; exact lenlt' _ _ _
    have hup : wrap64 ((pre.length : Int) + 1) = ((pre ++ [n]).length : Int) := by rw [up1 _ (by rw [he] at hl; simp at hl; omega)]; simp
    by_cases hn : okI n
    · obtain ⟨i1, i2⟩ := ih (pre ++ [n]) (acc ++ enc n) (by rw [he]; simp) (by simp only [List.length_append]; omega)
      have hw : IntKind.u64.wrap n = n := by rw [u64w]; have := hn.1; have := hn.2; omega
      have st : ∀ r, Ev (fun m => notaryref36_List.l0 m l (acc ++ enc n) ((pre ++ [n]).length : Int)) r → Ev (fun m => notaryref36_List.l0 m l acc (pre.length : Int)) r := fun r k => by
        refine Ev.step (fun m => notaryref36_List.l0.eq_2 ..) (LEv.pos hlt (LEv.pos (by omega) (LEv.neg (by rw [hr]; have := hn.1; omega) (LEv.neg (by rw [hr]; have := hn.2; omega) ?_))))
        rw [hr, hw, hup]
        exact LEv.bd _ (rbytes_ev n hn.1 (by have := hn.2; omega)) (LEv.pos (by omega) k)
      refine ⟨fun h => ?_, fun h => st _ (i2 (fun g => h (fun x hx => by rcases List.mem_cons.1 hx with rfl | hx; exact hn; exact g x hx)))⟩
      rw [fb_cons, ← List.append_assoc]
      exact st _ (i1 h.tail)
    · refine ⟨fun h => absurd h.head hn, fun _ => ?_⟩
      refine Ev.step (fun m => notaryref36_List.l0.eq_2 ..) (LEv.pos hlt (LEv.pos (by omega) ?_))
      rw [hr]
      refine LEv.ite (fun _ => Ev.now _) (fun h1 => LEv.pos (by unfold okI at hn; omega) (Ev.now _))
where lenlt' (pre : List Int) (r : Int) (rest : List Int) : (pre.length : Int) < ((pre ++ r :: rest).length : Int) := by simp; omega
theorem rlist (l : List Int) (hl : l.length ≤ 100000) : (okL l → Ev (fun m => notaryref36_List.f m l) (lb l, 0)) ∧ (¬ okL l → Ev (fun m => notaryref36_List.f m l) ([], 13)) := by
  have e := enc_length (l.length : Int)
  have hw : IntKind.u64.wrap (l.length : Int) = (l.length : Int) := by rw [u64w]; omega
  obtain ⟨i1, i2⟩ := rlist_l0 l hl l [] (enc (l.length : Int)) rfl (by omega)
  have st : ∀ r, Ev (fun m => notaryref36_List.l0 m l (enc (l.length : Int)) 0) r → Ev (fun m => notaryref36_List.f m l) r := fun r k =>
    Ev.congr (fun m => (notaryref36_List.f.eq_1 ..).trans (by rw [hw])) (LEv.bd _ (rbytes_ev _ (by omega) (by omega)) k)
  exact ⟨fun h => st _ (i1 h), fun h => st _ (i2 h)⟩
/-- a list, read back -/
theorem rindex_ok (B pre : List Int) (n : Int) (rest : List Int) (h : okI n) (hB : B = pre ++ enc n ++ rest) (hb : Byt B) (hl : B.length ≤ 100000000000) : Ev (fun m => code_rr.index m B (pre.length : Int) 0) (n, ((pre.length + (enc n).length : Nat) : Int), 0) := by
  refine Ev.congr (fun m => code_rr.index.eq_1 ..) (LEv.bd _ (number_ok B pre n rest h.1 (by have := h.2; omega) hB hb hl) (LEv.fin ?_))
  rw [if_neg (by have := h.2; omega), w64 _ (by have := h.1; omega) (by have := h.2; omega)]
theorem loopI_ok (B : List Int) (hb : Byt B) (hl : B.length ≤ 100000000000) : ∀ (xs pre rest outs : List Int) (c : Nat), okL xs → B = pre ++ fb xs ++ rest → outs.length + xs.length ≤ 100000 → Ev (fun m => code_rr.loopI (fun p e => code_rr.index (m + c) B p e) m ((outs.length + xs.length : Nat) : Int) (pre.length : Int) 0 outs) (outs ++ xs, ((pre.length + (fb xs).length : Nat) : Int), 0)
  | [], pre, rest, outs, c, _, _, _ => Ev.step (fun m => code_rr.loopI.eq_2 ..) (LEv.neg (by simp) (LEv.fin (by simp [fb])))
  | n :: xs, pre, rest, outs, c, h, hB, ho => by
    simp only [List.length_cons] at ho
    rw [fb_cons] at hB
    have r1 := rindex_ok B pre n (fb xs ++ rest) h.head (by rw [hB]; simp) hb hl
    have r2 := loopI_ok B hb hl xs (pre ++ enc n) rest (outs ++ [n]) (c + 1) h.tail (by rw [hB]; simp) (by simp only [List.length_append, List.length_singleton]; omega)
    refine Ev.step (fun m => code_rr.loopI.eq_2 ..) (LEv.pos ⟨by simp only [List.length_cons]; omega, rfl⟩ (LEv.bd _ (Ev.congr (fun m => by rw [Nat.add_assoc]) (shift r1 (1 + c))) ?_))
    refine LEv.pos (by omega) ?_
    rw [show (outs ++ [n]).length + xs.length = outs.length + (n :: xs).length by simp; omega, show outs ++ [n] ++ xs = outs ++ n :: xs by simp, show (pre ++ enc n).length + (fb xs).length = pre.length + (fb (n :: xs)).length by rw [fb_cons]; simp; omega, show (pre ++ enc n).length = pre.length + (enc n).length by simp] at r2
    exact Ev.congr (fun m => by rw [Nat.add_assoc, Nat.add_comm 1 c]) r2
theorem rmany_ok (B pre l rest : List Int) (h : okL l) (h1 : l.length ≤ 100000) (hB : B = pre ++ lb l ++ rest) (hb : Byt B) (hl : B.length ≤ 100000000000) : Ev (fun m => code_rr.manyI (code_rr.index m B) m B (pre.length : Int) 0) (l, ((pre.length + (lb l).length : Nat) : Int), 0) := by
  have r1 := number_ok B pre (l.length : Int) (fb l ++ rest) (by omega) (by omega) (by rw [hB]; simp [lb]) hb hl
  have r2 := loopI_ok B hb hl l (pre ++ enc (l.length : Int)) rest [] 0 h (by rw [hB]; simp [lb]) (by simp; omega)
  refine Ev.congr (fun m => code_rr.manyI.eq_1 ..) (LEv.bd _ r1 ?_)
  rw [List.length_nil, Nat.zero_add, List.nil_append, show (pre ++ enc (l.length : Int)).length + (fb l).length = pre.length + (lb l).length by unfold lb; simp; omega, show (pre ++ enc (l.length : Int)).length = pre.length + (enc (l.length : Int)).length by simp] at r2
  exact r2
/-! ### Steps -/
def sw (s : S) : Nat := 21 + 10 * (s.f2.length + s.f3.length) + 21 * sz s.f4 + 20
def sb (s : S) : List Int := enc s.f0 ++ [if s.f1 = true then 1 else 0] ++ lb s.f2 ++ lb s.f3 ++ tb s.f4
structure TameS (s : S) : Prop where
  l2 : s.f2.length ≤ 100000
  l3 : s.f3.length ≤ 100000
  t : Tame 400 s.f4
  n : Num s.f4
  z : sz s.f4 ≤ 1000000
structure GoodS (s : S) : Prop where
  r : okI s.f0
  l2 : okL s.f2
  l3 : okL s.f3
  t : LCd.Good 1 s.f4
structure EncS (s : S) (b : List Int) (e : Int) : Prop where
  len : b.length ≤ sw s
  byt : Byt b
  sbx : e = 0 → b = sb s
  good : GoodS s → e = 0
  ref : Ev (fun m => notaryref36_Step.f m s.f0 s.f1 s.f2 s.f3 s.f4.f0 s.f4.f1 s.f4.f2 s.f4.f3 s.f4.f4 s.f4.f5) (if e = 0 then b else [], e)
  wr : ∀ out : List Int, out.length + sw s ≤ 100000000 → ∃ b', b'.length ≤ out.length + sw s ∧ Ev (fun m => code_dw.step m s (out, 0)) (b', e) ∧ (e = 0 → b' = out ++ b)
  rd : e = 0 → ∀ (B pre rest : List Int), B = pre ++ b ++ rest → Byt B → B.length ≤ 100000000000 → Ev (fun m => code_rs.step m B (pre.length : Int) 0) (s, ((pre.length + b.length : Nat) : Int), 0)
theorem etaT (x : T) : (⟨x.f0, x.f1, x.f2, x.f3, x.f4, x.f5⟩ : T) = x := by cases x; rfl
theorem rstep_in (s : S) {r : List Int × Int} (h : okI s.f0) (k : Ev (fun m => notaryref36_Step.j1 m (if s.f1 = true then 1 else 0) s.f0 s.f1 s.f2 s.f3 s.f4.f0 s.f4.f1 s.f4.f2 s.f4.f3 s.f4.f4 s.f4.f5) r) : Ev (fun m => notaryref36_Step.f m s.f0 s.f1 s.f2 s.f3 s.f4.f0 s.f4.f1 s.f4.f2 s.f4.f3 s.f4.f4 s.f4.f5) r := by
  refine Ev.congr (fun m => notaryref36_Step.f.eq_1 ..) (LEv.neg (by have := h.1; omega) (Ev.step (fun m => notaryref36_Step.j0.eq_2 ..) (LEv.neg (by have := h.2; simp; omega) ?_)))
  refine LEv.ite (fun hb => ?_) (fun hb => ?_)
  · rw [if_pos hb] at k; exact k
  · rw [if_neg hb] at k; exact k
theorem enc_step (s : S) (hT : TameS s) : ∃ b e, EncS s b e := by
  obtain ⟨l2, l3, ht, hn, hz⟩ := hT
  have e0 := enc_length s.f0
  have e2 := lb_length s.f2
  have e3 := lb_length s.f3
  obtain ⟨tb', te, hE⟩ := enc_term s.f4 400 1 ht hn hz (by omega) (by omega)
  have lt := hE.len
  by_cases h0 : okI s.f0
  case neg =>
    refine ⟨[], 13, by simp, Byt.nil, fun h => absurd h (by decide), fun g => absurd g.r h0, ?_, fun out ho => ⟨out ++ [if s.f1 = true then 1 else 0], by unfold sw; simp only [List.length_append, List.length_singleton]; omega, ?_, fun h => absurd h (by decide)⟩, fun h => absurd h (by decide)⟩
    · refine Ev.congr (fun m => notaryref36_Step.f.eq_1 ..) (LEv.ite (fun _ => Ev.step (fun m => notaryref36_Step.j0.eq_2 ..) (LEv.pos rfl (Ev.now _))) (fun h => Ev.step (fun m => notaryref36_Step.j0.eq_2 ..) (LEv.pos ?_ (Ev.now _))))
      unfold okI at h0
      exact decide_eq_true (by omega)
    · unfold sw at ho
      exact Ev.congr (fun m => code_dw.step.eq_1 ..) (LEv.bd _ (index_bad s.f0 h0 out (by omega)) (LEv.pos (by show out.length < _; omega) (LEv.pos ne13 (Ev.now _))))
  have b0 := bytes_ev s.f0 h0.1 (by have := h0.2; omega)
  have hw0 : IntKind.u64.wrap s.f0 = s.f0 := by rw [u64w]; have := h0.1; have := h0.2; omega
  -- what both do up to the lists
  have ps : ∀ (out : List Int) (r : List Int × Int), out.length + sw s ≤ 100000000 → Ev (fun m => (code_dw.list m s.f2 (out ++ enc s.f0 ++ [if s.f1 = true then 1 else 0], 0)).bind fun s3 => (if s3.2 = 0 then code_dw.list m s.f3 s3 else some s3).bind fun s4 => code_wr.term m s.f4 1 s4) r → Ev (fun m => code_dw.step m s (out, 0)) r := fun out r ho k => by
    unfold sw at ho
    exact Ev.congr (fun m => code_dw.step.eq_1 ..) (LEv.bd _ (index_ok s.f0 h0 out (by omega)) (LEv.pos (by show (out ++ enc s.f0).length < _; simp only [List.length_append]; omega) (LEv.neg (fun h => h rfl) k)))
  have rs : ∀ r : List Int × Int, Ev (fun m => (notaryref36_List.f m s.f2).bind fun bt236 => (if bt236.2 = 0 then ((notaryref36_List.f m s.f3).bind fun bt243 => (if bt243.2 = 0 then ((notaryref36_Term.f m s.f4.f0 s.f4.f1 s.f4.f2 s.f4.f3 s.f4.f4 s.f4.f5 1).bind fun bt247 => (if bt247.2 = 0 then (if (enc s.f0 ++ [if s.f1 = true then 1 else 0] : List Int).length + bt236.1.length < 140737488355328 then ((some ((enc s.f0 ++ [if s.f1 = true then 1 else 0]) ++ bt236.1 : List Int)).bind fun y251 => (if y251.length + bt243.1.length < 140737488355328 then ((some (y251 ++ bt243.1 : List Int)).bind fun y254 => (if y254.length + bt247.1.length < 140737488355328 then (some ((y254 ++ bt247.1), 0)) else (none))) else (none))) else (none)) else (some ((([] : List Int)), bt247.2)))) else (some ((([] : List Int)), bt243.2)))) else (some ((([] : List Int)), bt236.2)))) r → Ev (fun m => notaryref36_Step.f m s.f0 s.f1 s.f2 s.f3 s.f4.f0 s.f4.f1 s.f4.f2 s.f4.f3 s.f4.f4 s.f4.f5) r := fun r k => by
    refine rstep_in s h0 (Ev.step (fun m => notaryref36_Step.j1.eq_2 ..) ?_)
    rw [hw0]
    exact LEv.bd _ (rbytes_ev s.f0 h0.1 (by have := h0.2; omega)) (LEv.pos (by omega) (LEv.sb k))
  obtain ⟨q2, q2'⟩ := rlist s.f2 l2
  obtain ⟨q3, q3'⟩ := rlist s.f3 l3
  by_cases h2 : okL s.f2
  case neg =>
    refine ⟨[], 13, by simp, Byt.nil, fun h => absurd h (by decide), fun g => absurd g.l2 h2, ?_, fun out ho => ?_, fun h => absurd h (by decide)⟩
    · exact rs _ (LEv.bd _ (q2' h2) (LEv.neg (by decide) (LEv.fin rfl)))
    · have ho' := ho
      unfold sw at ho'
      obtain ⟨b', c1, c2⟩ := list_bad s.f2 (out ++ enc s.f0 ++ [if s.f1 = true then 1 else 0]) h2 l2 (by simp only [List.length_append, List.length_singleton]; omega)
      refine ⟨b', by simp only [List.length_append, List.length_singleton] at c1; unfold sw; omega, ?_, fun h => absurd h (by decide)⟩
      have hb' : b'.length < 1000000000 := by simp only [List.length_append, List.length_singleton] at c1; omega
      exact ps out _ ho (LEv.bd _ c2 (LEv.bd _ (LEv.neg ne13 (Ev.now _)) (wr_err s.f4 1 _ hb' (by have := ht.len; omega) (by omega) ne13)))
  by_cases h3 : okL s.f3
  case neg =>
    refine ⟨[], 13, by simp, Byt.nil, fun h => absurd h (by decide), fun g => absurd g.l3 h3, ?_, fun out ho => ?_, fun h => absurd h (by decide)⟩
    · exact rs _ (LEv.bd _ (q2 h2) (LEv.pos rfl (LEv.bd _ (q3' h3) (LEv.neg (by decide) (LEv.fin rfl)))))
    · have ho' := ho
      unfold sw at ho'
      obtain ⟨b', c1, c2⟩ := list_bad s.f3 (out ++ enc s.f0 ++ [if s.f1 = true then 1 else 0] ++ lb s.f2) h3 l3 (by simp only [List.length_append, List.length_singleton]; omega)
      refine ⟨b', by simp only [List.length_append, List.length_singleton] at c1; unfold sw; omega, ?_, fun h => absurd h (by decide)⟩
      have hb' : b'.length < 1000000000 := by simp only [List.length_append, List.length_singleton] at c1; omega
      exact ps out _ ho (LEv.bd _ (list_ok s.f2 _ h2 l2 (by simp only [List.length_append, List.length_singleton]; omega)) (LEv.bd _ (LEv.pos rfl c2) (wr_err s.f4 1 _ hb' (by have := ht.len; omega) (by omega) ne13)))
  obtain ⟨P, hP⟩ : ∃ P, P = enc s.f0 ++ [if s.f1 = true then 1 else 0] ++ lb s.f2 ++ lb s.f3 := ⟨_, rfl⟩
  have lP : P.length ≤ 31 + 10 * (s.f2.length + s.f3.length) := by rw [hP]; simp only [List.length_append, List.length_singleton]; omega
  have hbk : (0 : Int) ≤ (if s.f1 = true then 1 else 0) ∧ (if s.f1 = true then (1 : Int) else 0) < 256 := by cases s.f1 <;> decide
  refine ⟨P ++ tb', te, ?_, ?_, fun h => by rw [hE.tbx h, hP]; rfl, fun g => hE.good g.t, ?_, fun out ho => ?_, fun h B pre rest hB hb hl => ?_⟩
  · unfold sw; simp only [List.length_append]; omega
  · rw [hP]
    exact ((((enc_byt _ h0.1).append (Byt.nil.cons hbk.1 hbk.2)).append (lb_byt _ h2)).append (lb_byt _ h3)).append hE.byt
  · refine rs _ (LEv.bd _ (q2 h2) (LEv.pos rfl (LEv.bd _ (q3 h3) (LEv.pos rfl (LEv.bd _ hE.ref ?_)))))
    by_cases h : te = 0
    · subst h
      refine LEv.pos rfl (LEv.pos (by simp only [List.length_append, List.length_singleton]; omega) (LEv.sb (LEv.pos (by simp only [List.length_append, List.length_singleton]; omega) (LEv.sb (LEv.pos (by simp only [if_true, List.length_append, List.length_singleton]; omega) (LEv.fin ?_))))))
      simp [hP]
    · exact LEv.neg h (LEv.fin (by simp [h]))
  · have ho' := ho
    unfold sw at ho'
    obtain ⟨b', c1, c2, c3⟩ := hE.wr (out ++ P) (by simp only [List.length_append]; omega)
    refine ⟨b', by simp only [List.length_append] at c1; unfold sw; omega, ?_, fun h => by rw [c3 h]; simp⟩
    refine ps out _ ho (LEv.bd _ (list_ok s.f2 _ h2 l2 (by simp only [List.length_append, List.length_singleton]; omega)) (LEv.bd _ (LEv.pos rfl (list_ok s.f3 _ h3 l3 (by simp only [List.length_append, List.length_singleton]; omega))) ?_))
    rw [show out ++ enc s.f0 ++ [if s.f1 = true then 1 else 0] ++ lb s.f2 ++ lb s.f3 = out ++ P by rw [hP]; simp]
    exact c2
  · subst h
    have hlB : B.length = pre.length + (P.length + tb'.length) + rest.length := by rw [hB]; simp; omega
    have r0 := rindex_ok B pre s.f0 ([if s.f1 = true then 1 else 0] ++ lb s.f2 ++ lb s.f3 ++ tb' ++ rest) h0 (by rw [hB, hP]; simp) hb hl
    have hrd : rd B ((pre.length + (enc s.f0).length : Nat) : Int) = (if s.f1 = true then 1 else 0) := by
      have : B = (pre ++ enc s.f0) ++ (if s.f1 = true then 1 else 0) :: (lb s.f2 ++ lb s.f3 ++ tb' ++ rest) := by rw [hB, hP]; simp
      rw [this, ← List.length_append, rdI]
    have one : code_rd.one B ((pre.length + (enc s.f0).length : Nat) : Int) 0 = some (if s.f1 = true then 1 else 0, ((pre ++ enc s.f0 ++ [if s.f1 = true then (1 : Int) else 0]).length : Int), 0) := by
      unfold code_rd.one
      have : P.length ≥ (enc s.f0).length + 1 := by rw [hP]; simp only [List.length_append, List.length_singleton]; omega
      rw [if_pos rfl, if_neg (by omega), if_pos (by omega), hrd, w64 _ (by omega) (by omega)]
      simp
      omega
    have m2 := rmany_ok B (pre ++ enc s.f0 ++ [if s.f1 = true then 1 else 0]) s.f2 (lb s.f3 ++ tb' ++ rest) h2 l2 (by rw [hB, hP]; simp) hb hl
    have m3 := rmany_ok B (pre ++ enc s.f0 ++ [if s.f1 = true then 1 else 0] ++ lb s.f2) s.f3 (tb' ++ rest) h3 l3 (by rw [hB, hP]; simp) hb hl
    have m4 := (hE.rd rfl).2 B (pre ++ P) rest (by rw [hB]; simp) hb hl
    refine Ev.congr (fun m => code_rs.step.eq_1 ..) (LEv.pos (by omega) (LEv.bd _ r0 (LEv.eqb one ?_)))
    have hbk2 : code_rs.back (if s.f1 = true then 1 else 0) 0 = 0 := by
      unfold code_rs.back
      rw [if_neg]
      cases s.f1 <;> decide
    rw [hbk2]
    refine LEv.bd _ m2 (LEv.bd (s.f3, ((pre ++ P).length : Int), 0) ?_ (LEv.bd (s.f4, (((pre ++ P).length + tb'.length : Nat) : Int), 0) m4 (LEv.fin ?_)))
    · rw [show (pre ++ P).length = (pre ++ enc s.f0 ++ [if s.f1 = true then 1 else 0] ++ lb s.f2).length + (lb s.f3).length by rw [hP]; simp; omega, ← List.length_append]
      exact m3
    · have : ((if s.f1 = true then (1 : Int) else 0) == 1) = s.f1 := by cases s.f1 <;> rfl
      rw [this]
      simp only [List.length_append, Prod.mk.injEq, and_true]
      exact ⟨trivial, by omega⟩
end Go.Proofs.Ytiamcmjdoobaeaa.LDv
