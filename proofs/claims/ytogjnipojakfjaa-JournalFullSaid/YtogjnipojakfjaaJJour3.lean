/- The journal: what its functions do to it. -/
import Derived.Test.YtogjnipojakfjaaJJour2
import Derived.Test.YtogjnipojakfjaaPJnx3
import Derived.Test.YtogjnipojakfjaaPJnx4
import Derived.Test.YtogjnipojakfjaaPJnx5
namespace Go.Proofs.Ytogjnipojakfjaa.JJour
open Go.RowKit Go.Proofs.Ytogjnipojakfjaa.PJn Go.Proofs.YtogjnipojakfjaaW.PrintWords Go.Proofs.YtogjnipojakfjaaW.PrintLast Go.Proofs.YtogjnipojakfjaaW.PrintMore
open LSame (Byt)
open LChain (msgS tagS zeroT)
open DDev (Dev dev_below dev_kept dev_drewN dev_mono T8 TD heldN)
set_option linter.unusedVariables false
set_option linter.unusedSimpArgs false
/-- the device that a journal writes to: its row, and how the journal stands when the device has changed -/
theorem jn_dev {W : World} {B gj gd : Nat} {O : Nat → Prop} {s : St} (h : Jn W B gj gd O s) : ∃ vb, Dev W B gd (fun k => some k = vb.ownBlock) s.room s.sure s.bs vb ∧ (∀ k, (k = gd ∨ some k = vb.ownBlock) → O k) ∧
    ∀ (W3 : World), Below W.heap.size W W3 → ∀ (W' : World) (vb' : Value) (bs' : List Int) (sure' : Int) (OD : Nat → Prop), Dev W' B gd OD s.room sure' bs' vb' → Kept W3 W' (fun k => k = gd ∨ some k = vb.ownBlock) → (∀ k, vb'.ownBlock = some k → some k = vb.ownBlock ∨ W3.heap.size ≤ k) →
      ∃ O', Jn W' B gj gd O' { s with sure := sure', bs := bs' } ∧ ∀ q, q < W3.heap.size → O' q → O q := by
  obtain ⟨vb, vl, At, ct, Ak, ck, h1, h2, h3, h4, ⟨h5, h6⟩, ⟨h7, h8⟩, h9⟩ := h
  refine ⟨vb, h2, fun k hk => (h9 k).2 (hk.elim (fun h => .inr (.inl h)) (fun h => .inr (.inr (.inl h)))), ?_⟩
  intro W3 hb3 W' vb' bs' sure' OD hd hk ho
  replace h1 := blk_below h1 hb3
  replace h2 := dev_below h2 hb3
  replace h4 := Kd.N_below h4 hb3
  replace h6 := Kd.F_below h6 hb3
  replace h8 := Kd.F_below h8 hb3
  have hgjd : gj ≠ gd := blk_ne h1 h2.1 (by decide)
  have hgjb : some gj ≠ vb.ownBlock := Kd.R_ne h2.2.2.2 h1 (by decide)
  have hvl : ∀ k, vl.ownBlock = some k → B ≤ k ∧ k ≠ gj ∧ k ≠ gd ∧ some k ≠ vb.ownBlock := h4.1
  have hS : ∀ q, (q = gd ∨ some q = vb.ownBlock) → O q := fun q h => (h9 q).2 (h.elim (fun h => .inr (.inl h)) (fun h => .inr (.inr (.inl h))))
  have hOO : ∀ q, q < W3.heap.size → (q = gj ∨ q = gd ∨ some q = vb'.ownBlock ∨ some q = vl.ownBlock) → O q := fun q hq h => by
    rcases h with h | h | h | h
    · exact (h9 q).2 (.inl h)
    · exact (h9 q).2 (.inr (.inl h))
    · rcases ho q h.symm with h | h
      · exact (h9 q).2 (.inr (.inr (.inl h)))
      · omega
    · exact (h9 q).2 (.inr (.inr (.inr h)))
  have hF : ∀ (A : Option Addr) (x : List Int), Kd.F (Kd.int .u8) W3 (fun q => ¬ O q) A x.length x → Kd.F (Kd.int .u8) W' (fun q => ¬ (q = gj ∨ q = gd ∨ some q = vb'.ownBlock ∨ some q = vl.ownBlock)) A x.length x := fun A x hx =>
    Kd.F_mono (Kd.F_kept (Kd.F_bound hx) hk (fun q hq h => hq.1 (hS q h))) (fun q hq h => hq.1 (hOO q hq.2 h))
  refine ⟨fun q => q = gj ∨ q = gd ∨ some q = vb'.ownBlock ∨ some q = vl.ownBlock, ⟨vb', vl, At, ct, Ak, ck, ?_, dev_tight hd, h3, ?_, ⟨h5, hF _ _ h6⟩, ⟨h7, hF _ _ h8⟩, fun q => Iff.rfl⟩, hOO⟩
  · exact blk_kept h1 hk (fun h => h.elim (fun h => hgjd h) (fun h => hgjb h))
  · refine Kd.N_mono (Kd.N_kept (Kd.N_bound h4) hk (fun q hq h => h.elim (fun h => hq.1.2.2.1 h) (fun h => hq.1.2.2.2 h))) (fun q hq => ⟨hq.1.1, hq.1.2.1, hq.1.2.2.1, fun he => ?_⟩)
    rcases ho q he.symm with h | h
    · exact hq.1.2.2.2 h
    · have := hq.2; omega
/-- what a journal's block says -/
theorem jn_blk {W : World} {B gj gd : Nat} {O : Nat → Prop} {s : St} (h : Jn W B gj gd O s) : ∃ vl At ct Ak ck, W.heap[gj]? = some (.cells #[.int .i64 (s.n : Int), .slice At s.tag.length ct, .slice Ak s.key.length ck, .pointer (some ⟨gd, 0, none⟩), vl] TJ (0, 0)) ∧
    s.tag.length ≤ ct ∧ Kd.C (Kd.int .u8) W At s.tag.length s.tag ∧ s.key.length ≤ ck ∧ Kd.C (Kd.int .u8) W Ak s.key.length s.key ∧ ∃ A c, vl = .slice A s.L.length c ∧ s.L.length ≤ c ∧ Kd.C kE W A s.L.length s.L := by
  obtain ⟨vb, vl, At, ct, Ak, ck, h1, h2, h3, h4, ⟨h5, h6⟩, ⟨h7, h8⟩, h9⟩ := h
  exact ⟨vl, At, ct, Ak, ck, h1, h5, Kd.F_now h6, h7, Kd.F_now h8, Kd.N_reads h4⟩
/-- bounds of what a journal holds -/
structure Good (s : St) : Prop where
  r0 : 0 ≤ s.room
  r1 : s.room ≤ 65536
  b0 : (s.bs.length : Int) ≤ s.room
  s0 : 0 ≤ s.sure
  s1 : s.sure ≤ s.bs.length
  bb : Byt s.bs
  tl : s.tag.length = 32
  tb : Byt s.tag
  kl : s.key.length ≤ 1000
  kb : Byt s.key
  nl : s.n = s.L.length
  nb : 36 * s.n ≤ s.bs.length
  le : ∀ e ∈ s.L, Byt e.f1 ∧ e.f1.length ≤ 1024
/-- an entry more, or why not -/
noncomputable def appS (s : St) (e : Ent) : Int × St :=
  open Classical in
  if (msgS s.tag ((s.n : Int) + 1) e.f0 e.f1).2 = 0 then
    (if s.room - s.bs.length < (LEnt.frS e.f0 e.f1 (tagS s.key (msgS s.tag ((s.n : Int) + 1) e.f0 e.f1).1)).1.length then (28, s)
     else (0, { s with n := s.n + 1, tag := tagS s.key (msgS s.tag ((s.n : Int) + 1) e.f0 e.f1).1, L := s.L ++ [e], bs := s.bs ++ (LEnt.frS e.f0 e.f1 (tagS s.key (msgS s.tag ((s.n : Int) + 1) e.f0 e.f1).1)).1 }))
  else ((msgS s.tag ((s.n : Int) + 1) e.f0 e.f1).2, s)
theorem frS_fine (e : Ent) (t : List Int) (heb : Byt e.f1) (ht : t.length = 32) (htb : Byt t) (h : 1 ≤ e.f0 ∧ e.f0 ≤ 3 ∧ e.f1.length ≤ 1024) : (LEnt.frS e.f0 e.f1 t).2 = 0 ∧ (LEnt.frS e.f0 e.f1 t).1.length = e.f1.length + 37 ∧ Byt (LEnt.frS e.f0 e.f1 t).1 := by
  have hf := LEnt.frS_mk e.f0 e.f1 t h.1 h.2.1 h.2.2 ht
  rw [hf]
  refine ⟨rfl, ?_, ?_⟩
  · have h5 : (entry_length.bytes ((e.f1.length + 1 : Nat) : Int)).length = 4 := rfl
    simp only [List.length_append, List.length_cons, h5]
    omega
  · refine (Byt.append ?_ (Byt.cons (by omega) (by omega) heb)).append htb
    have := h.2.2
    unfold entry_length.bytes
    exact Byt.cons (by omega) (by omega) (Byt.cons (by omega) (by omega) (Byt.cons (by omega) (by omega) (Byt.cons (by omega) (by omega) Byt.nil)))
theorem appS_good (s : St) (e : Ent) (h : Good s) (heb : Byt e.f1) : Good (appS s e).2 := by
  unfold appS
  split
  · rename_i h0
    obtain ⟨mb, ml⟩ := msg_fine s.tag ((s.n : Int) + 1) e.f0 e.f1 h.tb heb h0
    obtain ⟨tl, tb, _, _⟩ := LChain.tagS_spec s.key _ h.kb h.kl mb (by omega)
    obtain ⟨_, e1, e2, e3⟩ := msg_inv _ _ _ _ h0
    obtain ⟨_, fl, fb⟩ := frS_fine e _ heb tl tb ⟨e1, e2, e3⟩
    split
    · exact h
    · rename_i h1
      refine ⟨h.r0, h.r1, ?_, h.s0, ?_, h.bb.append fb, tl, tb, h.kl, h.kb, ?_, ?_, ?_⟩
      · simp only [List.length_append]; omega
      · have := h.s1
        simp only [List.length_append]; omega
      · simp [h.nl]
      · have := h.nb
        simp only [List.length_append]; omega
      · intro x hx
        rcases List.mem_append.1 hx with hx | hx
        · exact h.le x hx
        · rw [List.mem_singleton.1 hx]; exact ⟨heb, e3⟩
  · exact h
end Go.Proofs.Ytogjnipojakfjaa.JJour
