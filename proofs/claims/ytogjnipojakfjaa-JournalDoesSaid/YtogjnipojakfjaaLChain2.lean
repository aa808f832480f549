/- Logs, plainly: the entries of a log, by the program and by the reference. -/
import Derived.Test.YtogjnipojakfjaaLChain
import Derived.Test.YtogjnipojakfjaaPJdx3
import Derived.Test.YtogjnipojakfjaaPJdx8
import Derived.Test.YtogjnipojakfjaaPJdx10
import Derived.Test.YtogjnipojakfjaaPJdx11
namespace Go.Proofs.Ytogjnipojakfjaa.LChain
open Go.RowKit Go.Proofs.Ytogjnipojakfjaa.PJd Go.Proofs.YtogjnipojakfjaaW.PrintWords Go.Proofs.YtogjnipojakfjaaW.PrintLast Go.Proofs.YtogjnipojakfjaaW.PrintMore
open LSame (Byt)
set_option linter.unusedVariables false
set_option linter.unusedSimpArgs false
def lastT : List Int → List Fr → List Int
  | a, [] => a
  | _, f :: F => lastT f.2 F
theorem msgS_byt (ahead : List Int) (n : Int) (f : Fr) (hf : FrOk f) (ha : Byt ahead) (hal : ahead.length = 32) : Byt (msgS ahead n f.1.f0 f.1.f1).1 ∧ (msgS ahead n f.1.f0 f.1.f1).1.length ≤ 2000 ∧ (msgS ahead n f.1.f0 f.1.f1).2 = 0 := by
  rw [msgS_ok ahead n _ _ hal hf.k1 hf.k2 hf.b]
  have h1 := hf.k1
  have h2 := hf.k2
  have h3 := hf.b
  have h8 : (LTail.be8 n).length = 8 := rfl
  exact ⟨(ha.append (LTail.be8_byt n)).append (Byt.cons (by omega) (by omega) hf.bb), by simp only [List.length_append, List.length_cons, h8]; omega, rfl⟩
def zeroT : List Int := List.replicate 32 0
theorem zeroT_byt : Byt zeroT := Byt.zeros _
theorem zeroT_len : zeroT.length = 32 := List.length_replicate ..
theorem first_ok : chain_First.f = some zeroT := rfl
theorem rfirst_ok : notaryref47_First.f = some zeroT := rfl
theorem next_ev (key ahead : List Int) (n : Int) (f : Fr) (hf : FrOk f) (hk : Byt key) (hkl : key.length ≤ 1000) (ha : Byt ahead) (hal : ahead.length = 32) (h0 : 0 ≤ n) (h1 : n < 1000000000) : Ev (fun m => notaryref47_Next.f m key ahead n f.1.f0 f.1.f1) (tagS key (msgS ahead n f.1.f0 f.1.f1).1) := by
  obtain ⟨mb, ml, _⟩ := msgS_byt ahead n f hf ha hal
  refine Ev.congr (fun m => notaryref47_Next.f.eq_1 ..) (LEv.arg (b := n) (g := fun m x => (notaryref47_Message.f m ahead x f.1.f0 f.1.f1).bind _) (by rw [LSame.u64w]; omega) (LEv.bd _ (rmessage_ev ahead n h0 (by omega) f.1.f0 f.1.f1) (LEv.bd _ (tagS_spec key _ hk hkl mb (by omega)).2.2.2 (Ev.now _))))
theorem esame (e : S35) (h : e.f1.length ≤ 1024) : Ev (fun m => notaryref46_Same.f m e.f0 e.f1 e.f0 e.f1) true :=
  Ev.congr (fun m => notaryref46_Same.f.eq_1 ..) (LEv.pos rfl (LEv.bd _ (LSame.same_self _ (by omega)) (Ev.now _)))
theorem rd_suf (pre : List S35) (e : S35) (L : List S35) : rd_T35 (pre ++ e :: L) (pre.length : Int) = e := by
  unfold rd_T35
  rw [Int.toNat_natCast, List.getD_eq_getElem?_getD, List.getElem?_append_right (Nat.le_refl _)]
  simp
theorem alike_l0 : ∀ (L pre : List S35), (∀ e ∈ L, e.f1.length ≤ 1024) → (pre ++ L).length ≤ 1000000 → Ev (fun m => notaryref46_Alike.l0 m (pre ++ L) (pre ++ L) (pre.length : Int)) true
  | [], pre => fun h hl => Ev.step (fun m => notaryref46_Alike.l0.eq_2 ..) (LEv.neg (by simp) (Ev.now _))
  | e :: L, pre => fun h hl => by
    have e1 := rd_suf pre e L
    have ih := alike_l0 L (pre ++ [e]) (fun x hx => h x (List.mem_cons_of_mem _ hx)) (by simpa using hl)
    rw [show (pre ++ [e]) ++ L = pre ++ e :: L by simp, show (pre ++ [e]).length = pre.length + 1 by simp] at ih
    have hx : ((pre.length : Nat) : Int) < ((pre ++ e :: L).length : Int) := by simp; omega
    rw [List.length_append] at hl
    have hw : wrap64 ((pre.length : Int) + 1) = ((pre.length + 1 : Nat) : Int) := by rw [LEv.w64 _ (by omega) (by omega)]; omega
    refine Ev.step (fun m => notaryref46_Alike.l0.eq_2 ..) (LEv.pos hx (LEv.pos (by omega) (LEv.pos hx ?_)))
    rw [e1, hw]
    exact LEv.bd _ (esame e (h e List.mem_cons_self)) (LEv.pos rfl ih)
theorem alike_self (L : List S35) (h : ∀ e ∈ L, e.f1.length ≤ 1024) (hl : L.length ≤ 1000000) : Ev (fun m => notaryref46_Alike.f m L L) true :=
  Ev.congr (fun m => notaryref46_Alike.f.eq_1 ..) (LEv.pos rfl (alike_l0 L [] h hl))
end Go.Proofs.Ytogjnipojakfjaa.LChain
