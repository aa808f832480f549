/- The law DeclsPairs: its walk and what it comes to. -/
import Derived.Test.YtgjmidpoebnieaaLDecls2
import Derived.Test.YtgjmidpoebnieaaWTermOp
import Derived.Test.YtgjmidpoebnieaaPDmx2
import Derived.Test.YtgjmidpoebnieaaPDmx13
namespace Go.Proofs.Ytgjmidpoebnieaa.Walk
set_option linter.unusedVariables false
open Go.RowKit Go.Proofs.Ytgjmidpoebnieaa.PDm Go.Proofs.Ytgjmidpoebnieaa.SOpen Go.Proofs.YtgjmidpoebnieaaW.PrintWords Go.Proofs.YtgjmidpoebnieaaW.PrintLast Go.Proofs.YtgjmidpoebnieaaW.PrintMore
open LTerm (T Fine Small) 
open LDecls (prs less places pairs_own pairs_ref same_pairs awake_ev side_ref inv_own to_ref less_own less_ref less_len places_len prs_len rd_at)
theorem opInts : SOpen.Op Try.prog 25 (Kd.slice 3 (Kd.int .i64)) (fun l => l.length ≤ maxLen ∧ ∀ x ∈ l, (Lit.int .i64 x).wf = true) :=
  op_slice Try.underlying25 (by kernel_rfl) (op_int Try.underlying3)
theorem pairs_one (rule : Int) (l : List Int) (n : Nat) (hn : n ≤ 400) (hl : l.length ≤ 100) (h : (rule = 50 → LDecls.Order l n) ∧ (rule = 51 → l.length = 1)) :
    ∃ p : List LDecls.Pr, p.length ≤ 400 ∧ Ev (fun m => decls_Pairs.f m rule l (n : Int)) p ∧ Ev (fun m => notaryref32_Pairs.f m rule l (n : Int)) p := by
  by_cases h1 : rule = 50
  · obtain ⟨o, b, o1, o2, o3⟩ := inv_own l n hn (by omega)
    obtain ⟨q, c, q1, q2, q3⟩ := to_ref l n hn (by omega)
    have hb := o2.2 (h.1 h1)
    have hc := q2.2 (h.1 h1)
    obtain rfl := o3 hb
    obtain rfl := q3 hc
    have hlen := places_len l n
    refine ⟨prs (places l n) 0, by have := prs_len (places l n) 0; omega, Ev.congr (fun m => decls_Pairs.f.eq_1 ..) (LEv.pos h1 (LEv.bd _ o1 (pairs_own _ (by show (places l n).length ≤ 400; omega)))), Ev.congr (fun m => notaryref32_Pairs.f.eq_1 ..) (LEv.bd _ (less_ref (n : Int) n hn) (LEv.pos h1 (LEv.bd _ q1 ?_)))⟩
    exact Ev.step (fun m => notaryref32_Pairs.j0.eq_2 ..) (LEv.neg (by omega) (Ev.step (fun m => notaryref32_Pairs.j1.eq_2 ..) (LEv.neg (by decide) (pairs_ref _ (by show (places l n).length ≤ 400; omega)))))
  by_cases h2 : rule = 51
  · have hl1 := h.2 h2
    have hlen := less_len (rd l 0) n
    have hb : ((l.length : Int) == 1) = true := by simp [hl1]
    refine ⟨prs (less (rd l 0) n) 0, by have := prs_len (less (rd l 0) n) 0; omega, Ev.congr (fun m => decls_Pairs.f.eq_1 ..) (LEv.neg h1 (LEv.pos h2 ?_)), Ev.congr (fun m => notaryref32_Pairs.f.eq_1 ..) (LEv.bd _ (less_ref (n : Int) n hn) (LEv.neg h1 ?_))⟩
    · rw [hb]
      exact Ev.step (fun m => decls_Pairs.j0.eq_2 ..) (LEv.pos rfl (LEv.pos (by omega) (LEv.bd _ (less_own (rd l 0) n hn) (pairs_own _ (by omega)))))
    · refine Ev.step (fun m => notaryref32_Pairs.j0.eq_2 ..) (LEv.pos h2 ?_)
      rw [hb]
      exact Ev.step (fun m => notaryref32_Pairs.j1.eq_2 ..) (LEv.pos rfl (LEv.pos (by omega) (LEv.bd _ (less_ref (rd l 0) n hn) (pairs_ref _ (by omega)))))
  · have hlen := less_len (n : Int) n
    refine ⟨prs (less (n : Int) n) 0, by have := prs_len (less (n : Int) n) 0; omega, Ev.congr (fun m => decls_Pairs.f.eq_1 ..) (LEv.neg h1 (LEv.neg h2 ?_)), Ev.congr (fun m => notaryref32_Pairs.f.eq_1 ..) (LEv.bd _ (less_ref (n : Int) n hn) (LEv.neg h1 ?_))⟩
    · exact Ev.step (fun m => decls_Pairs.j0.eq_2 ..) (LEv.neg (by decide) (LEv.bd _ (less_own (n : Int) n hn) (pairs_own _ (by omega))))
    · exact Ev.step (fun m => notaryref32_Pairs.j0.eq_2 ..) (LEv.neg h2 (Ev.step (fun m => notaryref32_Pairs.j1.eq_2 ..) (LEv.neg (by decide) (pairs_ref _ (by omega)))))
theorem pairs_law (x : T) (hF : Fine x) (rule : Int) (l : List Int) : Ev (fun m => notarylaw32_DeclsPairs.f m x.f0 x.f1 x.f2 x.f3 x.f4 x.f5 rule l) true := by
  obtain ⟨b, b1, b2⟩ := LTerm.large_ev x hF
  have aw : Ev (fun m => notarylaw32_DeclsPairs.j0 m rule l true x.f0 x.f1 x.f2 x.f3 x.f4 x.f5) true := Ev.step (fun m => notarylaw32_DeclsPairs.j0.eq_2 ..) (LEv.pos rfl (LEv.bd true awake_ev (Ev.now _)))
  cases b with
  | true => exact Ev.congr (fun m => notarylaw32_DeclsPairs.f.eq_1 ..) (LEv.bd true b1 (LEv.pos rfl aw))
  | false =>
    have hS := (b2 rfl).1
    refine Ev.congr (fun m => notarylaw32_DeclsPairs.f.eq_1 ..) (LEv.bd false b1 (LEv.neg (by decide) ?_))
    by_cases hl : (l.length : Int) > 100
    · rw [decide_eq_true hl]
      exact aw
    · rw [decide_eq_false hl]
      have a2 : Ev (fun m => notarylaw32_DeclsPairs.j1 m rule l true x.f0 x.f1 x.f2 x.f3 x.f4 x.f5) true := Ev.step (fun m => notarylaw32_DeclsPairs.j1.eq_2 ..) (LEv.pos rfl (LEv.bd true awake_ev (Ev.now _)))
      obtain ⟨r, r1, r2⟩ := side_ref rule l x 69 hS (by omega)
      refine Ev.step (fun m => notarylaw32_DeclsPairs.j0.eq_2 ..) (LEv.neg (by decide) (LEv.bd r r1 ?_))
      have main : (rule = 50 → LDecls.Order l x.f3.length) ∧ (rule = 51 → l.length = 1) → Ev (fun m => notarylaw32_DeclsPairs.j1 m rule l false x.f0 x.f1 x.f2 x.f3 x.f4 x.f5) true := fun h => by
        obtain ⟨p, p0, p1, p2⟩ := pairs_one rule l x.f3.length hS.len (by omega) h
        exact Ev.step (fun m => notarylaw32_DeclsPairs.j1.eq_2 ..) (LEv.neg (by decide) (LEv.bd p p1 (LEv.bd p p2 (LEv.bd true (same_pairs p p0) (LEv.pos rfl (LEv.bd true awake_ev (Ev.now _)))))))
      by_cases hr : r.2.2.2.2.2.2 = true
      · exact LEv.pos hr (main (r2 hr))
      · refine LEv.neg hr ?_
        by_cases h1 : rule = 50
        · exact LEv.pos h1 a2
        · refine LEv.neg h1 ?_
          by_cases h2 : rule = 51
          · rw [show (rule == 51) = true by simpa using h2]
            exact a2
          · rw [show (rule == 51) = false by simpa using h2]
            exact main ⟨fun h => absurd h h1, fun h => absurd h h2⟩
theorem DeclsPairs (w : World) (cs0 : Array Value) (x0 : T) (hK0 : k24.K w x0 cs0.toList) (hw0 : Ok x0) (a1 : Int) (h1 : (Lit.int .i64 a1).wf = true)
    (A2 : Option Addr) (c2 : Nat) (l2 : List Int) (hc2 : l2.length ≤ c2) (hC2 : Kd.C (Kd.int .i64) w A2 l2.length l2) (hw2 : l2.length ≤ maxLen ∧ ∀ x ∈ l2, (Lit.int .i64 x).wf = true) :
    Calls Try.prog 4 #[.agg cs0, .int .i64 a1, .slice A2 l2.length c2] w fun e w' => e = .returned (.bool true) ∧ Below w.heap.size w w' := by
  obtain ⟨A0, c0, e0, hc0, hC0⟩ := k24_open hK0
  obtain rfl : cs0 = #[.int .i64 x0.f0, .int .i64 x0.f1, .string x0.f2, .slice A0 x0.f3.length c0, .int .i64 x0.f4, .int .i64 x0.f5] := by rw [← e0]
  obtain ⟨m, hm⟩ := pairs_law x0 hw0.fine a1 l2
  exact notarylaw32_DeclsPairs.calls m x0.f0 x0.f1 x0.f2 A0 c0 x0.f3 x0.f4 x0.f5 a1 A2 c2 l2 true w hC0 hc0 hC2 hc2 (hm m (Nat.le_refl _))
end Go.Proofs.Ytgjmidpoebnieaa.Walk
