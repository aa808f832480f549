-- PRINTED by print.py (a twelfth state) out of the translation. Not trusted: Lean checks it.
import Derived.Test.YtnkkgeglnmggpaaPCpx0
import Derived.Test.YtnkkgeglnmggpaaPCpx3
import Derived.Test.YtnkkgeglnmggpaaPCpx4
namespace Go.Proofs.Ytnkkgeglnmggpaa.PCp
open Go.RowKit Go.Proofs.YtnkkgeglnmggpaaW.PrintWords Go.Proofs.YtnkkgeglnmggpaaW.PrintLast Go.Proofs.YtnkkgeglnmggpaaW.PrintMore
attribute [local go_sem] max2_int min2_int max_two min_two max_three min_three max_four min_four   -- for this text's walks alone
set_option linter.unusedVariables false
set_option linter.unusedSimpArgs false

/-! ### chain_Entries: function 8 (given) -/
def chain_Entries.see (key : List Int) (k : Nat) (s : List S42 × List Int) (kd : Int) (b m t : List Int) : Option ((List S42 × List Int) × Int) :=
  (hmac_Tag.f k key m).bind fun g => (hmac_Same.f k g t).bind fun c => if c = true then (if s.1.length < 4398046511104 then some ((s.1 ++ [⟨kd, b⟩], t), 0) else none) else some (s, 29)
def chain_Entries.f (k : Nat) (key log : List Int) : Option (List S42 × List Int × Int) :=
  (chain_First.f).bind fun t => (chain_along.f (chain_Entries.see key) k log ([], t)).bind fun y => if y.2 = 0 then some (y.1.1, y.1.2, 0) else some ([], [], y.2)
theorem chain_Entries.see_mono (key : List Int) (k : Nat) (s : List S42 × List Int) (kd : Int) (b m t : List Int) : LeO (chain_Entries.see key k s kd b m t) (chain_Entries.see key (k + 1) s kd b m t) :=
  LeO.bind (hmac_Tag.mono _ _ _) fun g => LeO.bind (hmac_Same.mono _ _ _) fun c => LeO.refl _
theorem chain_Entries.mono (a0 a1 : List Int) (k : Nat) : LeO (chain_Entries.f k a0 a1) (chain_Entries.f (k + 1) a0 a1) :=
  LeO.bind (LeO.refl _) fun t => LeO.bind (chain_along.mono _ (chain_Entries.see_mono a0) _ _ _) fun y => LeO.refl _
/-- the variables that the closure holds: the key, what was read, the last tag -/
def chain_Entries.I (B g2 g7 g8 : Nat) (Ak : Option Addr) (ck : Nat) (key : List Int) (W : World) (s : List S42 × List Int) (O : Nat → Prop) : Prop :=
  ∃ vo vl, W.heap[g2]? = some (.cells #[.slice Ak key.length ck] 22 (0, 0)) ∧ W.heap[g7]? = some (.cells #[vo] 24 (0, 0)) ∧ W.heap[g8]? = some (.cells #[vl] 22 (0, 0)) ∧
    Kd.N k42 42 W B (fun q => B ≤ q ∧ q ≠ g7 ∧ q ≠ g8) vo s.1 ∧ Kd.V (Kd.int .u8) 5 W B (fun q => B ≤ q ∧ q ≠ g7 ∧ q ≠ g8 ∧ some q ≠ vo.ownBlock) vl s.2 ∧ Kd.F (Kd.int .u8) W (fun q => q < B) Ak key.length key ∧ ∀ q, O q ↔ q = g7 ∨ q = g8 ∨ some q = vo.ownBlock
theorem chain_Entries.I_below {B g2 g7 g8 : Nat} {Ak : Option Addr} {ck : Nat} {key : List Int} (W W' : World) (s : List S42 × List Int) (O : Nat → Prop) (h : chain_Entries.I B g2 g7 g8 Ak ck key W s O) (hb : Below W.heap.size W W') : chain_Entries.I B g2 g7 g8 Ak ck key W' s O := by
  obtain ⟨vo, vl, h2, h7, h8, hN, hV, hK, hO⟩ := h
  exact ⟨vo, vl, blk_below h2 hb, blk_below h7 hb, blk_below h8 hb, Kd.N_below hN hb, Kd.V_below hV hb, Kd.F_below hK hb, hO⟩
theorem chain_Entries.I_own {B g2 g7 g8 : Nat} {Ak : Option Addr} {ck : Nat} {key : List Int} (h7B : B ≤ g7) (h8B : B ≤ g8) (W : World) (s : List S42 × List Int) (O : Nat → Prop) (h : chain_Entries.I B g2 g7 g8 Ak ck key W s O) : ∀ q, O q → B ≤ q ∧ q < W.heap.size := by
  obtain ⟨vo, vl, h2, h7, h8, hN, hV, hK, hO⟩ := h
  intro q hq
  rcases (hO q).1 hq with rfl | rfl | he
  · exact ⟨h7B, blk_lt h7⟩
  · exact ⟨h8B, blk_lt h8⟩
  · exact ⟨Kd.N_base hN q he.symm, Kd.N_lt hN q he.symm⟩
set_option maxHeartbeats 16000000 in
set_option maxRecDepth 100000 in
theorem chain_Entries1.calls (B g2 g7 g8 : Nat) (Ak : Option Addr) (ck : Nat) (key : List Int) (hck : key.length ≤ ck) (h72 : g2 < g7) (h78 : g7 < g8) (hB7 : B ≤ g2)
    (k : Nat) (s : List S42 × List Int) (kd : Int) (b m t : List Int) (r : (List S42 × List Int) × Int) (W : World) (O : Nat → Prop) (Ab : Option Addr) (cb : Nat) (Am : Option Addr) (cm : Nat) (At : Option Addr) (ct : Nat) (hi : chain_Entries.I B g2 g7 g8 Ak ck key W s O) (hlb : b.length ≤ cb) (hlm : m.length ≤ cm) (hlt : t.length ≤ ct)
    (hDW : B ≤ W.heap.size) (hb : chain_along.Off W B O Ab b) (hm : chain_along.Off W B O Am m) (ht : chain_along.Off W B O At t) (h : chain_Entries.see key k s kd b m t = some r) :
    Calls Try.prog 26 (#[.agg #[.int .i64 kd, .slice Ab b.length cb, .slice Am m.length cm, .slice At t.length ct]] ++ #[.pointer (some ⟨g2, 0, none⟩), .pointer (some ⟨g7, 0, none⟩), .pointer (some ⟨g8, 0, none⟩)]) W (chain_along.Post B (chain_Entries.I B g2 g7 g8 Ak ck key) W O r) := by
  have hu := Try.underlying42
  have hu2 := Try.underlying49
  obtain ⟨vo, vl, h2, h7, h8, hN, hV, hK, hO⟩ := hi
  unfold chain_Entries.see at h
  obtain ⟨g, hg, h⟩ := Option.bind_eq_some_iff.mp h
  obtain ⟨c, hc, h⟩ := Option.bind_eq_some_iff.mp h
  have z2 : (W.alloc (.cells #[.int .i64 kd, .slice Ab b.length cb, .slice Am m.length cm, .slice At t.length ct] 49)).cell? ⟨g2, 0, none⟩ = some (.slice Ak key.length ck) := (blk_cell (blk_alloc h2 _) 0).trans rfl
  have hl2 := blk_lt h2
  have hl7 := blk_lt h7
  have hl8 := blk_lt h8
  have HCK := Aside0.mk hck
  have HLB := Aside0.mk hlb
  have HLM := Aside0.mk hlm
  have HLT := Aside0.mk hlt
  have HOB := Aside0.mk hb
  have HOM := Aside0.mk hm
  have HOT := Aside0.mk ht
  have HH2 := Aside0.mk h2
  have HH7 := Aside0.mk h7
  have HH8 := Aside0.mk h8
  have HN := Aside0.mk hN
  have HV := Aside0.mk hV
  have HKY := Aside0.mk hK
  have HOO := Aside0.mk hO
  have HG := Aside0.mk hg
  have HC := Aside0.mk hc
  have H := Aside0.mk h
  have L78 := Aside0.mk (And.intro h72 (And.intro h78 hB7))
  have LL := Aside0.mk (And.intro hl2 (And.intro hl7 hl8))
  clear hck hlb hlm hlt hb hm ht h2 h7 h8 hN hV hK hO hg hc h h72 h78 hB7 hl2 hl7 hl8
  have zm : (W.alloc (.cells #[.int .i64 kd, .slice Ab b.length cb, .slice Am m.length cm, .slice At t.length ct] 49)).cell? ⟨W.heap.size, 2, none⟩ = some (.slice Am m.length cm) := (blk_cell (blk_new _ _) 2).trans rfl
  have zt : (W.alloc (.cells #[.int .i64 kd, .slice Ab b.length cb, .slice Am m.length cm, .slice At t.length ct] 49)).cell? ⟨W.heap.size, 3, none⟩ = some (.slice At t.length ct) := (blk_cell (blk_new _ _) 3).trans rfl
  have HX : Aside0 ((W.alloc (.cells #[.int .i64 kd, .slice Ab b.length cb, .slice Am m.length cm, .slice At t.length ct] 49)).heap[W.heap.size]? = some (.cells #[.int .i64 kd, .slice Ab b.length cb, .slice Am m.length cm, .slice At t.length ct] 49 (0, 0))) := ⟨blk_new _ _⟩
  simp only [List.append_toArray]
  cases c with
  | false =>
    obtain rfl := Option.some.inj ((if_neg (by decide)).symm.trans H.out)
    clear H h
    go_enter Try.func26, Try.ntmps26
    go_wp2
    go_region_held3 (fun w' => w'.cell? ⟨g2, 0, none⟩ = some (.slice Ak key.length ck) ∧ w'.cell? ⟨W.heap.size, 2, none⟩ = some (.slice Am m.length cm) ∧ w'.cell? ⟨W.heap.size, 3, none⟩ = some (.slice At t.length ct)) (first | exact ⟨z2, zm, zt⟩ | exact ⟨pw_cell_below HB5.out z2, pw_cell_below HB5.out zm, pw_cell_below HB5.out zt⟩ | go_keep) (first | (go_at_call 16; (with_reducible refine (hmac_Tag.calls k Ak ck key Am cm m g _ (Kd.C_below (Kd.F_now HKY.out) (by repeat (first | exact Below.refl _ _ | apply below_alloc | apply below_drew))) HCK.out (Kd.C_below (Kd.F_now HOM.out) (by repeat (first | exact Below.refl _ _ | apply below_alloc | apply below_drew))) HLM.out HG.out).mono ?_); rintro e w5 ⟨v5, rfl, ho5, hb5⟩; (obtain ⟨A5, c5, rfl⟩ := Kd.R_slice ho5); (have hb5' : Below (W.alloc (.cells #[.int .i64 kd, .slice Ab b.length cb, .slice Am m.length cm, .slice At t.length ct] 49)).heap.size (W.alloc (.cells #[.int .i64 kd, .slice Ab b.length cb, .slice Am m.length cm, .slice At t.length ct] 49)) w5 := below_step (by repeat (first | exact Below.refl _ _ | apply below_drew)) hb5); (have HB5 := Aside0.mk hb5'); (have HO5 := Aside0.mk ho5); clear ho5 hb5 hb5') | (go_at_call 27; (with_reducible refine (hmac_Same.calls k A5 c5 g At ct t _ _ (Kd.C_below (Kd.R_reads' HO5.out).2.2 (by repeat (first | exact Below.refl _ _ | apply below_alloc | apply below_drew))) (Kd.R_reads' HO5.out).2.1 (Kd.C_below (Kd.F_now HOT.out) (by first | exact below_step (below_alloc (Below.refl _ _) _) HB5.out | exact below_drew (below_step (below_alloc (Below.refl _ _) _) HB5.out))) HLT.out HC.out).mono ?_); rintro e w6 ⟨rfl, ⟨nd, rfl⟩⟩))
    go_wp2
    go_ret
    have HB6 : Below W.heap.size W (w5.drewN nd) := pw_below_drewN (below_step (below_alloc (Below.refl _ _) _) HB5.out) nd
    exact ⟨O, rfl, chain_Entries.I_below _ _ _ _ ⟨vo, vl, HH2.out, HH7.out, HH8.out, HN.out, HV.out, HKY.out, HOO.out⟩ HB6, Kept.of_below HB6 _, HB6.mono (by have h1 := LL.out; have h3 := L78.out; omega), fun _ _ h => h⟩
  | true =>
    have h' : (if s.1.length < 4398046511104 then some (((s.1 ++ [⟨kd, b⟩], t), 0) : (List S42 × List Int) × Int) else none) = some r := (if_pos rfl).symm.trans H.out
    by_cases hlen : s.1.length < 4398046511104
    case neg => rw [if_neg hlen] at h'; exact absurd h' (by simp)
    rw [if_pos hlen] at h'
    obtain rfl := Option.some.inj h'
    have HLEN := Aside0.mk hlen
    clear H h h' hlen
    go_enter Try.func26, Try.ntmps26
    go_wp2
    go_region_held3 (fun w' => w'.cell? ⟨g2, 0, none⟩ = some (.slice Ak key.length ck) ∧ w'.cell? ⟨W.heap.size, 2, none⟩ = some (.slice Am m.length cm) ∧ w'.cell? ⟨W.heap.size, 3, none⟩ = some (.slice At t.length ct)) (first | exact ⟨z2, zm, zt⟩ | exact ⟨pw_cell_below HB5.out z2, pw_cell_below HB5.out zm, pw_cell_below HB5.out zt⟩ | go_keep) (first | (go_at_call 16; (with_reducible refine (hmac_Tag.calls k Ak ck key Am cm m g _ (Kd.C_below (Kd.F_now HKY.out) (by repeat (first | exact Below.refl _ _ | apply below_alloc | apply below_drew))) HCK.out (Kd.C_below (Kd.F_now HOM.out) (by repeat (first | exact Below.refl _ _ | apply below_alloc | apply below_drew))) HLM.out HG.out).mono ?_); rintro e w5 ⟨v5, rfl, ho5, hb5⟩; (obtain ⟨A5, c5, rfl⟩ := Kd.R_slice ho5); (have hb5' : Below (W.alloc (.cells #[.int .i64 kd, .slice Ab b.length cb, .slice Am m.length cm, .slice At t.length ct] 49)).heap.size (W.alloc (.cells #[.int .i64 kd, .slice Ab b.length cb, .slice Am m.length cm, .slice At t.length ct] 49)) w5 := below_step (by repeat (first | exact Below.refl _ _ | apply below_drew)) hb5); (have HB5 := Aside0.mk hb5'); (have HO5 := Aside0.mk ho5); clear ho5 hb5 hb5') | (go_at_call 27; (with_reducible refine (hmac_Same.calls k A5 c5 g At ct t _ _ (Kd.C_below (Kd.R_reads' HO5.out).2.2 (by repeat (first | exact Below.refl _ _ | apply below_alloc | apply below_drew))) (Kd.R_reads' HO5.out).2.1 (Kd.C_below (Kd.F_now HOT.out) (by first | exact below_step (below_alloc (Below.refl _ _) _) HB5.out | exact below_drew (below_step (below_alloc (Below.refl _ _) _) HB5.out))) HLT.out HC.out).mono ?_); rintro e w6 ⟨rfl, ⟨nd, rfl⟩⟩))
    have HB6 : Aside0 (Below W.heap.size W (w5.drewN nd)) := ⟨pw_below_drewN (below_step (below_alloc (Below.refl _ _) _) HB5.out) nd⟩
    have HX6 : Aside0 ((w5.drewN nd).heap[W.heap.size]? = some (.cells #[.int .i64 kd, .slice Ab b.length cb, .slice Am m.length cm, .slice At t.length ct] 49 (0, 0))) := ⟨blk_drewN (blk_below HX.out HB5.out) nd⟩
    rename_i hHeld
    clear hHeld HB5 HO5 z2 zm zt
    generalize w5.drewN nd = w6 at HB6 HX6 ⊢
    have H72 : Aside0 (w6.heap[g2]? = some (.cells #[.slice Ak key.length ck] 22 (0, 0))) := ⟨blk_below HH2.out HB6.out⟩
    have H77 : Aside0 (w6.heap[g7]? = some (.cells #[vo] 24 (0, 0))) := ⟨blk_below HH7.out HB6.out⟩
    have H78 : Aside0 (w6.heap[g8]? = some (.cells #[vl] 22 (0, 0))) := ⟨blk_below HH8.out HB6.out⟩
    have HN6 := Aside0.mk (Kd.N_below HN.out HB6.out)
    have y7 : w6.cell? ⟨g7, 0, none⟩ = some vo := (blk_cell H77.out 0).trans rfl
    have x0 : w6.cell? ⟨W.heap.size, 0, none⟩ = some (.int .i64 kd) := (blk_cell HX6.out 0).trans rfl
    have x1 : w6.cell? ⟨W.heap.size, 1, none⟩ = some (.slice Ab b.length cb) := (blk_cell HX6.out 1).trans rfl
    have q7 : some g7 ≠ vo.ownBlock := Kd.N_ne HN6.out H77.out (by decide)
    have q8 : some g8 ≠ vo.ownBlock := Kd.N_ne HN6.out H78.out (by decide)
    have q2 : some g2 ≠ vo.ownBlock := Kd.N_ne HN6.out H72.out (by decide)
    have qx : some W.heap.size ≠ vo.ownBlock := Kd.N_ne HN6.out HX6.out (by decide)
    have Q2 := Aside0.mk q2
    have Q7 := Aside0.mk q7
    have Q8 := Aside0.mk q8
    have QX := Aside0.mk qx
    clear q2 q7 q8 qx
    have e78 : g7 ≠ g8 := Nat.ne_of_lt L78.out.2.1
    have ex7 : W.heap.size ≠ g7 := Nat.ne_of_gt LL.out.2.1
    have ex8 : W.heap.size ≠ g8 := Nat.ne_of_gt LL.out.2.2
    have hfk : Aside0 (Kd.FK k42 w6 (fun q => B ≤ q ∧ ¬ O q) (⟨kd, b⟩ : S42) [.int .i64 kd, .slice Ab b.length cb]) := ⟨k42_mkF w6 _ ⟨kd, b⟩ HLB.out (Kd.F_below HOB.out HB6.out)⟩
    go_wp2_with ((with_reducible refine gate_builtin (b := .append) (xs := #[.tmp 14, .tmp 17]) rfl ?_); at_builtin; refine Kd.N_append k42 (w0 := w6) B rfl (.tmp 14) (.tmp 17) 24 42 (.agg #[(.int .i64 0), (.slice none 0 0)]) 32 rfl Try.underlying24 info42 rfl (by decide) (by omega) vo s.1 (⟨kd, b⟩ : S42) [.int .i64 kd, .slice Ab b.length cb] (fun q => B ≤ q ∧ q ≠ g7 ∧ q ≠ g8) (fun q => B ≤ q ∧ ¬ O q) rfl rfl hfk.out (fun q hq => ⟨⟨hq.1, fun e => hq.2 ((HOO.out q).2 (.inl e)), fun e => hq.2 ((HOO.out q).2 (.inr (.inl e)))⟩, fun e => hq.2 ((HOO.out q).2 (.inr (.inr e)))⟩) (fun q hq => ?fr) HN6.out (Below.refl _ _) ?bs (by have := HLEN.out; omega) ?_; (case fr => have h1 := HB6.out.size; have h2 := LL.out; have h3 := L78.out; exact ⟨by omega, by omega, by omega⟩); (case bs => have h1 := HB6.out.size; have h2 := LL.out; have h3 := L78.out; omega); intro v1 w7 hn1 _ hg1 hat1; (obtain ⟨A7, n7, c7, e7⟩ : ∃ A n c, v1 = .slice A n c := by obtain ⟨A, c, e⟩ := Kd.N_slice hn1; exact ⟨A, _, c, e⟩); subst e7; have HN7 := Aside0.mk hn1; have HGR := Aside0.mk hg1; have HAT := Aside0.mk hat1; (have k7 := blk_grown H77.out hg1 Q7.out); (have k8 := blk_grown H78.out hg1 Q8.out); (have kx := blk_grown HX6.out hg1 QX.out); (have K7 := Aside0.mk k7); (have K8 := Aside0.mk k8); (have K2 := Aside0.mk (blk_grown H72.out hg1 Q2.out)); (have f7 : w7.frozen? ⟨g7, 0, none⟩ = false := blk_frozen k7 0); (have y7' : w7.cell? ⟨g7, 0, none⟩ = some vo := (blk_cell k7 0).trans rfl); (have x3 : (w7.setCell ⟨g7, 0, none⟩ (.slice A7 n7 c7)).cell? ⟨W.heap.size, 3, none⟩ = some (.slice At t.length ct) := (blk_cell (blk_far kx ex7 _) 3).trans rfl); (have f8 : (w7.setCell ⟨g7, 0, none⟩ (.slice A7 n7 c7)).frozen? ⟨g8, 0, none⟩ = false := blk_frozen (blk_far k8 (Ne.symm e78) _) 0); (have y8 : (w7.setCell ⟨g7, 0, none⟩ (.slice A7 n7 c7)).cell? ⟨g8, 0, none⟩ = some vl := (blk_cell (blk_far k8 (Ne.symm e78) _) 0).trans rfl); clear hn1 hg1 hat1 k7 k8 kx)
    go_ret
    obtain ⟨l1, l2, l3⟩ := L78.out
    obtain ⟨m1, m2, m3⟩ := LL.out
    have e27 : g2 ≠ g7 := Nat.ne_of_lt l1
    have e28 : g2 ≠ g8 := Nat.ne_of_lt (Nat.lt_trans l1 l2)
    have hsz := HB6.out.size
    have hO7 : ∀ q, q < W.heap.size → some q = (Value.slice A7 n7 c7).ownBlock → some q = vo.ownBlock := fun q hq he => by
      rcases HAT.out with h | ⟨x, h, hx⟩
      · exact he.trans h
      · rw [h] at he
        have := Option.some.inj he
        omega
    have hk : Kept W ((w7.setCell ⟨g7, 0, none⟩ (.slice A7 n7 c7)).setCell ⟨g8, 0, none⟩ (.slice At t.length ct)) O :=
      ((Kept.of_grown HGR.out (Kept.of_below HB6.out O) (fun q hq => .inl ((HOO.out q).2 (.inr (.inr hq.symm))))).setCell (p := ⟨g7, 0, none⟩) (.inl ((HOO.out g7).2 (.inl rfl))) _).setCell (p := ⟨g8, 0, none⟩) (.inl ((HOO.out g8).2 (.inr (.inl rfl)))) _
    have hbb : Below B W ((w7.setCell ⟨g7, 0, none⟩ (.slice A7 n7 c7)).setCell ⟨g8, 0, none⟩ (.slice At t.length ct)) :=
      (((HB6.out.mono (by omega)).grown HGR.out (by omega) (fun q hq => Kd.N_base HN.out q hq)).setCell (p := ⟨g7, 0, none⟩) (by show B ≤ g7; omega) _).setCell (p := ⟨g8, 0, none⟩) (by show B ≤ g8; omega) _
    refine ⟨fun q => q = g7 ∨ q = g8 ∨ some q = (Value.slice A7 n7 c7).ownBlock, rfl, ⟨_, _, blk_far (blk_far K2.out e27 _) e28 _, blk_far (blk_put K7.out 0 _ rfl) e78 _, blk_put (blk_far K8.out (Ne.symm e78) _) 0 _ rfl, ?_, ⟨At, ct, rfl, HLT.out, ?_⟩, ?_, fun q => Iff.rfl⟩, hk, hbb, fun q hq ho => (HOO.out q).2 (ho.imp_right (Or.imp_right (hO7 q hq)))⟩
    · exact Kd.N_far (Kd.N_far HN7.out (fun q hq => hq.2.1) _) (fun q hq => hq.2.2) _
    · exact Kd.F_mono (Kd.F_step (Kd.F_bound HOT.out) (fun q hq hlt => hk.2 q hlt hq.1.2)) (fun q hq => ⟨hq.1.1, fun e => hq.1.2 ((HOO.out q).2 (.inl e)), fun e => hq.1.2 ((HOO.out q).2 (.inr (.inl e))), fun e => hq.1.2 ((HOO.out q).2 (.inr (.inr (hO7 q hq.2 e))))⟩)
    · exact Kd.F_kept HKY.out hk (fun q hq ho => by
        rcases (HOO.out q).1 ho with rfl | rfl | he
        · omega
        · omega
        · have := Kd.N_base HN.out q he.symm; omega)
theorem chain_Entries1.goes (c1 c2 c3 : Value) (z : Value) (w : World) : (callFunc 26 (#[z] ++ #[c1, c2, c3])).run Try.prog w = .ok (.enter 26 (#[z] ++ #[c1, c2, c3])) w := by go_simp
def chain_Entries.Post (w : World) (r1 : List S42) (r2 : List Int) (r3 : Int) (e : Ending) (w' : World) : Prop :=
  ∃ v0_ v1_ : Value, e = .returned (.tuple #[v0_, v1_, .int .i64 r3]) ∧ Kd.V k42 42 w' w.heap.size (fun k_ => (w.heap.size ≤ k_)) v0_ r1 ∧ Kd.V (Kd.int .u8) 5 w' w.heap.size (fun k_ => (w.heap.size ≤ k_)) v1_ r2 ∧ Below w.heap.size w w'
set_option maxHeartbeats 16000000 in
set_option maxRecDepth 100000 in
theorem chain_Entries.post (k : Nat) (A0 : Option Addr) (c0 : Nat) (l0 : List Int) (A1 : Option Addr) (c1 : Nat) (l1 : List Int) (r1 : List S42) (r2 : List Int) (r3 : Int) (w : World) (hr0 : Kd.C (Kd.int .u8) w A0 l0.length l0) (hc0 : l0.length ≤ c0) (hr1 : Kd.C (Kd.int .u8) w A1 l1.length l1) (hc1 : l1.length ≤ c1) (h : chain_Entries.f k l0 l1 = some (r1, r2, r3)) :
    Calls Try.prog 8 #[.slice A0 l0.length c0, .slice A1 l1.length c1] w (chain_Entries.Post w r1 r2 r3) := by
  unfold chain_Entries.f at h
  obtain ⟨t, ht, h⟩ := Option.bind_eq_some_iff.mp h
  obtain ⟨y, hy, h⟩ := Option.bind_eq_some_iff.mp h
  have HR0 := Aside0.mk hr0
  have HC0 := Aside0.mk hc0
  have HR1 := Aside0.mk hr1
  have HC1 := Aside0.mk hc1
  have HT := Aside0.mk ht
  have HY := Aside0.mk hy
  have H := Aside0.mk h
  clear hr0 hc0 hr1 hc1 ht hy h
  have HCL : Aside0 (∀ (c1 c2 c3 : Value) (z : Value) (w : World), (callFunc 26 (#[z] ++ #[c1, c2, c3])).run Try.prog w = .ok (.enter 26 (#[z] ++ #[c1, c2, c3])) w) := ⟨chain_Entries1.goes⟩
  go_enter Try.func8, Try.ntmps8
  go_wp2_with (first | (go_at_call 23; (with_reducible refine (chain_First.calls t _ HT.out).mono ?_); rintro e w1 ⟨v5, rfl, ho1, hb1⟩; (obtain ⟨AT, cT, rfl⟩ := Kd.R_slice ho1); (have HA := Aside0.mk ho1); (have HB := Aside0.mk hb1); clear ho1 hb1))
  have hs1 : w.heap.size + 2 ≤ w1.heap.size := by have := HB.out.size; simpa using this
  have hbw : Below w.heap.size w (w1.alloc (.cells #[.slice AT t.length cT] 22)) := below_alloc (below_step (by repeat (first | exact Below.refl _ _ | apply below_alloc)) HB.out) _
  have hsz2 : (w.alloc (.cells #[.slice A0 l0.length c0] 22)).heap.size = w.heap.size + 1 := by simp
  have hk7 : (w1.alloc (.cells #[.slice AT t.length cT] 22)).heap[w.heap.size + 1]? = some (.cells #[.slice none 0 0] 24 (0, 0)) := by
    have := blk_alloc (blk_below (blk_new (w.alloc (.cells #[.slice A0 l0.length c0] 22)) (.cells #[.slice none 0 0] 24)) HB.out) (.cells #[.slice AT t.length cT] 22)
    rwa [hsz2] at this
  have hi0 : chain_Entries.I w.heap.size w.heap.size (w.heap.size + 1) w1.heap.size A0 c0 l0 (w1.alloc (.cells #[.slice AT t.length cT] 22)) ([], t) (fun q => q = w.heap.size + 1 ∨ q = w1.heap.size ∨ some q = (Value.slice none 0 0).ownBlock) := by
    refine ⟨_, _, blk_alloc (blk_below (blk_alloc (blk_new w _) _) HB.out) _, hk7, blk_new w1 _, Kd.N_nil _ _ _ _ _, ⟨AT, cT, rfl, (Kd.R_reads' HA.out).2.1, ?_⟩, Kd.F_below (Kd.C_F (Kd.heap_int .u8) HR0.out) hbw, fun q => Iff.rfl⟩
    refine Kd.F_alloc (Kd.F_mono (Kd.R_F (Kd.R_bound HA.out)) (fun q hq => ?_)) _
    have h1 := hq.2.1
    have h2 := hq.2.2.1
    have h3 : ((w.alloc (.cells #[.slice A0 l0.length c0] 22)).alloc (.cells #[.slice none 0 0] 24)).heap.size = w.heap.size + 2 := by simp
    rw [h3] at h1
    exact ⟨by omega, by omega, by omega, by simp [Value.ownBlock]⟩
  have HI0 := Aside0.mk hi0
  have HBW := Aside0.mk hbw
  have HS1 := Aside0.mk hs1
  clear hk7 hi0 hbw hsz2 hs1 HA HB
  obtain ⟨⟨y1, y2⟩, y3⟩ := y
  by_cases d : y3 = 0
  case neg =>
    have d1 : (y3 != 0) = true := by simpa using d
    have e := H.out
    simp only [if_neg d, Option.some.injEq, Prod.mk.injEq] at e
    obtain ⟨rfl, rfl, rfl⟩ := e
    clear d H h
    go_wp2_with (go_at_call 25; (with_reducible refine (chain_along.calls (chain_Entries.see l0) 26 #[.pointer (some ⟨w.heap.size, 0, none⟩), .pointer (some ⟨w.heap.size + 1, 0, none⟩), .pointer (some ⟨w1.heap.size, 0, none⟩)] w.heap.size w.heap.size (chain_Entries.I w.heap.size w.heap.size (w.heap.size + 1) w1.heap.size A0 c0 l0) chain_Entries.I_below (chain_Entries.I_own (Nat.le_succ _) (Nat.le_trans (Nat.le_add_right _ 2) HS1.out)) (fun z W => HCL.out _ _ _ z W) (chain_Entries1.calls w.heap.size w.heap.size (w.heap.size + 1) w1.heap.size A0 c0 l0 HC0.out (Nat.lt_succ_self _) (Nat.lt_of_lt_of_le (Nat.lt_succ_self _) HS1.out) (Nat.le_refl _)) k A1 c1 l1 ([], t) _ ((y1, y2), y3) _ (Kd.F_below (Kd.C_F (Kd.heap_int .u8) HR1.out) HBW.out) HC1.out HBW.out.size HBW.out.size HI0.out HY.out).mono ?_); rintro e w3 ⟨O', rfl, hi3, hk3, hb3, ho3⟩; (obtain ⟨vo, vl, h2, h7, h8, hN, hV, hK, hO⟩ := hi3); (have y7 : w3.cell? ⟨w.heap.size + 1, 0, none⟩ = some vo := (blk_cell h7 0).trans rfl); (have y8 : w3.cell? ⟨w1.heap.size, 0, none⟩ = some vl := (blk_cell h8 0).trans rfl); have HN := Aside0.mk hN; have HV := Aside0.mk hV; have HB3 := Aside0.mk hb3; clear hk3 hb3 ho3 h2 h7 h8 hN hV hK hO)
    go_ret3
    exact ⟨_, _, rfl, Kd.R_V (Kd.R_nil _ _ _ 0 _), Kd.R_V (Kd.R_nil _ _ _ 0 _), HBW.out.trans HB3.out⟩
  subst d
  have e := H.out
  simp only [if_pos, Option.some.injEq, Prod.mk.injEq] at e
  obtain ⟨rfl, rfl, rfl⟩ := e
  clear H h
  go_wp2_with (go_at_call 25; (with_reducible refine (chain_along.calls (chain_Entries.see l0) 26 #[.pointer (some ⟨w.heap.size, 0, none⟩), .pointer (some ⟨w.heap.size + 1, 0, none⟩), .pointer (some ⟨w1.heap.size, 0, none⟩)] w.heap.size w.heap.size (chain_Entries.I w.heap.size w.heap.size (w.heap.size + 1) w1.heap.size A0 c0 l0) chain_Entries.I_below (chain_Entries.I_own (Nat.le_succ _) (Nat.le_trans (Nat.le_add_right _ 2) HS1.out)) (fun z W => HCL.out _ _ _ z W) (chain_Entries1.calls w.heap.size w.heap.size (w.heap.size + 1) w1.heap.size A0 c0 l0 HC0.out (Nat.lt_succ_self _) (Nat.lt_of_lt_of_le (Nat.lt_succ_self _) HS1.out) (Nat.le_refl _)) k A1 c1 l1 ([], t) _ ((y1, y2), 0) _ (Kd.F_below (Kd.C_F (Kd.heap_int .u8) HR1.out) HBW.out) HC1.out HBW.out.size HBW.out.size HI0.out HY.out).mono ?_); rintro e w3 ⟨O', rfl, hi3, hk3, hb3, ho3⟩; (obtain ⟨vo, vl, h2, h7, h8, hN, hV, hK, hO⟩ := hi3); (have y7 : w3.cell? ⟨w.heap.size + 1, 0, none⟩ = some vo := (blk_cell h7 0).trans rfl); (have y8 : w3.cell? ⟨w1.heap.size, 0, none⟩ = some vl := (blk_cell h8 0).trans rfl); have HN := Aside0.mk hN; have HV := Aside0.mk hV; have HB3 := Aside0.mk hb3; clear hk3 hb3 ho3 h2 h7 h8 hN hV hK hO)
  go_quiet (fail)
  try go_wp2
  go_ret3
  exact ⟨_, _, rfl, Kd.V_mono (Kd.N_V (Kd.N_drewN HN.out _)) (fun q hq => hq.1), Kd.V_mono (Kd.V_drewN HV.out _) (fun q hq => hq.1), pw_below_drewN (HBW.out.trans HB3.out) _⟩
theorem chain_Entries.calls (k : Nat) (A0 : Option Addr) (c0 : Nat) (l0 : List Int) (A1 : Option Addr) (c1 : Nat) (l1 : List Int) (r1 : List S42) (r2 : List Int) (r3 : Int) (w : World) (hr0 : Kd.C (Kd.int .u8) w A0 l0.length l0) (hc0 : l0.length ≤ c0) (hr1 : Kd.C (Kd.int .u8) w A1 l1.length l1) (hc1 : l1.length ≤ c1) (h : chain_Entries.f k l0 l1 = some (r1, r2, r3)) :
    Calls Try.prog 8 #[.slice A0 l0.length c0, .slice A1 l1.length c1] w fun e w' => ∃ v0_ v1_ : Value, e = .returned (.tuple #[v0_, v1_, .int .i64 r3]) ∧ Kd.V k42 42 w' w.heap.size (fun k_ => (w.heap.size ≤ k_)) v0_ r1 ∧ Kd.V (Kd.int .u8) 5 w' w.heap.size (fun k_ => (w.heap.size ≤ k_)) v1_ r2 ∧ Below w.heap.size w w' :=
  (chain_Entries.post k A0 c0 l0 A1 c1 l1 r1 r2 r3 w hr0 hc0 hr1 hc1 h).mono fun _ _ h => h

/-! ### chain_Verify: function 12 -/
def chain_Verify.f (k : Nat) (l0 : List Int) (l1 : List Int) (a2 : Int) (l3 : List Int) : Option (Bool) := (chain_Entries.f k l0 l1).bind fun bt140 => (if bt140.2.2 = 0 then (if (bt140.1.length : Int) = a2 then ((hmac_Same.f k bt140.2.1 l3).bind fun t147 => (some t147)) else (some false)) else (some false))
theorem chain_Verify.mono : ∀ a0 a1 a2 a3 k, LeO (chain_Verify.f k a0 a1 a2 a3) (chain_Verify.f (k + 1) a0 a1 a2 a3) := by
  intro a0 a1 a2 a3 k
  unfold chain_Verify.f
  repeat' first
      | (with_reducible exact chain_Entries.mono _ _ _)
      | (with_reducible exact hmac_Same.mono _ _ _)
      | (with_reducible exact LeO.refl _)
      | (with_reducible exact LeO.none _)
      | (with_reducible refine LeO.ite ?_ ?_)
      | (with_reducible refine LeO.bind ?_ (fun _ => ?_))
      | exact chain_Entries.mono _ _ _
      | exact hmac_Same.mono _ _ _
      | exact LeO.none _
      | refine LeO.ite ?_ ?_
      | refine LeO.bind ?_ (fun _ => ?_)
set_option maxHeartbeats 8000000 in
set_option maxRecDepth 100000 in
theorem chain_Verify.calls (k : Nat) (A0 : Option Addr) (c0 : Nat) (l0 : List Int) (A1 : Option Addr) (c1 : Nat) (l1 : List Int) (a2 : Int) (A3 : Option Addr) (c3 : Nat) (l3 : List Int) (r : Bool) (w : World) (hr0 : Kd.C (Kd.int .u8) w A0 l0.length l0) (hc0 : l0.length ≤ c0) (hr1 : Kd.C (Kd.int .u8) w A1 l1.length l1) (hc1 : l1.length ≤ c1) (hr3 : Kd.C (Kd.int .u8) w A3 l3.length l3) (hc3 : l3.length ≤ c3) (h : chain_Verify.f k l0 l1 a2 l3 = some r) :
    Calls Try.prog 12 #[.slice A0 l0.length c0, .slice A1 l1.length c1, .int .i64 a2, .slice A3 l3.length c3] w fun e w' => e = .returned (.bool r) ∧ Below w.heap.size w w' := by
  have HR0 := Aside0.mk hr0
  have HC0 := Aside0.mk hc0
  clear hr0 hc0
  have HR1 := Aside0.mk hr1
  have HC1 := Aside0.mk hc1
  clear hr1 hc1
  have HR3 := Aside0.mk hr3
  have HC3 := Aside0.mk hc3
  clear hr3 hc3
  have HB := Aside0.mk (Below.refl w.heap.size w)
  have H : ((chain_Entries.f k l0 l1).bind fun bt140 => (if bt140.2.2 = 0 then (if (bt140.1.length : Int) = a2 then ((hmac_Same.f k bt140.2.1 l3).bind fun t147 => (some t147)) else (some false)) else (some false))) = some r := h
  clear h
  replace H := Option.bind_eq_some_iff.mp H
  obtain ⟨⟨t140, t143, t146⟩, A50, H⟩ := H
  replace H : (if t146 = 0 then (if (t140.length : Int) = a2 then ((hmac_Same.f k t143 l3).bind fun t147 => (some t147)) else (some false)) else (some false)) = some r := H
  have A5 := Aside0.mk A50
  clear A50
  by_cases c6 : t146 = 0
  · rw [if_pos c6] at H
    have c6b0 : (t146 == 0) = true := beq_iff_eq.mpr c6
    have c6b1 : (t146 != 0) = false := bne_eq_false_iff_eq.mpr c6
    clear c6
    by_cases c7 : (t140.length : Int) = a2
    · rw [if_pos c7] at H
      have c7b0 : ((t140.length : Int) == a2) = true := beq_iff_eq.mpr c7
      have c7b1 : ((t140.length : Int) != a2) = false := bne_eq_false_iff_eq.mpr c7
      clear c7
      replace H := Option.bind_eq_some_iff.mp H
      obtain ⟨t147, A80, H⟩ := H
      replace H : (some t147) = some r := H
      have A8 := Aside0.mk A80
      clear A80
      obtain rfl := Option.some.inj H
      go_enter Try.func12, Try.ntmps12
      go_wp2_with (first | ((with_reducible refine gate_callee (f := 8) rfl ?_); refine goesL_ (some 15) rfl rfl Try.func8 (by kernel_rfl) rfl #[.slice A0 l0.length c0, .slice A1 l1.length c1] rfl (by (try simp only [List.map_toArray, List.map_cons, List.map_nil]); first | done | rfl | (simp only [List.length_drop, List.length_take]; rfl)) ?_; (with_reducible refine (chain_Entries.calls k _ _ l0 _ _ l1 t140 t143 t146 _ ?side1 ?side2 ?side3 ?side4 A5.out).mono ?_); (case side1 => repeat (first | exact HR0.out | (with_reducible refine Kd.C_alloc ?_ _) | (with_reducible refine Kd.C_drewN ?_ _) | (with_reducible refine Kd.C_drew ?_))); (case side2 => exact HC0.out); (case side3 => repeat (first | exact HR1.out | (with_reducible refine Kd.C_alloc ?_ _) | (with_reducible refine Kd.C_drewN ?_ _) | (with_reducible refine Kd.C_drew ?_))); (case side4 => exact HC1.out); rintro e w9 ⟨v141, v144, rfl, ho0, ho1, hb⟩; refine ⟨_, rfl, ?_⟩; have n0_ := Aside0.mk (Kd.V_lower (Kd.V_mono (ok' := fun k_ => True) ho0 (fun k_ hk_ => trivial)) (below_size (by repeat (first | (with_reducible first | exact HB.out | apply below_alloc | apply pw_below_drewN | apply below_drew1) | exact HB.out)))); have n1_ := Aside0.mk (Kd.V_lower (Kd.V_mono (ok' := fun k_ => True) ho1 (fun k_ hk_ => trivial)) (below_size (by repeat (first | (with_reducible first | exact HB.out | apply below_alloc | apply pw_below_drewN | apply below_drew1) | exact HB.out)))); have n2_ := Aside0.mk (below_step (by repeat (first | (with_reducible first | exact HB.out | apply below_alloc | apply pw_below_drewN | apply below_drew1) | exact HB.out)) hb); clear HB; have HO142 := n0_; have HO145 := n1_; have HB := n2_; clear n0_ n1_ n2_; (try clear hb); (try clear hb2); (try clear hk); (try clear hi); (try clear ho0); (try clear ho1); obtain ⟨Ao10, co10, eo10⟩ := Kd.V_slice HO142.out; subst eo10; obtain ⟨Ao11, co11, eo11⟩ := Kd.V_slice HO145.out; subst eo11) | (go_at_call 27; (with_reducible refine (hmac_Same.calls k _ _ t143 _ _ l3 t147 _ ?side1 ?side2 ?side3 ?side4 A8.out).mono ?_); (case side1 => repeat (first | exact (Kd.V_reads' HO145.out).2.2 | (with_reducible refine Kd.C_alloc ?_ _) | (with_reducible refine Kd.C_drewN ?_ _) | (with_reducible refine Kd.C_drew ?_))); (case side2 => exact (Kd.V_reads' HO145.out).2.1); (case side3 => repeat (first | exact (Kd.C_below HR3.out HB.out) | (with_reducible refine Kd.C_alloc ?_ _) | (with_reducible refine Kd.C_drewN ?_ _) | (with_reducible refine Kd.C_drew ?_))); (case side4 => exact HC3.out); rintro e w' ⟨rfl, ⟨nd, rfl⟩⟩))
      go_ret
      exact ⟨by first | rfl | (simp [errW_none, errW_some] <;> rfl) | (simp [*, errW_none, errW_some] <;> rfl), by repeat (first | (with_reducible first | exact HB.out | apply below_alloc | apply pw_below_drewN | apply below_drew1) | exact HB.out)⟩
    · rw [if_neg c7] at H
      have c7b0 : ((t140.length : Int) == a2) = false := beq_eq_false_iff_ne.mpr c7
      have c7b1 : ((t140.length : Int) != a2) = true := bne_iff_ne.mpr c7
      obtain rfl := Option.some.inj H
      go_enter Try.func12, Try.ntmps12
      go_wp2_with (first | ((with_reducible refine gate_callee (f := 8) rfl ?_); refine goesL_ (some 15) rfl rfl Try.func8 (by kernel_rfl) rfl #[.slice A0 l0.length c0, .slice A1 l1.length c1] rfl (by (try simp only [List.map_toArray, List.map_cons, List.map_nil]); first | done | rfl | (simp only [List.length_drop, List.length_take]; rfl)) ?_; (with_reducible refine (chain_Entries.calls k _ _ l0 _ _ l1 t140 t143 t146 _ ?side1 ?side2 ?side3 ?side4 A5.out).mono ?_); (case side1 => repeat (first | exact HR0.out | (with_reducible refine Kd.C_alloc ?_ _) | (with_reducible refine Kd.C_drewN ?_ _) | (with_reducible refine Kd.C_drew ?_))); (case side2 => exact HC0.out); (case side3 => repeat (first | exact HR1.out | (with_reducible refine Kd.C_alloc ?_ _) | (with_reducible refine Kd.C_drewN ?_ _) | (with_reducible refine Kd.C_drew ?_))); (case side4 => exact HC1.out); rintro e w12 ⟨v141, v144, rfl, ho0, ho1, hb⟩; refine ⟨_, rfl, ?_⟩; have n0_ := Aside0.mk (Kd.V_lower (Kd.V_mono (ok' := fun k_ => True) ho0 (fun k_ hk_ => trivial)) (below_size (by repeat (first | (with_reducible first | exact HB.out | apply below_alloc | apply pw_below_drewN | apply below_drew1) | exact HB.out)))); have n1_ := Aside0.mk (Kd.V_lower (Kd.V_mono (ok' := fun k_ => True) ho1 (fun k_ hk_ => trivial)) (below_size (by repeat (first | (with_reducible first | exact HB.out | apply below_alloc | apply pw_below_drewN | apply below_drew1) | exact HB.out)))); have n2_ := Aside0.mk (below_step (by repeat (first | (with_reducible first | exact HB.out | apply below_alloc | apply pw_below_drewN | apply below_drew1) | exact HB.out)) hb); clear HB; have HO142 := n0_; have HO145 := n1_; have HB := n2_; clear n0_ n1_ n2_; (try clear hb); (try clear hb2); (try clear hk); (try clear hi); (try clear ho0); (try clear ho1); obtain ⟨Ao13, co13, eo13⟩ := Kd.V_slice HO142.out; subst eo13))
      go_ret
      exact ⟨by first | rfl | (simp [errW_none, errW_some] <;> rfl) | (simp [*, errW_none, errW_some] <;> rfl), by repeat (first | (with_reducible first | exact HB.out | apply below_alloc | apply pw_below_drewN | apply below_drew1) | exact HB.out)⟩
  · rw [if_neg c6] at H
    have c6b0 : (t146 == 0) = false := beq_eq_false_iff_ne.mpr c6
    have c6b1 : (t146 != 0) = true := bne_iff_ne.mpr c6
    obtain rfl := Option.some.inj H
    go_enter Try.func12, Try.ntmps12
    go_wp2_with (first | ((with_reducible refine gate_callee (f := 8) rfl ?_); refine goesL_ (some 15) rfl rfl Try.func8 (by kernel_rfl) rfl #[.slice A0 l0.length c0, .slice A1 l1.length c1] rfl (by (try simp only [List.map_toArray, List.map_cons, List.map_nil]); first | done | rfl | (simp only [List.length_drop, List.length_take]; rfl)) ?_; (with_reducible refine (chain_Entries.calls k _ _ l0 _ _ l1 t140 t143 t146 _ ?side1 ?side2 ?side3 ?side4 A5.out).mono ?_); (case side1 => repeat (first | exact HR0.out | (with_reducible refine Kd.C_alloc ?_ _) | (with_reducible refine Kd.C_drewN ?_ _) | (with_reducible refine Kd.C_drew ?_))); (case side2 => exact HC0.out); (case side3 => repeat (first | exact HR1.out | (with_reducible refine Kd.C_alloc ?_ _) | (with_reducible refine Kd.C_drewN ?_ _) | (with_reducible refine Kd.C_drew ?_))); (case side4 => exact HC1.out); rintro e w14 ⟨v141, v144, rfl, ho0, ho1, hb⟩; refine ⟨_, rfl, ?_⟩; have n0_ := Aside0.mk (Kd.V_lower (Kd.V_mono (ok' := fun k_ => True) ho0 (fun k_ hk_ => trivial)) (below_size (by repeat (first | (with_reducible first | exact HB.out | apply below_alloc | apply pw_below_drewN | apply below_drew1) | exact HB.out)))); have n1_ := Aside0.mk (Kd.V_lower (Kd.V_mono (ok' := fun k_ => True) ho1 (fun k_ hk_ => trivial)) (below_size (by repeat (first | (with_reducible first | exact HB.out | apply below_alloc | apply pw_below_drewN | apply below_drew1) | exact HB.out)))); have n2_ := Aside0.mk (below_step (by repeat (first | (with_reducible first | exact HB.out | apply below_alloc | apply pw_below_drewN | apply below_drew1) | exact HB.out)) hb); clear HB; have HO142 := n0_; have HO145 := n1_; have HB := n2_; clear n0_ n1_ n2_; (try clear hb); (try clear hb2); (try clear hk); (try clear hi); (try clear ho0); (try clear ho1)))
    go_ret
    exact ⟨by first | rfl | (simp [errW_none, errW_some] <;> rfl) | (simp [*, errW_none, errW_some] <;> rfl), by repeat (first | (with_reducible first | exact HB.out | apply below_alloc | apply pw_below_drewN | apply below_drew1) | exact HB.out)⟩

/-! ### notaryref47_First: function 19 -/
def notaryref47_First.f  : Option (List Int) := if 32 ≤ 281474976710656 then (some (List.replicate 32 0)) else (none)
set_option maxHeartbeats 8000000 in
set_option maxRecDepth 100000 in
theorem notaryref47_First.calls  (r : List Int) (w : World) (h : notaryref47_First.f  = some r) :
    Calls Try.prog 19 #[] w fun e w' => ∃ v0_ : Value, e = .returned (v0_) ∧ Kd.R (Kd.int .u8) 5 w' w.heap.size (fun _ => True) v0_ r ∧ Below w.heap.size w w' := by
  have HB := Aside0.mk (Below.refl w.heap.size w)
  have H : (if 32 ≤ 281474976710656 then (some (List.replicate 32 0)) else (none)) = some r := h
  clear h
  by_cases c1 : 32 ≤ 281474976710656
  · rw [if_pos c1] at H
    have c1b0 := eq_true c1
    have c1b1 : decide (32 ≤ 281474976710656) = true := decide_eq_true c1
    clear c1
    obtain ⟨y148, hy148⟩ : ∃ y_ : List Int, y_ = (List.replicate 32 0) := ⟨_, rfl⟩
    replace H : (some y148) = some r := by first | (rw [hy148]; with_reducible exact H) | (have H2_ := (Option.bind_some _ _).symm.trans H; rw [hy148]; with_reducible exact H2_) | (have H2_ := (Option.bind_some _ _).symm.trans H; with_reducible exact H2_) | with_reducible exact H | (rw [hy148]; exact H) | exact H
    have Ny148 := Aside0.mk hy148
    clear hy148
    obtain rfl := Option.some.inj H
    go_enter Try.func19, Try.ntmps19
    go_wp2_with (first | ((with_reducible refine gate_dst (N := 1) rfl ?_); refine Kd.R_make (Kd.int .u8) _ 5 rfl (N := 1) rfl 22 _ _ rfl 32 rfl rfl Try.underlying22 (.int .u8 0) 1 info5 rfl (by decide) (by omega) 0 (ok := fun _ => True) (okp := fun _ => True) rfl (fun _ hk => hk) trivial (by omega) (by omega) (Below.refl _ _) (Nat.le_refl _) ?_; intro v149 w2 ho3 hb hg_ hnew_; clear hg_ hnew_; (first | rw [← Ny148.out] at ho3 | (simp only [Int.reduceToNat] at ho3; rw [← Ny148.out] at ho3)); have n0_ := Aside0.mk (Kd.R_lower ho3 (below_size (by repeat (first | (with_reducible first | exact HB.out | apply below_alloc | apply pw_below_drewN | apply below_drew1) | exact HB.out)))); have n1_ := Aside0.mk (below_step (by repeat (first | (with_reducible first | exact HB.out | apply below_alloc | apply pw_below_drewN | apply below_drew1) | exact HB.out)) hb); clear HB; have HO150 := n0_; have HB := n1_; clear n0_ n1_; clear hb ho3))
    go_ret
    exact ⟨_, by first | rfl | (simp [errW_none, errW_some] <;> rfl) | (simp [*, errW_none, errW_some] <;> rfl), by (with_reducible repeat (first | apply Kd.R_alloc | apply Kd.R_drewN | apply Kd.R_drew)); exact HO150.out, by repeat (first | (with_reducible first | exact HB.out | apply below_alloc | apply pw_below_drewN | apply below_drew1) | exact HB.out)⟩
  · rw [if_neg c1] at H
    exact absurd H (by simp)

/-! ### notarylaw47_awake: function 7 -/
def notarylaw47_awake.f (k : Nat)  : Option (Bool) := (notaryref47_First.f).bind fun t151 => ((chain_Verify.f k ([] : List Int) ([] : List Int) 0 t151).bind fun t154 => (if t154 = true then ((chain_First.f).bind fun t155 => (some ((t155.length : Int) == 32))) else (some false)))
theorem notarylaw47_awake.mono : ∀ k, LeO (notarylaw47_awake.f k ) (notarylaw47_awake.f (k + 1) ) := by
  intro  k
  unfold notarylaw47_awake.f
  repeat' first
      | (with_reducible exact chain_Verify.mono _ _ _ _ _)
      | (with_reducible exact LeO.refl _)
      | (with_reducible exact LeO.none _)
      | (with_reducible refine LeO.ite ?_ ?_)
      | (with_reducible refine LeO.bind ?_ (fun _ => ?_))
      | exact chain_Verify.mono _ _ _ _ _
      | exact LeO.none _
      | refine LeO.ite ?_ ?_
      | refine LeO.bind ?_ (fun _ => ?_)
set_option maxHeartbeats 8000000 in
set_option maxRecDepth 100000 in
theorem notarylaw47_awake.calls (k : Nat)  (r : Bool) (w : World) (h : notarylaw47_awake.f k  = some r) :
    Calls Try.prog 7 #[] w fun e w' => e = .returned (.bool r) ∧ Below w.heap.size w w' := by
  have HB := Aside0.mk (Below.refl w.heap.size w)
  have H : ((notaryref47_First.f).bind fun t151 => ((chain_Verify.f k ([] : List Int) ([] : List Int) 0 t151).bind fun t154 => (if t154 = true then ((chain_First.f).bind fun t155 => (some ((t155.length : Int) == 32))) else (some false)))) = some r := h
  clear h
  replace H := Option.bind_eq_some_iff.mp H
  obtain ⟨t151, A10, H⟩ := H
  replace H : ((chain_Verify.f k ([] : List Int) ([] : List Int) 0 t151).bind fun t154 => (if t154 = true then ((chain_First.f).bind fun t155 => (some ((t155.length : Int) == 32))) else (some false))) = some r := H
  have A1 := Aside0.mk A10
  clear A10
  replace H := Option.bind_eq_some_iff.mp H
  obtain ⟨t154, A20, H⟩ := H
  replace H : (if t154 = true then ((chain_First.f).bind fun t155 => (some ((t155.length : Int) == 32))) else (some false)) = some r := H
  have A2 := Aside0.mk A20
  clear A20
  by_cases c3 : t154 = true
  · subst c3
    have H1 : ((chain_First.f).bind fun t155 => (some ((t155.length : Int) == 32))) = some r := by rw [if_pos rfl] at H; exact H
    clear H
    have H := H1
    clear H1
    replace H := Option.bind_eq_some_iff.mp H
    obtain ⟨t155, A40, H⟩ := H
    replace H : (some ((t155.length : Int) == 32)) = some r := H
    have A4 := Aside0.mk A40
    clear A40
    obtain rfl := Option.some.inj H
    go_enter Try.func7, Try.ntmps7
    go_wp2_with (first | ((with_reducible refine gate_callee (f := 19) rfl ?_); refine goesL_ (some 1) rfl rfl Try.func19 (by kernel_rfl) rfl #[] rfl (by (try simp only [List.map_toArray, List.map_cons, List.map_nil]); first | done | rfl | (simp only [List.length_drop, List.length_take]; rfl)) ?_; (with_reducible refine (notaryref47_First.calls  t151 _ A1.out).mono ?_); rintro e w5 ⟨v152, rfl, ho0, hb⟩; refine ⟨_, rfl, ?_⟩; have n0_ := Aside0.mk (Kd.R_lower ho0 (below_size (by repeat (first | (with_reducible first | exact HB.out | apply below_alloc | apply pw_below_drewN | apply below_drew1) | exact HB.out)))); have n1_ := Aside0.mk (below_step (by repeat (first | (with_reducible first | exact HB.out | apply below_alloc | apply pw_below_drewN | apply below_drew1) | exact HB.out)) hb); clear HB; have HO153 := n0_; have HB := n1_; clear n0_ n1_; (try clear hb); (try clear hb2); (try clear hk); (try clear hi); (try clear ho0); obtain ⟨Ao6, co6, eo6⟩ := Kd.R_slice HO153.out; subst eo6) | ((with_reducible refine gate_callee (f := 12) rfl ?_); refine goesL_ (some 2) rfl rfl Try.func12 (by kernel_rfl) rfl #[.slice none 0 0, .slice none 0 0, .int .i64 0, .slice Ao6 t151.length co6] rfl (by (try simp only [List.map_toArray, List.map_cons, List.map_nil]); first | done | rfl | (simp only [List.length_drop, List.length_take]; rfl)) ?_; (refine (chain_Verify.calls k _ _ ([] : List Int) _ _ ([] : List Int) 0 _ _ t151 true _ ?side1 ?side2 ?side3 ?side4 ?side5 ?side6 A2.out).mono ?_); (case side1 => exact Kd.C_nil _ _); (case side2 => exact Nat.le_refl _); (case side3 => exact Kd.C_nil _ _); (case side4 => exact Nat.le_refl _); (case side5 => repeat (first | exact (Kd.R_reads' HO153.out).2.2 | (with_reducible refine Kd.C_alloc ?_ _) | (with_reducible refine Kd.C_drewN ?_ _) | (with_reducible refine Kd.C_drew ?_))); (case side6 => exact (Kd.R_reads' HO153.out).2.1); rintro e w7 ⟨rfl, hb⟩; refine ⟨_, rfl, ?_⟩; have n0_ := Aside0.mk (Kd.R_below (by (with_reducible repeat (first | apply Kd.R_alloc | apply Kd.R_drewN | apply Kd.R_drew)); exact HO153.out) hb); have n1_ := Aside0.mk (below_step (by repeat (first | (with_reducible first | exact HB.out | apply below_alloc | apply pw_below_drewN | apply below_drew1) | exact HB.out)) hb); clear HO153; clear HB; have HO153 := n0_; have HB := n1_; clear n0_ n1_; (try clear hb); (try clear hb2); (try clear hk); (try clear hi)) | (go_at_call 23; (with_reducible refine (chain_First.calls  t155 _ A4.out).mono ?_); rintro e w8 ⟨v156, rfl, ho0, hb⟩; have n0_ := Aside0.mk (Kd.R_elder' (by (with_reducible repeat (first | apply Kd.R_alloc | apply Kd.R_drewN | apply Kd.R_drew)); exact HO153.out) (Kd.R_base ho0) hb); have n1_ := Aside0.mk (Kd.R_lower (Kd.R_new' ho0 (Kd.R_lt (by (with_reducible repeat (first | apply Kd.R_alloc | apply Kd.R_drewN | apply Kd.R_drew)); exact HO153.out))) (below_size (by repeat (first | (with_reducible first | exact HB.out | apply below_alloc | apply pw_below_drewN | apply below_drew1) | exact HB.out)))); have n2_ := Aside0.mk (below_step (by repeat (first | (with_reducible first | exact HB.out | apply below_alloc | apply pw_below_drewN | apply below_drew1) | exact HB.out)) hb); clear HO153; clear HB; have HO153 := n0_; have HO157 := n1_; have HB := n2_; clear n0_ n1_ n2_; (try clear hb); (try clear hb2); (try clear hk); (try clear hi); (try clear ho0); obtain ⟨Ao9, co9, eo9⟩ := Kd.R_slice HO157.out; subst eo9))
    go_ret
    exact ⟨by first | rfl | (simp [errW_none, errW_some] <;> rfl) | (simp [*, errW_none, errW_some] <;> rfl), by repeat (first | (with_reducible first | exact HB.out | apply below_alloc | apply pw_below_drewN | apply below_drew1) | exact HB.out)⟩
  · replace c3 := Bool.eq_false_iff.mpr c3
    subst c3
    have H1 : (some false) = some r := by rw [if_neg (show ¬ (false = true) by decide)] at H; exact H
    clear H
    have H := H1
    clear H1
    obtain rfl := Option.some.inj H
    go_enter Try.func7, Try.ntmps7
    go_wp2_with (first | ((with_reducible refine gate_callee (f := 19) rfl ?_); refine goesL_ (some 1) rfl rfl Try.func19 (by kernel_rfl) rfl #[] rfl (by (try simp only [List.map_toArray, List.map_cons, List.map_nil]); first | done | rfl | (simp only [List.length_drop, List.length_take]; rfl)) ?_; (with_reducible refine (notaryref47_First.calls  t151 _ A1.out).mono ?_); rintro e w10 ⟨v152, rfl, ho0, hb⟩; refine ⟨_, rfl, ?_⟩; have n0_ := Aside0.mk (Kd.R_lower ho0 (below_size (by repeat (first | (with_reducible first | exact HB.out | apply below_alloc | apply pw_below_drewN | apply below_drew1) | exact HB.out)))); have n1_ := Aside0.mk (below_step (by repeat (first | (with_reducible first | exact HB.out | apply below_alloc | apply pw_below_drewN | apply below_drew1) | exact HB.out)) hb); clear HB; have HO153 := n0_; have HB := n1_; clear n0_ n1_; (try clear hb); (try clear hb2); (try clear hk); (try clear hi); (try clear ho0); obtain ⟨Ao11, co11, eo11⟩ := Kd.R_slice HO153.out; subst eo11) | ((with_reducible refine gate_callee (f := 12) rfl ?_); refine goesL_ (some 2) rfl rfl Try.func12 (by kernel_rfl) rfl #[.slice none 0 0, .slice none 0 0, .int .i64 0, .slice Ao11 t151.length co11] rfl (by (try simp only [List.map_toArray, List.map_cons, List.map_nil]); first | done | rfl | (simp only [List.length_drop, List.length_take]; rfl)) ?_; (refine (chain_Verify.calls k _ _ ([] : List Int) _ _ ([] : List Int) 0 _ _ t151 false _ ?side1 ?side2 ?side3 ?side4 ?side5 ?side6 A2.out).mono ?_); (case side1 => exact Kd.C_nil _ _); (case side2 => exact Nat.le_refl _); (case side3 => exact Kd.C_nil _ _); (case side4 => exact Nat.le_refl _); (case side5 => repeat (first | exact (Kd.R_reads' HO153.out).2.2 | (with_reducible refine Kd.C_alloc ?_ _) | (with_reducible refine Kd.C_drewN ?_ _) | (with_reducible refine Kd.C_drew ?_))); (case side6 => exact (Kd.R_reads' HO153.out).2.1); rintro e w12 ⟨rfl, hb⟩; refine ⟨_, rfl, ?_⟩; have n0_ := Aside0.mk (Kd.R_below (by (with_reducible repeat (first | apply Kd.R_alloc | apply Kd.R_drewN | apply Kd.R_drew)); exact HO153.out) hb); have n1_ := Aside0.mk (below_step (by repeat (first | (with_reducible first | exact HB.out | apply below_alloc | apply pw_below_drewN | apply below_drew1) | exact HB.out)) hb); clear HO153; clear HB; have HO153 := n0_; have HB := n1_; clear n0_ n1_; (try clear hb); (try clear hb2); (try clear hk); (try clear hi)))
    go_ret
    exact ⟨by first | rfl | (simp [errW_none, errW_some] <;> rfl) | (simp [*, errW_none, errW_some] <;> rfl), by repeat (first | (with_reducible first | exact HB.out | apply below_alloc | apply pw_below_drewN | apply below_drew1) | exact HB.out)⟩

/-! ### notaryref01_Same: function 11 -/
def notaryref01_Same.l0 : Nat → List Int → List Int → Int → Option (Bool)
  | 0, _, _, _ => none
  | k + 1, x0, x1, x5 => if x5 < (x0.length : Int) then (if 0 ≤ x5 then (if x5 < (x1.length : Int) then (if (rd x0 x5) = (rd x1 x5) then (notaryref01_Same.l0 k x0 x1 (wrap64 (x5 + 1))) else (some false)) else (none)) else (none)) else (some true)
def notaryref01_Same.f (k : Nat) (l0 : List Int) (l1 : List Int) : Option (Bool) := if (l0.length : Int) = (l1.length : Int) then (notaryref01_Same.l0 k l0 l1 0) else (some false)
theorem notaryref01_Same.mono_l : ∀ k, (∀ y0 y1 y2, LeO (notaryref01_Same.l0 k y0 y1 y2) (notaryref01_Same.l0 (k + 1) y0 y1 y2))
  | 0 => fun _ _ _ r h => by simp [notaryref01_Same.l0] at h
  | k + 1 => by
    have ih0 := notaryref01_Same.mono_l k
    · intro y0 y1 y2
      unfold notaryref01_Same.l0
      repeat' first
      | (with_reducible exact ih0 _ _ _)
      | (with_reducible exact LeO.refl _)
      | (with_reducible exact LeO.none _)
      | (with_reducible refine LeO.ite ?_ ?_)
      | (with_reducible refine LeO.bind ?_ (fun _ => ?_))
      | exact ih0 _ _ _
      | exact LeO.none _
      | refine LeO.ite ?_ ?_
      | refine LeO.bind ?_ (fun _ => ?_)
theorem notaryref01_Same.mono : ∀ a0 a1 k, LeO (notaryref01_Same.f k a0 a1) (notaryref01_Same.f (k + 1) a0 a1) := by
  intro a0 a1 k
  have ih0 := notaryref01_Same.mono_l k
  unfold notaryref01_Same.f
  repeat' first
      | (with_reducible exact ih0 _ _ _)
      | (with_reducible exact LeO.refl _)
      | (with_reducible exact LeO.none _)
      | (with_reducible refine LeO.ite ?_ ?_)
      | (with_reducible refine LeO.bind ?_ (fun _ => ?_))
      | exact ih0 _ _ _
      | exact LeO.none _
      | refine LeO.ite ?_ ?_
      | refine LeO.bind ?_ (fun _ => ?_)
set_option maxHeartbeats 8000000 in
set_option maxRecDepth 100000 in
theorem notaryref01_Same.calls (k : Nat) (A0 : Option Addr) (c0 : Nat) (l0 : List Int) (A1 : Option Addr) (c1 : Nat) (l1 : List Int) (r : Bool) (w : World) (hr0 : Kd.C (Kd.int .u8) w A0 l0.length l0) (hc0 : l0.length ≤ c0) (hr1 : Kd.C (Kd.int .u8) w A1 l1.length l1) (hc1 : l1.length ≤ c1) (h : notaryref01_Same.f k l0 l1 = some r) :
    Calls Try.prog 11 #[.slice A0 l0.length c0, .slice A1 l1.length c1] w fun e w' => e = .returned (.bool r) ∧ Drawn0 w w' := by
  have HR0 := Aside0.mk hr0
  have HC0 := Aside0.mk hc0
  clear hr0 hc0
  have HR1 := Aside0.mk hr1
  have HC1 := Aside0.mk hc1
  clear hr1 hc1
  have H : (if (l0.length : Int) = (l1.length : Int) then (notaryref01_Same.l0 k l0 l1 0) else (some false)) = some r := h
  clear h
  by_cases c3 : (l0.length : Int) = (l1.length : Int)
  · rw [if_pos c3] at H
    have c3b0 : ((l0.length : Int) == (l1.length : Int)) = true := beq_iff_eq.mpr c3
    have c3b1 : ((l0.length : Int) != (l1.length : Int)) = false := bne_eq_false_iff_eq.mpr c3
    have c3b2 : (l0.length == l1.length) = true := by first | simpa using c3 | (simp at c3 ⊢; omega)
    clear c3
    have H' := Aside0.mk H
    clear H
    go_enter Try.func11, Try.ntmps11
    go_wp2
    repeat (go_quiet (fail); try go_wp2)
    go_loopg [5] k (fun kq v5 w' => ∃ (x5_1 : Int), v5 = .int .i64 x5_1 ∧ Aside0 (notaryref01_Same.l0 kq l0 l1 x5_1 = some r) ∧ Aside0 (kq ≤ k) ∧ Drawn0 w w')
    case atStart => exact ⟨(0), (by first | rfl | (simp; done) | (simp [*]; done)), H', ⟨Nat.le_refl _⟩, by repeat (first | exact Drawn0.refl _ | apply Drawn0.step)⟩
    case round =>
      clear H'
      try clear c1
      try clear p2
      try clear c3
      try clear c3b0
      try clear c3b1
      try clear c3b2
      obtain ⟨x5_1, rfl, HA, HK1, ⟨m1, rfl⟩⟩ := hrel
      cases gk with
      | zero => exact absurd HA.out (by simp [notaryref01_Same.l0])
      | succ k1 =>
        have H := HA.out
        clear HA
        simp only [notaryref01_Same.l0] at H
        by_cases c4 : x5_1 < (l0.length : Int)
        · rw [if_pos c4] at H
          have c4b0 : decide (x5_1 < (l0.length : Int)) = true := decide_eq_true c4
          clear c4
          by_cases c5 : 0 ≤ x5_1
          · rw [if_pos c5] at H
            have c5b0 : decide (0 ≤ x5_1) = true := decide_eq_true c5
            clear c5
            by_cases c6 : x5_1 < (l1.length : Int)
            · rw [if_pos c6] at H
              have c6b0 : decide (x5_1 < (l1.length : Int)) = true := decide_eq_true c6
              clear c6
              by_cases c7 : (rd l0 x5_1) = (rd l1 x5_1)
              · rw [if_pos c7] at H
                have c7b0 : ((rd l0 x5_1) == (rd l1 x5_1)) = true := beq_iff_eq.mpr c7
                have c7b1 : ((rd l0 x5_1) != (rd l1 x5_1)) = false := bne_eq_false_iff_eq.mpr c7
                clear c7
                have H' := Aside0.mk H
                clear H
                have p158 : 0 ≤ (x5_1 : Int) := of_decide_eq_true (by first | (with_reducible assumption) | assumption)
                have q158 : x5_1 < (l0.length : Int) := of_decide_eq_true (by first | (with_reducible assumption) | assumption)
                obtain ⟨ad158, e158, hx158_0⟩ := Kd.at_int HR0.out x5_1 p158 q158
                cases e158
                replace p158 := eq_true p158
                replace q158 := eq_true q158
                have p159 : 0 ≤ (x5_1 : Int) := of_decide_eq_true (by first | (with_reducible assumption) | assumption)
                have q159 : x5_1 < (l1.length : Int) := of_decide_eq_true (by first | (with_reducible assumption) | assumption)
                obtain ⟨ad159, e159, hx159_0⟩ := Kd.at_int HR1.out x5_1 p159 q159
                cases e159
                replace p159 := eq_true p159
                replace q159 := eq_true q159
                go_wp2
                repeat (go_quiet (fail); try go_wp2)
                go_roundg k1
                case measure => have := HK1.out; omega
                case rel => exact ⟨(wrap64 (x5_1 + 1)), (by first | rfl | (simp; done) | (simp [*]; done)), H', ⟨by have := HK1.out; omega⟩, by repeat (first | exact Drawn0.refl _ | apply Drawn0.step)⟩
              · rw [if_neg c7] at H
                have c7b0 : ((rd l0 x5_1) == (rd l1 x5_1)) = false := beq_eq_false_iff_ne.mpr c7
                have c7b1 : ((rd l0 x5_1) != (rd l1 x5_1)) = true := bne_iff_ne.mpr c7
                obtain rfl := Option.some.inj H
                have p158 : 0 ≤ (x5_1 : Int) := of_decide_eq_true (by first | (with_reducible assumption) | assumption)
                have q158 : x5_1 < (l0.length : Int) := of_decide_eq_true (by first | (with_reducible assumption) | assumption)
                obtain ⟨ad158, e158, hx158_0⟩ := Kd.at_int HR0.out x5_1 p158 q158
                cases e158
                replace p158 := eq_true p158
                replace q158 := eq_true q158
                have p159 : 0 ≤ (x5_1 : Int) := of_decide_eq_true (by first | (with_reducible assumption) | assumption)
                have q159 : x5_1 < (l1.length : Int) := of_decide_eq_true (by first | (with_reducible assumption) | assumption)
                obtain ⟨ad159, e159, hx159_0⟩ := Kd.at_int HR1.out x5_1 p159 q159
                cases e159
                replace p159 := eq_true p159
                replace q159 := eq_true q159
                go_wp2
                repeat (go_quiet (fail); try go_wp2)
                go_ret
                exact ⟨by first | rfl | (simp; done) | (simp [*]; done), by repeat (first | exact Drawn0.refl _ | apply Drawn0.step)⟩
            · rw [if_neg c6] at H
              exact absurd H (by simp)
          · rw [if_neg c5] at H
            exact absurd H (by simp)
        · rw [if_neg c4] at H
          have c4b0 : decide (x5_1 < (l0.length : Int)) = false := decide_eq_false c4
          clear c4
          obtain rfl := Option.some.inj H
          go_wp2
          repeat (go_quiet (fail); try go_wp2)
          go_ret
          exact ⟨by first | rfl | (simp; done) | (simp [*]; done), by repeat (first | exact Drawn0.refl _ | apply Drawn0.step)⟩
  · rw [if_neg c3] at H
    have c3b0 : ((l0.length : Int) == (l1.length : Int)) = false := beq_eq_false_iff_ne.mpr c3
    have c3b1 : ((l0.length : Int) != (l1.length : Int)) = true := bne_iff_ne.mpr c3
    have c3b2 : (l0.length == l1.length) = false := by first | simpa using c3 | (simp at c3 ⊢; omega)
    obtain rfl := Option.some.inj H
    go_enter Try.func11, Try.ntmps11
    go_wp2
    repeat (go_quiet (fail); try go_wp2)
    go_ret
    exact ⟨by first | rfl | (simp; done) | (simp [*]; done), by repeat (first | exact Drawn0.refl _ | apply Drawn0.step)⟩

/-! ### bytes_Equal: function 33 -/
def bytes_Equal.f (l0 : List Int) (l1 : List Int) : Option (Bool) := some ((strOfNums l0).toList == (strOfNums l1).toList)
set_option maxHeartbeats 8000000 in
set_option maxRecDepth 100000 in
theorem bytes_Equal.calls (A0 : Option Addr) (c0 : Nat) (l0 : List Int) (A1 : Option Addr) (c1 : Nat) (l1 : List Int) (r : Bool) (w : World) (hr0 : Kd.C (Kd.int .u8) w A0 l0.length l0) (hc0 : l0.length ≤ c0) (hr1 : Kd.C (Kd.int .u8) w A1 l1.length l1) (hc1 : l1.length ≤ c1) (h : bytes_Equal.f l0 l1 = some r) :
    Calls Try.prog 33 #[.slice A0 l0.length c0, .slice A1 l1.length c1] w fun e w' => e = .returned (.bool r) ∧ Drawn0 w w' := by
  have HR0 := Aside0.mk hr0
  have HC0 := Aside0.mk hc0
  clear hr0 hc0
  have HR1 := Aside0.mk hr1
  have HC1 := Aside0.mk hc1
  clear hr1 hc1
  have H : (some ((strOfNums l0).toList == (strOfNums l1).toList)) = some r := h
  clear h
  obtain rfl := Option.some.inj H
  have hcv3 := Kd.C_string (P := Try.prog) (A := A0) (c := c0) Try.underlying22 Try.underlying5 Try.underlying9 HR0.out
  have hcv4 := Kd.C_string (P := Try.prog) (A := A1) (c := c1) Try.underlying22 Try.underlying5 Try.underlying9 HR1.out
  go_enter Try.func33, Try.ntmps33
  go_wp2
  go_ret
  exact ⟨by first | rfl | (simp; done) | (simp [*]; done), by repeat (first | exact Drawn0.refl _ | apply Drawn0.step)⟩

/-! ### chain_Clash: function 14 (given) -/
def chain_Clash.see (k : Nat) (s : List S49) (kd : Int) (b m t : List Int) : Option (List S49 × Int) :=
  if s.length < 1000000000000 then some (s ++ [⟨⟨kd, b⟩, m, t⟩], 0) else none
def chain_Clash.z : S49 := ⟨⟨0, []⟩, [], []⟩
def chain_Clash.l : Nat → List S49 → List S49 → Int → Option (List Int × List Int × Bool)
  | 0, _, _, _ => none
  | k + 1, x, y, i => if 0 ≤ i then (bytes_Equal.f (x.getD i.toNat chain_Clash.z).f2 (y.getD i.toNat chain_Clash.z).f2).bind fun c => (if c = true then (bytes_Equal.f (x.getD i.toNat chain_Clash.z).f1 (y.getD i.toNat chain_Clash.z).f1).bind fun e => (if e = true then chain_Clash.l k x y (i - 1) else some ((x.getD i.toNat chain_Clash.z).f1, (y.getD i.toNat chain_Clash.z).f1, true)) else some ([], [], false)) else some ([], [], false)
def chain_Clash.f (k : Nat) (a b : List Int) : Option (List Int × List Int × Bool) :=
  (chain_along.f chain_Clash.see k a []).bind fun x => (chain_along.f chain_Clash.see k b []).bind fun y => if x.2 = 0 then (if y.2 = 0 then (if x.1.length = y.1.length then chain_Clash.l k x.1 y.1 ((x.1.length : Int) - 1) else some ([], [], false)) else some ([], [], false)) else some ([], [], false)
theorem chain_Clash.mono_l : ∀ k a0 a1 a2, LeO (chain_Clash.l k a0 a1 a2) (chain_Clash.l (k + 1) a0 a1 a2)
  | 0, _, _, _ => fun r h => by simp [chain_Clash.l] at h
  | k + 1, a0, a1, a2 => by
    have ih := chain_Clash.mono_l k
    rw [chain_Clash.l, chain_Clash.l]
    refine LeO.ite (LeO.bind (LeO.refl _) fun c => LeO.ite (LeO.bind (LeO.refl _) fun e => LeO.ite (ih _ _ _) (LeO.refl _)) (LeO.refl _)) (LeO.refl _)
theorem chain_Clash.mono (a0 a1 : List Int) (k : Nat) : LeO (chain_Clash.f k a0 a1) (chain_Clash.f (k + 1) a0 a1) :=
  LeO.bind (chain_along.mono _ (fun _ _ _ _ _ _ => LeO.refl _) _ _ _) fun x => LeO.bind (chain_along.mono _ (fun _ _ _ _ _ _ => LeO.refl _) _ _ _) fun y => LeO.ite (LeO.ite (LeO.ite (chain_Clash.mono_l _ _ _ _) (LeO.refl _)) (LeO.refl _)) (LeO.refl _)
/-- the variable that the closure holds: the frames -/
def chain_Clash.I (B g : Nat) (W : World) (s : List S49) (O : Nat → Prop) : Prop :=
  ∃ v, W.heap[g]? = some (.cells #[v] 56 (0, 0)) ∧ Kd.N k49 49 W B (fun q => B + 2 ≤ q) v s ∧ ∀ q, O q ↔ q = g ∨ some q = v.ownBlock
theorem chain_Clash.I_below {B g : Nat} (W W' : World) (s : List S49) (O : Nat → Prop) (h : chain_Clash.I B g W s O) (hb : Below W.heap.size W W') : chain_Clash.I B g W' s O := by
  obtain ⟨v, h1, hN, hO⟩ := h
  exact ⟨v, blk_below h1 hb, Kd.N_below hN hb, hO⟩
theorem chain_Clash.I_own {B g : Nat} (hg : B ≤ g) (W : World) (s : List S49) (O : Nat → Prop) (h : chain_Clash.I B g W s O) : ∀ q, O q → B ≤ q ∧ q < W.heap.size := by
  obtain ⟨v, h1, hN, hO⟩ := h
  intro q hq
  rcases (hO q).1 hq with rfl | he
  · exact ⟨hg, blk_lt h1⟩
  · exact ⟨Kd.N_base hN q he.symm, Kd.N_lt hN q he.symm⟩
set_option maxHeartbeats 16000000 in
set_option maxRecDepth 100000 in
theorem chain_Clash1.calls (B g : Nat) (hgB : B ≤ g) (hg2 : g < B + 2)
    (k : Nat) (s : List S49) (kd : Int) (b m t : List Int) (r : List S49 × Int) (W : World) (O : Nat → Prop) (Ab : Option Addr) (cb : Nat) (Am : Option Addr) (cm : Nat) (At : Option Addr) (ct : Nat) (hi : chain_Clash.I B g W s O) (hlb : b.length ≤ cb) (hlm : m.length ≤ cm) (hlt : t.length ≤ ct)
    (hB2 : B + 2 ≤ W.heap.size) (hb : chain_along.Off W (B + 2) O Ab b) (hm : chain_along.Off W (B + 2) O Am m) (ht : chain_along.Off W (B + 2) O At t) (h : chain_Clash.see k s kd b m t = some r) :
    Calls Try.prog 31 (#[.agg #[.int .i64 kd, .slice Ab b.length cb, .slice Am m.length cm, .slice At t.length ct]] ++ #[.pointer (some ⟨g, 0, none⟩)]) W (chain_along.Post B (chain_Clash.I B g) W O r) := by
  have hu := Try.underlying42
  have hu2 := Try.underlying49
  obtain ⟨v, h1, hN, hO⟩ := hi
  unfold chain_Clash.see at h
  by_cases hlen : s.length < 1000000000000
  case neg => rw [if_neg hlen] at h; exact absurd h (by simp)
  rw [if_pos hlen] at h
  obtain rfl := Option.some.inj h
  have hl1 := blk_lt h1
  have HLEN := Aside0.mk hlen
  have HLB := Aside0.mk hlb
  have HLM := Aside0.mk hlm
  have HLT := Aside0.mk hlt
  have HOB := Aside0.mk hb
  have HOM := Aside0.mk hm
  have HOT := Aside0.mk ht
  have HH1 := Aside0.mk h1
  have HN := Aside0.mk hN
  have HOO := Aside0.mk hO
  have L := Aside0.mk (And.intro hgB (And.intro hg2 (And.intro hl1 hB2)))
  have q1 := Kd.N_ne hN h1 (by decide)
  have QX := Aside0.mk q1
  have y1 : (W.alloc (.cells #[.int .i64 kd, .slice Ab b.length cb, .slice Am m.length cm, .slice At t.length ct] 49)).cell? ⟨g, 0, none⟩ = some v := (blk_cell (blk_alloc h1 _) 0).trans rfl
  have HWS : Aside0 ((W.alloc (.cells #[.int .i64 kd, .slice Ab b.length cb, .slice Am m.length cm, .slice At t.length ct] 49)).heap.size = W.heap.size + 1) := ⟨by simp⟩
  have hfk : Aside0 (Kd.FK k49 (W.alloc (.cells #[.int .i64 kd, .slice Ab b.length cb, .slice Am m.length cm, .slice At t.length ct] 49)) (fun q => B + 2 ≤ q ∧ ¬ O q) (⟨⟨kd, b⟩, m, t⟩ : S49) [.int .i64 kd, .slice Ab b.length cb, .slice Am m.length cm, .slice At t.length ct]) := ⟨k49_mkF _ _ ⟨⟨kd, b⟩, m, t⟩ hlb (Kd.F_alloc hb _) hlm (Kd.F_alloc hm _) hlt (Kd.F_alloc ht _)⟩
  clear hlb hlm hlt hb hm ht h1 hN hO h hgB hg2 hl1 hB2 hlen q1
  simp only [List.append_toArray]
  go_enter Try.func31, Try.ntmps31
  go_wp2_with ((with_reducible refine gate_builtin (b := .append) (xs := #[.tmp 4, .tmp 6]) rfl ?_); at_builtin; refine Kd.N_append k49 (w0 := W.alloc (.cells #[.int .i64 kd, .slice Ab b.length cb, .slice Am m.length cm, .slice At t.length ct] 49)) B rfl (.tmp 4) (.tmp 6) 56 49 (.agg #[(.int .i64 0), (.slice none 0 0), (.slice none 0 0), (.slice none 0 0)]) 80 rfl Try.underlying56 info49 rfl (by decide) (by omega) v s (⟨⟨kd, b⟩, m, t⟩ : S49) [.int .i64 kd, .slice Ab b.length cb, .slice Am m.length cm, .slice At t.length ct] (fun q => B + 2 ≤ q) (fun q => B + 2 ≤ q ∧ ¬ O q) rfl (by rw [HWS.out]; rfl) hfk.out (fun q hq => ⟨hq.1, fun e => hq.2 ((HOO.out q).2 (.inr e))⟩) (fun q hq => ?fr) (Kd.N_alloc HN.out _) (Below.refl _ _) ?bs (by have := HLEN.out; omega) ?_; (case fr => have h3 := L.out; simp at hq; omega); (case bs => have h3 := L.out; simp; omega); intro v1 w7 hn1 _ hg1 hat1; (obtain ⟨A7, n7, c7, e7⟩ : ∃ A n c, v1 = .slice A n c := by obtain ⟨A, c, e⟩ := Kd.N_slice hn1; exact ⟨A, _, c, e⟩); subst e7; have HN7 := Aside0.mk hn1; have HGR := Aside0.mk hg1; have HAT := Aside0.mk hat1; (have k1 := blk_grown (blk_alloc HH1.out _) hg1 QX.out); (have K1 := Aside0.mk k1); (have f1 : w7.frozen? ⟨g, 0, none⟩ = false := blk_frozen k1 0); (have y1' : w7.cell? ⟨g, 0, none⟩ = some v := (blk_cell k1 0).trans rfl); clear hn1 hg1 hat1 k1)
  go_ret
  obtain ⟨l1, l2, l3, l4⟩ := L.out
  have hsz : (W.alloc (.cells #[.int .i64 kd, .slice Ab b.length cb, .slice Am m.length cm, .slice At t.length ct] 49)).heap.size = W.heap.size + 1 := by simp
  have hO7 : ∀ q, q < W.heap.size → some q = (Value.slice A7 n7 c7).ownBlock → some q = v.ownBlock := fun q hq he => by
    rcases HAT.out with h | ⟨x, h, hx⟩
    · exact he.trans h
    · rw [h] at he
      have := Option.some.inj he
      omega
  have hk : Kept W (w7.setCell ⟨g, 0, none⟩ (.slice A7 n7 c7)) O :=
    (Kept.of_grown HGR.out (Kept.of_below (below_alloc (Below.refl _ _) _) O) (fun q hq => .inl ((HOO.out q).2 (.inr hq.symm)))).setCell (p := ⟨g, 0, none⟩) (.inl ((HOO.out g).2 (.inl rfl))) _
  have hbb : Below B W (w7.setCell ⟨g, 0, none⟩ (.slice A7 n7 c7)) :=
    (((below_alloc (Below.refl _ _) _).mono (by omega)).grown HGR.out (by omega) (fun q hq => Kd.N_base HN.out q hq)).setCell (p := ⟨g, 0, none⟩) (by show B ≤ g; omega) _
  refine ⟨fun q => q = g ∨ some q = (Value.slice A7 n7 c7).ownBlock, rfl, ⟨_, blk_put K1.out 0 _ rfl, Kd.N_far HN7.out (fun q hq => ?_) _, fun q => Iff.rfl⟩, hk, hbb, fun q hq ho => (HOO.out q).2 (ho.imp_right (hO7 q hq))⟩
  show q ≠ g
  have hq' : B + 2 ≤ q := hq
  omega
theorem chain_Clash1.goes (c1 : Value) (z : Value) (w : World) : (callFunc 31 (#[z] ++ #[c1])).run Try.prog w = .ok (.enter 31 (#[z] ++ #[c1])) w := by go_simp
set_option maxHeartbeats 16000000 in
set_option maxRecDepth 100000 in
theorem chain_Clash2.calls (B g : Nat) (hgB : B ≤ g) (hg2 : g < B + 2)
    (k : Nat) (s : List S49) (kd : Int) (b m t : List Int) (r : List S49 × Int) (W : World) (O : Nat → Prop) (Ab : Option Addr) (cb : Nat) (Am : Option Addr) (cm : Nat) (At : Option Addr) (ct : Nat) (hi : chain_Clash.I B g W s O) (hlb : b.length ≤ cb) (hlm : m.length ≤ cm) (hlt : t.length ≤ ct)
    (hB2 : B + 2 ≤ W.heap.size) (hb : chain_along.Off W (B + 2) O Ab b) (hm : chain_along.Off W (B + 2) O Am m) (ht : chain_along.Off W (B + 2) O At t) (h : chain_Clash.see k s kd b m t = some r) :
    Calls Try.prog 32 (#[.agg #[.int .i64 kd, .slice Ab b.length cb, .slice Am m.length cm, .slice At t.length ct]] ++ #[.pointer (some ⟨g, 0, none⟩)]) W (chain_along.Post B (chain_Clash.I B g) W O r) := by
  have hu := Try.underlying42
  have hu2 := Try.underlying49
  obtain ⟨v, h1, hN, hO⟩ := hi
  unfold chain_Clash.see at h
  by_cases hlen : s.length < 1000000000000
  case neg => rw [if_neg hlen] at h; exact absurd h (by simp)
  rw [if_pos hlen] at h
  obtain rfl := Option.some.inj h
  have hl1 := blk_lt h1
  have HLEN := Aside0.mk hlen
  have HLB := Aside0.mk hlb
  have HLM := Aside0.mk hlm
  have HLT := Aside0.mk hlt
  have HOB := Aside0.mk hb
  have HOM := Aside0.mk hm
  have HOT := Aside0.mk ht
  have HH1 := Aside0.mk h1
  have HN := Aside0.mk hN
  have HOO := Aside0.mk hO
  have L := Aside0.mk (And.intro hgB (And.intro hg2 (And.intro hl1 hB2)))
  have q1 := Kd.N_ne hN h1 (by decide)
  have QX := Aside0.mk q1
  have y1 : (W.alloc (.cells #[.int .i64 kd, .slice Ab b.length cb, .slice Am m.length cm, .slice At t.length ct] 49)).cell? ⟨g, 0, none⟩ = some v := (blk_cell (blk_alloc h1 _) 0).trans rfl
  have HWS : Aside0 ((W.alloc (.cells #[.int .i64 kd, .slice Ab b.length cb, .slice Am m.length cm, .slice At t.length ct] 49)).heap.size = W.heap.size + 1) := ⟨by simp⟩
  have hfk : Aside0 (Kd.FK k49 (W.alloc (.cells #[.int .i64 kd, .slice Ab b.length cb, .slice Am m.length cm, .slice At t.length ct] 49)) (fun q => B + 2 ≤ q ∧ ¬ O q) (⟨⟨kd, b⟩, m, t⟩ : S49) [.int .i64 kd, .slice Ab b.length cb, .slice Am m.length cm, .slice At t.length ct]) := ⟨k49_mkF _ _ ⟨⟨kd, b⟩, m, t⟩ hlb (Kd.F_alloc hb _) hlm (Kd.F_alloc hm _) hlt (Kd.F_alloc ht _)⟩
  clear hlb hlm hlt hb hm ht h1 hN hO h hgB hg2 hl1 hB2 hlen q1
  simp only [List.append_toArray]
  go_enter Try.func32, Try.ntmps32
  go_wp2_with ((with_reducible refine gate_builtin (b := .append) (xs := #[.tmp 4, .tmp 6]) rfl ?_); at_builtin; refine Kd.N_append k49 (w0 := W.alloc (.cells #[.int .i64 kd, .slice Ab b.length cb, .slice Am m.length cm, .slice At t.length ct] 49)) B rfl (.tmp 4) (.tmp 6) 56 49 (.agg #[(.int .i64 0), (.slice none 0 0), (.slice none 0 0), (.slice none 0 0)]) 80 rfl Try.underlying56 info49 rfl (by decide) (by omega) v s (⟨⟨kd, b⟩, m, t⟩ : S49) [.int .i64 kd, .slice Ab b.length cb, .slice Am m.length cm, .slice At t.length ct] (fun q => B + 2 ≤ q) (fun q => B + 2 ≤ q ∧ ¬ O q) rfl (by rw [HWS.out]; rfl) hfk.out (fun q hq => ⟨hq.1, fun e => hq.2 ((HOO.out q).2 (.inr e))⟩) (fun q hq => ?fr) (Kd.N_alloc HN.out _) (Below.refl _ _) ?bs (by have := HLEN.out; omega) ?_; (case fr => have h3 := L.out; simp at hq; omega); (case bs => have h3 := L.out; simp; omega); intro v1 w7 hn1 _ hg1 hat1; (obtain ⟨A7, n7, c7, e7⟩ : ∃ A n c, v1 = .slice A n c := by obtain ⟨A, c, e⟩ := Kd.N_slice hn1; exact ⟨A, _, c, e⟩); subst e7; have HN7 := Aside0.mk hn1; have HGR := Aside0.mk hg1; have HAT := Aside0.mk hat1; (have k1 := blk_grown (blk_alloc HH1.out _) hg1 QX.out); (have K1 := Aside0.mk k1); (have f1 : w7.frozen? ⟨g, 0, none⟩ = false := blk_frozen k1 0); (have y1' : w7.cell? ⟨g, 0, none⟩ = some v := (blk_cell k1 0).trans rfl); clear hn1 hg1 hat1 k1)
  go_ret
  obtain ⟨l1, l2, l3, l4⟩ := L.out
  have hsz : (W.alloc (.cells #[.int .i64 kd, .slice Ab b.length cb, .slice Am m.length cm, .slice At t.length ct] 49)).heap.size = W.heap.size + 1 := by simp
  have hO7 : ∀ q, q < W.heap.size → some q = (Value.slice A7 n7 c7).ownBlock → some q = v.ownBlock := fun q hq he => by
    rcases HAT.out with h | ⟨x, h, hx⟩
    · exact he.trans h
    · rw [h] at he
      have := Option.some.inj he
      omega
  have hk : Kept W (w7.setCell ⟨g, 0, none⟩ (.slice A7 n7 c7)) O :=
    (Kept.of_grown HGR.out (Kept.of_below (below_alloc (Below.refl _ _) _) O) (fun q hq => .inl ((HOO.out q).2 (.inr hq.symm)))).setCell (p := ⟨g, 0, none⟩) (.inl ((HOO.out g).2 (.inl rfl))) _
  have hbb : Below B W (w7.setCell ⟨g, 0, none⟩ (.slice A7 n7 c7)) :=
    (((below_alloc (Below.refl _ _) _).mono (by omega)).grown HGR.out (by omega) (fun q hq => Kd.N_base HN.out q hq)).setCell (p := ⟨g, 0, none⟩) (by show B ≤ g; omega) _
  refine ⟨fun q => q = g ∨ some q = (Value.slice A7 n7 c7).ownBlock, rfl, ⟨_, blk_put K1.out 0 _ rfl, Kd.N_far HN7.out (fun q hq => ?_) _, fun q => Iff.rfl⟩, hk, hbb, fun q hq ho => (HOO.out q).2 (ho.imp_right (hO7 q hq))⟩
  show q ≠ g
  have hq' : B + 2 ≤ q := hq
  omega
theorem chain_Clash2.goes (c1 : Value) (z : Value) (w : World) : (callFunc 32 (#[z] ++ #[c1])).run Try.prog w = .ok (.enter 32 (#[z] ++ #[c1])) w := by go_simp
def chain_Clash.Post (w : World) (r1 r2 : List Int) (r3 : Bool) (e : Ending) (w' : World) : Prop :=
  ∃ v0_ v1_ : Value, e = .returned (.tuple #[v0_, v1_, .bool r3]) ∧ Kd.V (Kd.int .u8) 5 w' w.heap.size (fun k_ => (w.heap.size ≤ k_)) v0_ r1 ∧ Kd.V (Kd.int .u8) 5 w' w.heap.size (fun k_ => (w.heap.size ≤ k_)) v1_ r2 ∧ Below w.heap.size w w'
/-- the element at a place: its cells, and what they lead to -/
theorem chain_Clash.elem {W : World} {B : Nat} {A : Option Addr} {n c : Nat} {x : List S49} (h : Kd.N k49 49 W B (fun q => B + 2 ≤ q) (.slice A n c) x) (j : Nat) (hj : j < n) :
    ∃ g Am cm At ct, A = some ⟨g, 0, none⟩ ∧ W.cell? ⟨g, j * 4 + 2, none⟩ = some (.slice Am (x.getD j chain_Clash.z).f1.length cm) ∧ W.cell? ⟨g, j * 4 + 3, none⟩ = some (.slice At (x.getD j chain_Clash.z).f2.length ct) ∧ (x.getD j chain_Clash.z).f1.length ≤ cm ∧ (x.getD j chain_Clash.z).f2.length ≤ ct ∧
      Kd.F (Kd.int .u8) W (fun q => B ≤ q) Am (x.getD j chain_Clash.z).f1.length (x.getD j chain_Clash.z).f1 ∧ Kd.F (Kd.int .u8) W (fun q => B ≤ q) At (x.getD j chain_Clash.z).f2.length (x.getD j chain_Clash.z).f2 := by
  have hn := (Kd.N_reads' h).1
  obtain ⟨g, cap, e, _, _, _⟩ := Kd.N_form h (by omega)
  injection e with e1 e2 e3
  subst e1
  obtain ⟨cs, hcl, hfk, hcell, _⟩ := Kd.N_elem h chain_Clash.z (j : Int) (by omega) (by omega)
  rw [Int.toNat_natCast] at hfk hcell
  obtain ⟨A1, c1, A2, c2, A3, c3, rfl, l1, f1, l2, f2, l3, f3⟩ := k49_openF hfk
  exact ⟨g, A2, c2, A3, c3, rfl, hcell 2 _ rfl, hcell 3 _ rfl, l2, l3, Kd.F_mono f2 (fun q hq => by have := hq.1; omega), Kd.F_mono f3 (fun q hq => by have := hq.1; omega)⟩
set_option maxHeartbeats 16000000 in
set_option maxRecDepth 100000 in
theorem chain_Clash.post (k : Nat) (A0 : Option Addr) (c0 : Nat) (l0 : List Int) (A1 : Option Addr) (c1 : Nat) (l1 : List Int) (r1 : List Int) (r2 : List Int) (r3 : Bool) (w : World) (hr0 : Kd.C (Kd.int .u8) w A0 l0.length l0) (hc0 : l0.length ≤ c0) (hr1 : Kd.C (Kd.int .u8) w A1 l1.length l1) (hc1 : l1.length ≤ c1) (h : chain_Clash.f k l0 l1 = some (r1, r2, r3)) :
    Calls Try.prog 14 #[.slice A0 l0.length c0, .slice A1 l1.length c1] w (chain_Clash.Post w r1 r2 r3) := by
  unfold chain_Clash.f at h
  obtain ⟨⟨x, ex⟩, hx, h⟩ := Option.bind_eq_some_iff.mp h
  obtain ⟨⟨y, ey⟩, hy, h⟩ := Option.bind_eq_some_iff.mp h
  simp only at h
  have hz2 : ((w.alloc (.cells #[.slice none 0 0] 56)).alloc (.cells #[.slice none 0 0] 56)).heap.size = w.heap.size + 2 := by simp
  have hbw : Below w.heap.size w ((w.alloc (.cells #[.slice none 0 0] 56)).alloc (.cells #[.slice none 0 0] 56)) := below_alloc (below_alloc (Below.refl _ _) _) _
  have h7 : ((w.alloc (.cells #[.slice none 0 0] 56)).alloc (.cells #[.slice none 0 0] 56)).heap[w.heap.size]? = some (.cells #[.slice none 0 0] 56 (0, 0)) := blk_alloc (blk_new w _) _
  have h8 : ((w.alloc (.cells #[.slice none 0 0] 56)).alloc (.cells #[.slice none 0 0] 56)).heap[w.heap.size + 1]? = some (.cells #[.slice none 0 0] 56 (0, 0)) := by
    have := blk_new (w.alloc (.cells #[.slice none 0 0] 56)) (.cells #[.slice none 0 0] 56)
    simpa using this
  have HI1 : Aside0 (chain_Clash.I w.heap.size w.heap.size ((w.alloc (.cells #[.slice none 0 0] 56)).alloc (.cells #[.slice none 0 0] 56)) [] (fun q => q = w.heap.size ∨ some q = (Value.slice none 0 0).ownBlock)) := ⟨⟨_, h7, Kd.N_nil _ _ _ _ _, fun q => Iff.rfl⟩⟩
  have H8 := Aside0.mk h8
  have HB0 := Aside0.mk hbw
  have HZ := Aside0.mk hz2
  have HR0 := Aside0.mk (Kd.F_below (Kd.C_F (Kd.heap_int .u8) hr0) hbw)
  have HR1 := Aside0.mk (Kd.F_below (Kd.C_F (Kd.heap_int .u8) hr1) hbw)
  have HC0 := Aside0.mk hc0
  have HC1 := Aside0.mk hc1
  have HX := Aside0.mk hx
  have HY := Aside0.mk hy
  have H := Aside0.mk h
  clear hr0 hc0 hr1 hc1 hx hy h hz2 hbw h7 h8
  have HG1 : Aside0 (∀ (c1 : Value) (z : Value) (w : World), (callFunc 31 (#[z] ++ #[c1])).run Try.prog w = .ok (.enter 31 (#[z] ++ #[c1])) w) := ⟨chain_Clash1.goes⟩
  have HG2 : Aside0 (∀ (c1 : Value) (z : Value) (w : World), (callFunc 32 (#[z] ++ #[c1])).run Try.prog w = .ok (.enter 32 (#[z] ++ #[c1])) w) := ⟨chain_Clash2.goes⟩
  go_enter Try.func14, Try.ntmps14
  go_wp2_with (first | (go_at_call 25; (with_reducible refine (chain_along.calls chain_Clash.see 31 #[.pointer (some ⟨w.heap.size, 0, none⟩)] w.heap.size (w.heap.size + 2) (chain_Clash.I w.heap.size w.heap.size) chain_Clash.I_below (chain_Clash.I_own (Nat.le_refl _)) (fun z W => HG1.out _ z W) (chain_Clash1.calls w.heap.size w.heap.size (Nat.le_refl _) (by omega)) k A0 c0 l0 [] _ (x, ex) _ HR0.out HC0.out (by rw [HZ.out]; omega) (by rw [HZ.out]; exact Nat.le_refl _) HI1.out HX.out).mono ?_); rintro e w3 ⟨O3, rfl, hi3, hk3, hb3, ho3⟩; have HIX := Aside0.mk hi3; have HK3 := Aside0.mk hk3; have HB3 := Aside0.mk hb3; have HO3 := Aside0.mk ho3; clear hi3 hk3 hb3 ho3))
  have HI3 : Aside0 (chain_Clash.I w.heap.size (w.heap.size + 1) w3 [] (fun q => q = w.heap.size + 1 ∨ some q = (Value.slice none 0 0).ownBlock)) := ⟨by
    have hne : ¬ (w.heap.size + 1 = w.heap.size ∨ some (w.heap.size + 1) = (Value.slice none 0 0).ownBlock) := by
      rintro (e | e)
      · omega
      · simp [Value.ownBlock] at e
    exact ⟨_, (HK3.out.2 _ (by rw [HZ.out]; omega) hne).trans H8.out, Kd.N_nil _ _ _ _ _, fun q => Iff.rfl⟩⟩
  have HS3 : Aside0 (w.heap.size + 2 ≤ w3.heap.size) := ⟨by have := HK3.out.1; rw [HZ.out] at this; exact this⟩
  have HR1' : Aside0 (Kd.F (Kd.int .u8) w3 (fun q => q < w.heap.size) A1 l1.length l1) := ⟨Kd.F_kept HR1.out HK3.out (fun q hq ho => by
    rcases ho with e | e
    · omega
    · simp [Value.ownBlock] at e)⟩
  refine (chain_along.calls chain_Clash.see 32 #[.pointer (some ⟨w.heap.size + 1, 0, none⟩)] w.heap.size (w.heap.size + 2) (chain_Clash.I w.heap.size (w.heap.size + 1)) chain_Clash.I_below (chain_Clash.I_own (Nat.le_succ _)) (fun z W => HG2.out _ z W) (chain_Clash2.calls w.heap.size (w.heap.size + 1) (Nat.le_succ _) (by omega)) k A1 c1 l1 [] _ (y, ey) _ HR1'.out HC1.out (by have := HS3.out; omega) HS3.out HI3.out HY.out).mono ?_
  rintro e w4 ⟨O4, rfl, hi4, hk4, hb4, ho4⟩
  obtain ⟨vx, k7, nx, ox⟩ := HIX.out
  obtain ⟨vy, k8, ny, oy⟩ := hi4
  have hnk : ∀ q, w.heap.size + 2 ≤ q → ¬ (q = w.heap.size + 1 ∨ some q = (Value.slice none 0 0).ownBlock) := by
    rintro q hq (e | e)
    · omega
    · simp [Value.ownBlock] at e
  have k7' : w4.heap[w.heap.size]? = some (.cells #[vx] 56 (0, 0)) := blk_kept k7 hk4 (by
    rintro (e | e)
    · omega
    · simp [Value.ownBlock] at e)
  have nx' := Kd.N_kept nx hk4 hnk
  obtain ⟨Ax, cx, rfl⟩ := Kd.N_slice nx'
  obtain ⟨Ay, cy, rfl⟩ := Kd.N_slice ny
  have z7 : w4.cell? ⟨w.heap.size, 0, none⟩ = some (.slice Ax x.length cx) := (blk_cell k7' 0).trans rfl
  have z8 : w4.cell? ⟨w.heap.size + 1, 0, none⟩ = some (.slice Ay y.length cy) := (blk_cell k8 0).trans rfl
  have HNX := Aside0.mk nx'
  have HNY := Aside0.mk ny
  have HBW : Aside0 (Below w.heap.size w w4) := ⟨(HB0.out.trans HB3.out).trans hb4⟩
  have HXL := Aside0.mk (Kd.N_reads' nx').2.2.2.1
  clear hk4 hb4 ho4 k7 k7' k8 nx nx' ny ox oy hnk HIX HI3 HS3 HR1' HR1 HR0 HK3 HB3 HO3 HG1 HG2 HI1 H8 HB0 HZ
  by_cases d1 : ex = 0
  case neg =>
    have d1b : (ex != 0) = true := by simpa using d1
    have e1 := H.out
    rw [if_neg d1] at e1
    obtain ⟨rfl, rfl, rfl⟩ : [] = r1 ∧ [] = r2 ∧ false = r3 := by simpa using e1
    clear d1 e1 H h
    go_wp2
    go_ret3
    exact ⟨_, _, rfl, Kd.R_V (Kd.R_nil _ _ _ 0 _), Kd.R_V (Kd.R_nil _ _ _ 0 _), HBW.out⟩
  subst d1
  by_cases d2 : ey = 0
  case neg =>
    have d2b : (ey != 0) = true := by simpa using d2
    have e1 := H.out
    rw [if_pos rfl, if_neg d2] at e1
    obtain ⟨rfl, rfl, rfl⟩ : [] = r1 ∧ [] = r2 ∧ false = r3 := by simpa using e1
    clear d2 e1 H h
    go_wp2
    go_ret3
    exact ⟨_, _, rfl, Kd.R_V (Kd.R_nil _ _ _ 0 _), Kd.R_V (Kd.R_nil _ _ _ 0 _), HBW.out⟩
  subst d2
  by_cases d3 : x.length = y.length
  case neg =>
    have d3b : ((x.length : Int) != (y.length : Int)) = true := by simp; omega
    have d3c : (x.length != y.length) = true := by simpa using d3
    have e1 := H.out
    rw [if_pos rfl, if_pos rfl, if_neg d3] at e1
    obtain ⟨rfl, rfl, rfl⟩ : [] = r1 ∧ [] = r2 ∧ false = r3 := by simpa using e1
    clear d3 e1 H h
    go_wp2
    go_ret3
    exact ⟨_, _, rfl, Kd.R_V (Kd.R_nil _ _ _ 0 _), Kd.R_V (Kd.R_nil _ _ _ 0 _), HBW.out⟩
  have d3b : ((x.length : Int) != (y.length : Int)) = false := by simp; omega
  have d3c : (x.length != y.length) = false := by simpa using d3
  have D3 := Aside0.mk d3
  have e1 := H.out
  rw [if_pos rfl, if_pos rfl, if_pos d3] at e1
  have HE := Aside0.mk e1
  have hw0 : IntKind.i64.wrap ((x.length : Int) - 1) = (x.length : Int) - 1 := IntWalk.i64_in _ (by have := HXL.out; omega)
  clear d3 e1 H h
  go_wp2
  clear hw0
  go_loopg [11] k (fun q v11 w' => ∃ i : Int, v11 = .int .i64 i ∧ i < (x.length : Int) ∧ -1 ≤ i ∧ Aside0 (chain_Clash.l q x y i = some (r1, r2, r3)) ∧ ∃ nd, w' = w4.drewN nd)
  case atStart => exact ⟨_, rfl, by omega, by omega, HE, 0, rfl⟩
  case round =>
    clear HE
    obtain ⟨i, rfl, hi1, hi0, HE, nd, rfl⟩ := hrel
    cases gk with
    | zero => exact absurd HE.out (by simp [chain_Clash.l])
    | succ q =>
      have e1 := HE.out
      rw [chain_Clash.l] at e1
      clear HE
      by_cases d4 : 0 ≤ i
      case neg =>
        rw [if_neg d4] at e1
        obtain ⟨rfl, rfl, rfl⟩ : [] = r1 ∧ [] = r2 ∧ false = r3 := by simpa using e1
        have d4b : decide (0 ≤ i) = false := decide_eq_false d4
        clear e1 d4 hi1 hi0
        go_wp2
        go_ret3
        exact ⟨_, _, rfl, Kd.R_V (Kd.R_nil _ _ _ 0 _), Kd.R_V (Kd.R_nil _ _ _ 0 _), pw_below_drewN HBW.out _⟩
      rw [if_pos d4] at e1
      obtain ⟨j, rfl⟩ : ∃ j : Nat, i = (j : Int) := ⟨i.toNat, by omega⟩
      rw [Int.toNat_natCast] at e1
      have hj : j < x.length := by omega
      have hj2 : j < y.length := by have := D3.out; omega
      obtain ⟨gx, Am, cm, At, ct, hAx, m2, m3, lm, lt, fm, ft⟩ := chain_Clash.elem HNX.out j hj
      obtain ⟨gy, Bm, dm, Bt, dt, hAy, n2, n3, ln, lu, fn, fu⟩ := chain_Clash.elem HNY.out j hj2
      subst hAx
      subst hAy
      obtain ⟨X, hX⟩ : ∃ X, X = x.getD j chain_Clash.z := ⟨_, rfl⟩
      obtain ⟨Y, hY⟩ : ∃ Y, Y = y.getD j chain_Clash.z := ⟨_, rfl⟩
      rw [← hX] at m2 m3 lm lt fm ft e1
      rw [← hY] at n2 n3 ln lu fn fu e1
      obtain ⟨c, hc, e1⟩ := Option.bind_eq_some_iff.mp e1
      have d4b : decide (0 ≤ (j : Int)) = true := decide_eq_true d4
      have p1 : (j : Int) < (x.length : Int) := by omega
      have p2 : (j : Int) < (y.length : Int) := by omega
      have HJ := Aside0.mk (And.intro hj hj2)
      have HX1 := Aside0.mk (And.intro lm (And.intro lt (And.intro fm ft)))
      have HY1 := Aside0.mk (And.intro ln (And.intro lu (And.intro fn fu)))
      have HC := Aside0.mk hc
      have E1 := Aside0.mk e1
      have M2 := Aside0.mk m2
      have N2 := Aside0.mk n2
      have hwj : IntKind.i64.wrap ((j : Int) - 1) = (j : Int) - 1 := IntWalk.i64_in _ (by have := HXL.out; omega)
      have HWJ := Aside0.mk hwj
      clear lm lt fm ft ln lu fn fu hc e1 hX hY hj hj2 hwj d4 m2 n2
      clear d3b d3c
      obtain ⟨w5, hw5⟩ : ∃ w5, w4.drewN nd = w5 := ⟨_, rfl⟩
      have z7' : w5.cell? ⟨w.heap.size, 0, none⟩ = some (.slice (some ⟨gx, 0, none⟩) x.length cx) := by rw [← hw5]; exact z7
      have z8' : w5.cell? ⟨w.heap.size + 1, 0, none⟩ = some (.slice (some ⟨gy, 0, none⟩) y.length cy) := by rw [← hw5]; exact z8
      have m3' : w5.cell? ⟨gx, j * 4 + 3, none⟩ = some (.slice At X.f2.length ct) := by rw [← hw5]; exact m3
      have n3' : w5.cell? ⟨gy, j * 4 + 3, none⟩ = some (.slice Bt Y.f2.length dt) := by rw [← hw5]; exact n3
      have CT : Aside0 (Kd.C (Kd.int .u8) w5 At X.f2.length X.f2) := ⟨by rw [← hw5]; exact Kd.C_drewN (Kd.F_now HX1.out.2.2.2) _⟩
      have CM : Aside0 (Kd.C (Kd.int .u8) w5 Am X.f1.length X.f1) := ⟨by rw [← hw5]; exact Kd.C_drewN (Kd.F_now HX1.out.2.2.1) _⟩
      have DT : Aside0 (Kd.C (Kd.int .u8) w5 Bt Y.f2.length Y.f2) := ⟨by rw [← hw5]; exact Kd.C_drewN (Kd.F_now HY1.out.2.2.2) _⟩
      have DM : Aside0 (Kd.C (Kd.int .u8) w5 Bm Y.f1.length Y.f1) := ⟨by rw [← hw5]; exact Kd.C_drewN (Kd.F_now HY1.out.2.2.1) _⟩
      rw [hw5]
      have HW5 := Aside0.mk hw5
      clear hw5 z7 z8 m3 n3
      cases c with
      | false =>
        obtain ⟨rfl, rfl, rfl⟩ : [] = r1 ∧ [] = r2 ∧ false = r3 := by simpa using E1.out
        clear E1
        go_wp2
        go_quiet ((go_at_call 33; exact Calls.quiet_of ((bytes_Equal.calls At ct X.f2 Bt dt Y.f2 _ _ (Kd.C_drewN CT.out _) HX1.out.2.1 (Kd.C_drewN DT.out _) HY1.out.2.1 HC.out).mono fun _ _ h => ⟨h.1, h.2.out⟩)))
        go_wp2
        go_ret3
        exact ⟨_, _, rfl, Kd.R_V (Kd.R_nil _ _ _ 0 _), Kd.R_V (Kd.R_nil _ _ _ 0 _), by rw [← HW5.out]; exact pw_below_drewN (pw_below_drewN HBW.out _) _⟩
      | true =>
      obtain ⟨e, he, e1⟩ := Option.bind_eq_some_iff.mp ((if_pos rfl).symm.trans E1.out)
      have HE1 := Aside0.mk he
      have E2 := Aside0.mk e1
      clear he e1 E1
      go_wp2
      go_quiet ((go_at_call 33; exact Calls.quiet_of ((bytes_Equal.calls At ct X.f2 Bt dt Y.f2 _ _ (Kd.C_drewN CT.out _) HX1.out.2.1 (Kd.C_drewN DT.out _) HY1.out.2.1 HC.out).mono fun _ _ h => ⟨h.1, h.2.out⟩)))
      go_wp2
      obtain ⟨w6, hw6⟩ : ∃ w6, w5.drewN nq = w6 := ⟨_, rfl⟩
      have y7 : w6.cell? ⟨w.heap.size, 0, none⟩ = some (.slice (some ⟨gx, 0, none⟩) x.length cx) := by rw [← hw6]; exact z7'
      have y8 : w6.cell? ⟨w.heap.size + 1, 0, none⟩ = some (.slice (some ⟨gy, 0, none⟩) y.length cy) := by rw [← hw6]; exact z8'
      have m2' : w6.cell? ⟨gx, j * 4 + 2, none⟩ = some (.slice Am X.f1.length cm) := by rw [← hw6, ← HW5.out]; exact M2.out
      have n2' : w6.cell? ⟨gy, j * 4 + 2, none⟩ = some (.slice Bm Y.f1.length dm) := by rw [← hw6, ← HW5.out]; exact N2.out
      have CM6 : Aside0 (Kd.C (Kd.int .u8) w6 Am X.f1.length X.f1) := ⟨by rw [← hw6]; exact Kd.C_drewN CM.out _⟩
      have DM6 : Aside0 (Kd.C (Kd.int .u8) w6 Bm Y.f1.length Y.f1) := ⟨by rw [← hw6]; exact Kd.C_drewN DM.out _⟩
      rw [hw6]
      have HW6 := Aside0.mk hw6
      clear hw6 z7' z8' m3' n3' CT DT CM DM
      cases e with
      | true =>
        have E3 : Aside0 (chain_Clash.l q x y ((j : Int) - 1) = some (r1, r2, r3)) := ⟨(if_pos rfl).symm.trans E2.out⟩
        clear E2
        go_quiet ((go_at_call 33; exact Calls.quiet_of ((bytes_Equal.calls Am cm X.f1 Bm dm Y.f1 _ _ (Kd.C_drewN CM6.out _) HX1.out.1 (Kd.C_drewN DM6.out _) HY1.out.1 HE1.out).mono fun _ _ h => ⟨h.1, h.2.out⟩)))
        have hwj := HWJ.out
        go_wp2
        go_roundg q
        case measure => omega
        case rel => exact ⟨(j : Int) - 1, rfl, by omega, by omega, E3, _, by rw [← HW6.out, ← HW5.out, World.drewN_drewN, World.drewN_drewN]⟩
      | false =>
        obtain ⟨rfl, rfl, rfl⟩ : X.f1 = r1 ∧ Y.f1 = r2 ∧ true = r3 := by simpa using E2.out
        clear E2
        go_quiet ((go_at_call 33; exact Calls.quiet_of ((bytes_Equal.calls Am cm X.f1 Bm dm Y.f1 _ _ (Kd.C_drewN CM6.out _) HX1.out.1 (Kd.C_drewN DM6.out _) HY1.out.1 HE1.out).mono fun _ _ h => ⟨h.1, h.2.out⟩)))
        go_wp2
        go_quiet (fail)
        try go_wp2
        go_ret3
        exact ⟨_, _, rfl, ⟨Am, cm, rfl, HX1.out.1, by rw [← HW6.out, ← HW5.out]; exact Kd.F_drewN (Kd.F_drewN (Kd.F_drewN (Kd.F_drewN HX1.out.2.2.1 _) _) _) _⟩, ⟨Bm, dm, rfl, HY1.out.1, by rw [← HW6.out, ← HW5.out]; exact Kd.F_drewN (Kd.F_drewN (Kd.F_drewN (Kd.F_drewN HY1.out.2.2.1 _) _) _) _⟩, by rw [← HW6.out, ← HW5.out]; exact pw_below_drewN (pw_below_drewN (pw_below_drewN (pw_below_drewN HBW.out _) _) _) _⟩
theorem chain_Clash.calls (k : Nat) (A0 : Option Addr) (c0 : Nat) (l0 : List Int) (A1 : Option Addr) (c1 : Nat) (l1 : List Int) (r1 : List Int) (r2 : List Int) (r3 : Bool) (w : World) (hr0 : Kd.C (Kd.int .u8) w A0 l0.length l0) (hc0 : l0.length ≤ c0) (hr1 : Kd.C (Kd.int .u8) w A1 l1.length l1) (hc1 : l1.length ≤ c1) (h : chain_Clash.f k l0 l1 = some (r1, r2, r3)) :
    Calls Try.prog 14 #[.slice A0 l0.length c0, .slice A1 l1.length c1] w fun e w' => ∃ v0_ v1_ : Value, e = .returned (.tuple #[v0_, v1_, .bool r3]) ∧ Kd.V (Kd.int .u8) 5 w' w.heap.size (fun k_ => (w.heap.size ≤ k_)) v0_ r1 ∧ Kd.V (Kd.int .u8) 5 w' w.heap.size (fun k_ => (w.heap.size ≤ k_)) v1_ r2 ∧ Below w.heap.size w w' :=
  (chain_Clash.post k A0 c0 l0 A1 c1 l1 r1 r2 r3 w hr0 hc0 hr1 hc1 h).mono fun _ _ h => h

end Go.Proofs.Ytnkkgeglnmggpaa.PCp
