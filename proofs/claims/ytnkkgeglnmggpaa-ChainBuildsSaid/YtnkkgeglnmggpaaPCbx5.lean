-- SLIM: a printed text of which the unused ways are cut off
-- PRINTED by print.py (a twelfth state) out of the translation. Not trusted: Lean checks it.
import Derived.Test.YtnkkgeglnmggpaaPCbx0
import Derived.Test.YtnkkgeglnmggpaaPCbx3
import Derived.Test.YtnkkgeglnmggpaaPCbx4
namespace Go.Proofs.Ytnkkgeglnmggpaa.PCb
open Go.RowKit Go.Proofs.YtnkkgeglnmggpaaW.PrintWords Go.Proofs.YtnkkgeglnmggpaaW.PrintLast Go.Proofs.YtnkkgeglnmggpaaW.PrintMore
attribute [local go_sem] max2_int min2_int max_two min_two max_three min_three max_four min_four   -- for this text's walks alone
set_option linter.unusedVariables false
set_option linter.unusedSimpArgs false

/-! ### chain_Entries: function 8 (given) -/
def chain_Entries.see (key : List Int) (k : Nat) (s : List S42 × List Int) (kd : Int) (b m t : List Int) : Option ((List S42 × List Int) × Int) :=
  (hmac_Tag.f k key m).bind fun g => (hmac_Same.f k g t).bind fun c => if c = true then (if s.1.length < 4398046511104 then some ((s.1 ++ [⟨kd, b⟩], t), 0) else none) else some (s, 29)
def chain_Entries.f (k : Nat) (key log : List Int) : Option (List S42 × List Int × Int) :=
  (chain_First.f).bind fun t => (chain_along.f (chain_Entries.see key) k log ([], t)).bind fun y => if y.2 = 0 then some (y.1.1, y.1.2, 0) else some ([], [], y.2)
theorem chain_Entries.see_mono (key : List Int) (k : Nat) (s : List S42 × List Int) (kd : Int) (b m t : List Int) : LeO (chain_Entries.see key k s kd b m t) (chain_Entries.see key (k + 1) s kd b m t) :=
  LeO.bind (hmac_Tag.mono _ _ _) fun g => LeO.bind (hmac_Same.mono _ _ _) fun c => LeO.refl _
theorem chain_Entries.mono (a0 a1 : List Int) (k : Nat) : LeO (chain_Entries.f k a0 a1) (chain_Entries.f (k + 1) a0 a1) :=
  LeO.bind (LeO.refl _) fun t => LeO.bind (chain_along.mono _ (chain_Entries.see_mono a0) _ _ _) fun y => LeO.refl _
/-- the variables that the closure holds: the key, what was read, the last tag -/
def chain_Entries.I (B g2 g7 g8 : Nat) (Ak : Option Addr) (ck : Nat) (key : List Int) (W : World) (s : List S42 × List Int) (O : Nat → Prop) : Prop :=
  ∃ vo vl, W.heap[g2]? = some (.cells #[.slice Ak key.length ck] 22 (0, 0)) ∧ W.heap[g7]? = some (.cells #[vo] 24 (0, 0)) ∧ W.heap[g8]? = some (.cells #[vl] 22 (0, 0)) ∧
    Kd.N k42 42 W B (fun q => B ≤ q ∧ q ≠ g7 ∧ q ≠ g8) vo s.1 ∧ Kd.V (Kd.int .u8) 5 W B (fun q => B ≤ q ∧ q ≠ g7 ∧ q ≠ g8 ∧ some q ≠ vo.ownBlock) vl s.2 ∧ Kd.F (Kd.int .u8) W (fun q => q < B) Ak key.length key ∧ ∀ q, O q ↔ q = g7 ∨ q = g8 ∨ some q = vo.ownBlock
theorem chain_Entries.I_below {B g2 g7 g8 : Nat} {Ak : Option Addr} {ck : Nat} {key : List Int} (W W' : World) (s : List S42 × List Int) (O : Nat → Prop) (h : chain_Entries.I B g2 g7 g8 Ak ck key W s O) (hb : Below W.heap.size W W') : chain_Entries.I B g2 g7 g8 Ak ck key W' s O := by
  obtain ⟨vo, vl, h2, h7, h8, hN, hV, hK, hO⟩ := h
  exact ⟨vo, vl, blk_below h2 hb, blk_below h7 hb, blk_below h8 hb, Kd.N_below hN hb, Kd.V_below hV hb, Kd.F_below hK hb, hO⟩
theorem chain_Entries.I_own {B g2 g7 g8 : Nat} {Ak : Option Addr} {ck : Nat} {key : List Int} (h7B : B ≤ g7) (h8B : B ≤ g8) (W : World) (s : List S42 × List Int) (O : Nat → Prop) (h : chain_Entries.I B g2 g7 g8 Ak ck key W s O) : ∀ q, O q → B ≤ q ∧ q < W.heap.size := by
  obtain ⟨vo, vl, h2, h7, h8, hN, hV, hK, hO⟩ := h
  intro q hq
  rcases (hO q).1 hq with rfl | rfl | he
  · exact ⟨h7B, blk_lt h7⟩
  · exact ⟨h8B, blk_lt h8⟩
  · exact ⟨Kd.N_base hN q he.symm, Kd.N_lt hN q he.symm⟩
set_option maxHeartbeats 16000000 in
set_option maxRecDepth 100000 in
theorem chain_Entries1.calls (B g2 g7 g8 : Nat) (Ak : Option Addr) (ck : Nat) (key : List Int) (hck : key.length ≤ ck) (h72 : g2 < g7) (h78 : g7 < g8) (hB7 : B ≤ g2)
    (k : Nat) (s : List S42 × List Int) (kd : Int) (b m t : List Int) (r : (List S42 × List Int) × Int) (W : World) (O : Nat → Prop) (Ab : Option Addr) (cb : Nat) (Am : Option Addr) (cm : Nat) (At : Option Addr) (ct : Nat) (hi : chain_Entries.I B g2 g7 g8 Ak ck key W s O) (hlb : b.length ≤ cb) (hlm : m.length ≤ cm) (hlt : t.length ≤ ct)
    (hDW : B ≤ W.heap.size) (hb : chain_along.Off W B O Ab b) (hm : chain_along.Off W B O Am m) (ht : chain_along.Off W B O At t) (h : chain_Entries.see key k s kd b m t = some r) :
    Calls Try.prog 26 (#[.agg #[.int .i64 kd, .slice Ab b.length cb, .slice Am m.length cm, .slice At t.length ct]] ++ #[.pointer (some ⟨g2, 0, none⟩), .pointer (some ⟨g7, 0, none⟩), .pointer (some ⟨g8, 0, none⟩)]) W (chain_along.Post B (chain_Entries.I B g2 g7 g8 Ak ck key) W O r) := by
  have hu := Try.underlying42
  have hu2 := Try.underlying49
  obtain ⟨vo, vl, h2, h7, h8, hN, hV, hK, hO⟩ := hi
  unfold chain_Entries.see at h
  obtain ⟨g, hg, h⟩ := Option.bind_eq_some_iff.mp h
  obtain ⟨c, hc, h⟩ := Option.bind_eq_some_iff.mp h
  have z2 : (W.alloc (.cells #[.int .i64 kd, .slice Ab b.length cb, .slice Am m.length cm, .slice At t.length ct] 49)).cell? ⟨g2, 0, none⟩ = some (.slice Ak key.length ck) := (blk_cell (blk_alloc h2 _) 0).trans rfl
  have hl2 := blk_lt h2
  have hl7 := blk_lt h7
  have hl8 := blk_lt h8
  have HCK := Aside0.mk hck
  have HLB := Aside0.mk hlb
  have HLM := Aside0.mk hlm
  have HLT := Aside0.mk hlt
  have HOB := Aside0.mk hb
  have HOM := Aside0.mk hm
  have HOT := Aside0.mk ht
  have HH2 := Aside0.mk h2
  have HH7 := Aside0.mk h7
  have HH8 := Aside0.mk h8
  have HN := Aside0.mk hN
  have HV := Aside0.mk hV
  have HKY := Aside0.mk hK
  have HOO := Aside0.mk hO
  have HG := Aside0.mk hg
  have HC := Aside0.mk hc
  have H := Aside0.mk h
  have L78 := Aside0.mk (And.intro h72 (And.intro h78 hB7))
  have LL := Aside0.mk (And.intro hl2 (And.intro hl7 hl8))
  clear hck hlb hlm hlt hb hm ht h2 h7 h8 hN hV hK hO hg hc h h72 h78 hB7 hl2 hl7 hl8
  have zm : (W.alloc (.cells #[.int .i64 kd, .slice Ab b.length cb, .slice Am m.length cm, .slice At t.length ct] 49)).cell? ⟨W.heap.size, 2, none⟩ = some (.slice Am m.length cm) := (blk_cell (blk_new _ _) 2).trans rfl
  have zt : (W.alloc (.cells #[.int .i64 kd, .slice Ab b.length cb, .slice Am m.length cm, .slice At t.length ct] 49)).cell? ⟨W.heap.size, 3, none⟩ = some (.slice At t.length ct) := (blk_cell (blk_new _ _) 3).trans rfl
  have HX : Aside0 ((W.alloc (.cells #[.int .i64 kd, .slice Ab b.length cb, .slice Am m.length cm, .slice At t.length ct] 49)).heap[W.heap.size]? = some (.cells #[.int .i64 kd, .slice Ab b.length cb, .slice Am m.length cm, .slice At t.length ct] 49 (0, 0))) := ⟨blk_new _ _⟩
  simp only [List.append_toArray]
  cases c with
  | false =>
    obtain rfl := Option.some.inj ((if_neg (by decide)).symm.trans H.out)
    clear H h
    go_enter Try.func26, Try.ntmps26
    go_wp2
    go_region_held3 (fun w' => w'.cell? ⟨g2, 0, none⟩ = some (.slice Ak key.length ck) ∧ w'.cell? ⟨W.heap.size, 2, none⟩ = some (.slice Am m.length cm) ∧ w'.cell? ⟨W.heap.size, 3, none⟩ = some (.slice At t.length ct)) (first | exact ⟨z2, zm, zt⟩ | exact ⟨pw_cell_below HB5.out z2, pw_cell_below HB5.out zm, pw_cell_below HB5.out zt⟩) (first | (go_at_call 16; (with_reducible refine (hmac_Tag.calls k Ak ck key Am cm m g _ (Kd.C_below (Kd.F_now HKY.out) (by repeat (first | exact Below.refl _ _ | apply below_alloc | apply below_drew))) HCK.out (Kd.C_below (Kd.F_now HOM.out) (by repeat (first | exact Below.refl _ _ | apply below_alloc | apply below_drew))) HLM.out HG.out).mono ?_); rintro e w5 ⟨v5, rfl, ho5, hb5⟩; (obtain ⟨A5, c5, rfl⟩ := Kd.R_slice ho5); (have hb5' : Below (W.alloc (.cells #[.int .i64 kd, .slice Ab b.length cb, .slice Am m.length cm, .slice At t.length ct] 49)).heap.size (W.alloc (.cells #[.int .i64 kd, .slice Ab b.length cb, .slice Am m.length cm, .slice At t.length ct] 49)) w5 := below_step (by repeat (first | exact Below.refl _ _ | apply below_drew)) hb5); (have HB5 := Aside0.mk hb5'); (have HO5 := Aside0.mk ho5); clear ho5 hb5 hb5') | (go_at_call 27; (with_reducible refine (hmac_Same.calls k A5 c5 g At ct t _ _ (Kd.C_below (Kd.R_reads' HO5.out).2.2 (by repeat (exact Below.refl _ _))) (Kd.R_reads' HO5.out).2.1 (Kd.C_below (Kd.F_now HOT.out) (by (exact below_step (below_alloc (Below.refl _ _) _) HB5.out))) HLT.out HC.out).mono ?_); rintro e w6 ⟨rfl, ⟨nd, rfl⟩⟩))
    go_wp2
    go_ret
    have HB6 : Below W.heap.size W (w5.drewN nd) := pw_below_drewN (below_step (below_alloc (Below.refl _ _) _) HB5.out) nd
    exact ⟨O, rfl, chain_Entries.I_below _ _ _ _ ⟨vo, vl, HH2.out, HH7.out, HH8.out, HN.out, HV.out, HKY.out, HOO.out⟩ HB6, Kept.of_below HB6 _, HB6.mono (by have h1 := LL.out; have h3 := L78.out; omega), fun _ _ h => h⟩
  | true =>
    have h' : (if s.1.length < 4398046511104 then some (((s.1 ++ [⟨kd, b⟩], t), 0) : (List S42 × List Int) × Int) else none) = some r := (if_pos rfl).symm.trans H.out
    by_cases hlen : s.1.length < 4398046511104
    case neg => rw [if_neg hlen] at h'; exact absurd h' (by simp)
    rw [if_pos hlen] at h'
    obtain rfl := Option.some.inj h'
    have HLEN := Aside0.mk hlen
    clear H h h' hlen
    go_enter Try.func26, Try.ntmps26
    go_wp2
    go_region_held3 (fun w' => w'.cell? ⟨g2, 0, none⟩ = some (.slice Ak key.length ck) ∧ w'.cell? ⟨W.heap.size, 2, none⟩ = some (.slice Am m.length cm) ∧ w'.cell? ⟨W.heap.size, 3, none⟩ = some (.slice At t.length ct)) (first | exact ⟨z2, zm, zt⟩ | exact ⟨pw_cell_below HB5.out z2, pw_cell_below HB5.out zm, pw_cell_below HB5.out zt⟩) (first | (go_at_call 16; (with_reducible refine (hmac_Tag.calls k Ak ck key Am cm m g _ (Kd.C_below (Kd.F_now HKY.out) (by repeat (first | exact Below.refl _ _ | apply below_alloc | apply below_drew))) HCK.out (Kd.C_below (Kd.F_now HOM.out) (by repeat (first | exact Below.refl _ _ | apply below_alloc | apply below_drew))) HLM.out HG.out).mono ?_); rintro e w5 ⟨v5, rfl, ho5, hb5⟩; (obtain ⟨A5, c5, rfl⟩ := Kd.R_slice ho5); (have hb5' : Below (W.alloc (.cells #[.int .i64 kd, .slice Ab b.length cb, .slice Am m.length cm, .slice At t.length ct] 49)).heap.size (W.alloc (.cells #[.int .i64 kd, .slice Ab b.length cb, .slice Am m.length cm, .slice At t.length ct] 49)) w5 := below_step (by repeat (first | exact Below.refl _ _ | apply below_drew)) hb5); (have HB5 := Aside0.mk hb5'); (have HO5 := Aside0.mk ho5); clear ho5 hb5 hb5') | (go_at_call 27; (with_reducible refine (hmac_Same.calls k A5 c5 g At ct t _ _ (Kd.C_below (Kd.R_reads' HO5.out).2.2 (by repeat (exact Below.refl _ _))) (Kd.R_reads' HO5.out).2.1 (Kd.C_below (Kd.F_now HOT.out) (by (exact below_step (below_alloc (Below.refl _ _) _) HB5.out))) HLT.out HC.out).mono ?_); rintro e w6 ⟨rfl, ⟨nd, rfl⟩⟩))
    have HB6 : Aside0 (Below W.heap.size W (w5.drewN nd)) := ⟨pw_below_drewN (below_step (below_alloc (Below.refl _ _) _) HB5.out) nd⟩
    have HX6 : Aside0 ((w5.drewN nd).heap[W.heap.size]? = some (.cells #[.int .i64 kd, .slice Ab b.length cb, .slice Am m.length cm, .slice At t.length ct] 49 (0, 0))) := ⟨blk_drewN (blk_below HX.out HB5.out) nd⟩
    rename_i hHeld
    clear hHeld HB5 HO5 z2 zm zt
    generalize w5.drewN nd = w6 at HB6 HX6 ⊢
    have H72 : Aside0 (w6.heap[g2]? = some (.cells #[.slice Ak key.length ck] 22 (0, 0))) := ⟨blk_below HH2.out HB6.out⟩
    have H77 : Aside0 (w6.heap[g7]? = some (.cells #[vo] 24 (0, 0))) := ⟨blk_below HH7.out HB6.out⟩
    have H78 : Aside0 (w6.heap[g8]? = some (.cells #[vl] 22 (0, 0))) := ⟨blk_below HH8.out HB6.out⟩
    have HN6 := Aside0.mk (Kd.N_below HN.out HB6.out)
    have y7 : w6.cell? ⟨g7, 0, none⟩ = some vo := (blk_cell H77.out 0).trans rfl
    have x0 : w6.cell? ⟨W.heap.size, 0, none⟩ = some (.int .i64 kd) := (blk_cell HX6.out 0).trans rfl
    have x1 : w6.cell? ⟨W.heap.size, 1, none⟩ = some (.slice Ab b.length cb) := (blk_cell HX6.out 1).trans rfl
    have q7 : some g7 ≠ vo.ownBlock := Kd.N_ne HN6.out H77.out (by decide)
    have q8 : some g8 ≠ vo.ownBlock := Kd.N_ne HN6.out H78.out (by decide)
    have q2 : some g2 ≠ vo.ownBlock := Kd.N_ne HN6.out H72.out (by decide)
    have qx : some W.heap.size ≠ vo.ownBlock := Kd.N_ne HN6.out HX6.out (by decide)
    have Q2 := Aside0.mk q2
    have Q7 := Aside0.mk q7
    have Q8 := Aside0.mk q8
    have QX := Aside0.mk qx
    clear q2 q7 q8 qx
    have e78 : g7 ≠ g8 := Nat.ne_of_lt L78.out.2.1
    have ex7 : W.heap.size ≠ g7 := Nat.ne_of_gt LL.out.2.1
    have ex8 : W.heap.size ≠ g8 := Nat.ne_of_gt LL.out.2.2
    have hfk : Aside0 (Kd.FK k42 w6 (fun q => B ≤ q ∧ ¬ O q) (⟨kd, b⟩ : S42) [.int .i64 kd, .slice Ab b.length cb]) := ⟨k42_mkF w6 _ ⟨kd, b⟩ HLB.out (Kd.F_below HOB.out HB6.out)⟩
    go_wp2_with ((with_reducible refine gate_builtin (b := .append) (xs := #[.tmp 14, .tmp 17]) rfl ?_); at_builtin; refine Kd.N_append k42 (w0 := w6) B rfl (.tmp 14) (.tmp 17) 24 42 (.agg #[(.int .i64 0), (.slice none 0 0)]) 32 rfl Try.underlying24 info42 rfl (by decide) (by omega) vo s.1 (⟨kd, b⟩ : S42) [.int .i64 kd, .slice Ab b.length cb] (fun q => B ≤ q ∧ q ≠ g7 ∧ q ≠ g8) (fun q => B ≤ q ∧ ¬ O q) rfl rfl hfk.out (fun q hq => ⟨⟨hq.1, fun e => hq.2 ((HOO.out q).2 (.inl e)), fun e => hq.2 ((HOO.out q).2 (.inr (.inl e)))⟩, fun e => hq.2 ((HOO.out q).2 (.inr (.inr e)))⟩) (fun q hq => ?fr) HN6.out (Below.refl _ _) ?bs (by have := HLEN.out; omega) ?_; (case fr => have h1 := HB6.out.size; have h2 := LL.out; have h3 := L78.out; exact ⟨by omega, by omega, by omega⟩); (case bs => have h1 := HB6.out.size; have h2 := LL.out; have h3 := L78.out; omega); intro v1 w7 hn1 _ hg1 hat1; (obtain ⟨A7, n7, c7, e7⟩ : ∃ A n c, v1 = .slice A n c := by obtain ⟨A, c, e⟩ := Kd.N_slice hn1; exact ⟨A, _, c, e⟩); subst e7; have HN7 := Aside0.mk hn1; have HGR := Aside0.mk hg1; have HAT := Aside0.mk hat1; (have k7 := blk_grown H77.out hg1 Q7.out); (have k8 := blk_grown H78.out hg1 Q8.out); (have kx := blk_grown HX6.out hg1 QX.out); (have K7 := Aside0.mk k7); (have K8 := Aside0.mk k8); (have K2 := Aside0.mk (blk_grown H72.out hg1 Q2.out)); (have f7 : w7.frozen? ⟨g7, 0, none⟩ = false := blk_frozen k7 0); (have y7' : w7.cell? ⟨g7, 0, none⟩ = some vo := (blk_cell k7 0).trans rfl); (have x3 : (w7.setCell ⟨g7, 0, none⟩ (.slice A7 n7 c7)).cell? ⟨W.heap.size, 3, none⟩ = some (.slice At t.length ct) := (blk_cell (blk_far kx ex7 _) 3).trans rfl); (have f8 : (w7.setCell ⟨g7, 0, none⟩ (.slice A7 n7 c7)).frozen? ⟨g8, 0, none⟩ = false := blk_frozen (blk_far k8 (Ne.symm e78) _) 0); (have y8 : (w7.setCell ⟨g7, 0, none⟩ (.slice A7 n7 c7)).cell? ⟨g8, 0, none⟩ = some vl := (blk_cell (blk_far k8 (Ne.symm e78) _) 0).trans rfl); clear hn1 hg1 hat1 k7 k8 kx)
    go_ret
    obtain ⟨l1, l2, l3⟩ := L78.out
    obtain ⟨m1, m2, m3⟩ := LL.out
    have e27 : g2 ≠ g7 := Nat.ne_of_lt l1
    have e28 : g2 ≠ g8 := Nat.ne_of_lt (Nat.lt_trans l1 l2)
    have hsz := HB6.out.size
    have hO7 : ∀ q, q < W.heap.size → some q = (Value.slice A7 n7 c7).ownBlock → some q = vo.ownBlock := fun q hq he => by
      rcases HAT.out with h | ⟨x, h, hx⟩
      · exact he.trans h
      · rw [h] at he
        have := Option.some.inj he
        omega
    have hk : Kept W ((w7.setCell ⟨g7, 0, none⟩ (.slice A7 n7 c7)).setCell ⟨g8, 0, none⟩ (.slice At t.length ct)) O :=
      ((Kept.of_grown HGR.out (Kept.of_below HB6.out O) (fun q hq => .inl ((HOO.out q).2 (.inr (.inr hq.symm))))).setCell (p := ⟨g7, 0, none⟩) (.inl ((HOO.out g7).2 (.inl rfl))) _).setCell (p := ⟨g8, 0, none⟩) (.inl ((HOO.out g8).2 (.inr (.inl rfl)))) _
    have hbb : Below B W ((w7.setCell ⟨g7, 0, none⟩ (.slice A7 n7 c7)).setCell ⟨g8, 0, none⟩ (.slice At t.length ct)) :=
      (((HB6.out.mono (by omega)).grown HGR.out (by omega) (fun q hq => Kd.N_base HN.out q hq)).setCell (p := ⟨g7, 0, none⟩) (by show B ≤ g7; omega) _).setCell (p := ⟨g8, 0, none⟩) (by show B ≤ g8; omega) _
    refine ⟨fun q => q = g7 ∨ q = g8 ∨ some q = (Value.slice A7 n7 c7).ownBlock, rfl, ⟨_, _, blk_far (blk_far K2.out e27 _) e28 _, blk_far (blk_put K7.out 0 _ rfl) e78 _, blk_put (blk_far K8.out (Ne.symm e78) _) 0 _ rfl, ?_, ⟨At, ct, rfl, HLT.out, ?_⟩, ?_, fun q => Iff.rfl⟩, hk, hbb, fun q hq ho => (HOO.out q).2 (ho.imp_right (Or.imp_right (hO7 q hq)))⟩
    · exact Kd.N_far (Kd.N_far HN7.out (fun q hq => hq.2.1) _) (fun q hq => hq.2.2) _
    · exact Kd.F_mono (Kd.F_step (Kd.F_bound HOT.out) (fun q hq hlt => hk.2 q hlt hq.1.2)) (fun q hq => ⟨hq.1.1, fun e => hq.1.2 ((HOO.out q).2 (.inl e)), fun e => hq.1.2 ((HOO.out q).2 (.inr (.inl e))), fun e => hq.1.2 ((HOO.out q).2 (.inr (.inr (hO7 q hq.2 e))))⟩)
    · exact Kd.F_kept HKY.out hk (fun q hq ho => by
        rcases (HOO.out q).1 ho with rfl | rfl | he
        · omega
        · omega
        · have := Kd.N_base HN.out q he.symm; omega)
theorem chain_Entries1.goes (c1 c2 c3 : Value) (z : Value) (w : World) : (callFunc 26 (#[z] ++ #[c1, c2, c3])).run Try.prog w = .ok (.enter 26 (#[z] ++ #[c1, c2, c3])) w := by go_simp
def chain_Entries.Post (w : World) (r1 : List S42) (r2 : List Int) (r3 : Int) (e : Ending) (w' : World) : Prop :=
  ∃ v0_ v1_ : Value, e = .returned (.tuple #[v0_, v1_, .int .i64 r3]) ∧ Kd.V k42 42 w' w.heap.size (fun k_ => (w.heap.size ≤ k_)) v0_ r1 ∧ Kd.V (Kd.int .u8) 5 w' w.heap.size (fun k_ => (w.heap.size ≤ k_)) v1_ r2 ∧ Below w.heap.size w w'
set_option maxHeartbeats 16000000 in
set_option maxRecDepth 100000 in
theorem chain_Entries.post (k : Nat) (A0 : Option Addr) (c0 : Nat) (l0 : List Int) (A1 : Option Addr) (c1 : Nat) (l1 : List Int) (r1 : List S42) (r2 : List Int) (r3 : Int) (w : World) (hr0 : Kd.C (Kd.int .u8) w A0 l0.length l0) (hc0 : l0.length ≤ c0) (hr1 : Kd.C (Kd.int .u8) w A1 l1.length l1) (hc1 : l1.length ≤ c1) (h : chain_Entries.f k l0 l1 = some (r1, r2, r3)) :
    Calls Try.prog 8 #[.slice A0 l0.length c0, .slice A1 l1.length c1] w (chain_Entries.Post w r1 r2 r3) := by
  unfold chain_Entries.f at h
  obtain ⟨t, ht, h⟩ := Option.bind_eq_some_iff.mp h
  obtain ⟨y, hy, h⟩ := Option.bind_eq_some_iff.mp h
  have HR0 := Aside0.mk hr0
  have HC0 := Aside0.mk hc0
  have HR1 := Aside0.mk hr1
  have HC1 := Aside0.mk hc1
  have HT := Aside0.mk ht
  have HY := Aside0.mk hy
  have H := Aside0.mk h
  clear hr0 hc0 hr1 hc1 ht hy h
  have HCL : Aside0 (∀ (c1 c2 c3 : Value) (z : Value) (w : World), (callFunc 26 (#[z] ++ #[c1, c2, c3])).run Try.prog w = .ok (.enter 26 (#[z] ++ #[c1, c2, c3])) w) := ⟨chain_Entries1.goes⟩
  go_enter Try.func8, Try.ntmps8
  go_wp2_with (((go_at_call 23; (with_reducible refine (chain_First.calls t _ HT.out).mono ?_); rintro e w1 ⟨v5, rfl, ho1, hb1⟩; (obtain ⟨AT, cT, rfl⟩ := Kd.R_slice ho1); (have HA := Aside0.mk ho1); (have HB := Aside0.mk hb1); clear ho1 hb1)))
  have hs1 : w.heap.size + 2 ≤ w1.heap.size := by have := HB.out.size; simpa using this
  have hbw : Below w.heap.size w (w1.alloc (.cells #[.slice AT t.length cT] 22)) := below_alloc (below_step (by repeat (first | exact Below.refl _ _ | apply below_alloc)) HB.out) _
  have hsz2 : (w.alloc (.cells #[.slice A0 l0.length c0] 22)).heap.size = w.heap.size + 1 := by simp
  have hk7 : (w1.alloc (.cells #[.slice AT t.length cT] 22)).heap[w.heap.size + 1]? = some (.cells #[.slice none 0 0] 24 (0, 0)) := by
    have := blk_alloc (blk_below (blk_new (w.alloc (.cells #[.slice A0 l0.length c0] 22)) (.cells #[.slice none 0 0] 24)) HB.out) (.cells #[.slice AT t.length cT] 22)
    rwa [hsz2] at this
  have hi0 : chain_Entries.I w.heap.size w.heap.size (w.heap.size + 1) w1.heap.size A0 c0 l0 (w1.alloc (.cells #[.slice AT t.length cT] 22)) ([], t) (fun q => q = w.heap.size + 1 ∨ q = w1.heap.size ∨ some q = (Value.slice none 0 0).ownBlock) := by
    refine ⟨_, _, blk_alloc (blk_below (blk_alloc (blk_new w _) _) HB.out) _, hk7, blk_new w1 _, Kd.N_nil _ _ _ _ _, ⟨AT, cT, rfl, (Kd.R_reads' HA.out).2.1, ?_⟩, Kd.F_below (Kd.C_F (Kd.heap_int .u8) HR0.out) hbw, fun q => Iff.rfl⟩
    refine Kd.F_alloc (Kd.F_mono (Kd.R_F (Kd.R_bound HA.out)) (fun q hq => ?_)) _
    have h1 := hq.2.1
    have h2 := hq.2.2.1
    have h3 : ((w.alloc (.cells #[.slice A0 l0.length c0] 22)).alloc (.cells #[.slice none 0 0] 24)).heap.size = w.heap.size + 2 := by simp
    rw [h3] at h1
    exact ⟨by omega, by omega, by omega, by simp [Value.ownBlock]⟩
  have HI0 := Aside0.mk hi0
  have HBW := Aside0.mk hbw
  have HS1 := Aside0.mk hs1
  clear hk7 hi0 hbw hsz2 hs1 HA HB
  obtain ⟨⟨y1, y2⟩, y3⟩ := y
  by_cases d : y3 = 0
  case neg =>
    have d1 : (y3 != 0) = true := by simpa using d
    have e := H.out
    simp only [if_neg d, Option.some.injEq, Prod.mk.injEq] at e
    obtain ⟨rfl, rfl, rfl⟩ := e
    clear d H h
    go_wp2_with (go_at_call 25; (with_reducible refine (chain_along.calls (chain_Entries.see l0) 26 #[.pointer (some ⟨w.heap.size, 0, none⟩), .pointer (some ⟨w.heap.size + 1, 0, none⟩), .pointer (some ⟨w1.heap.size, 0, none⟩)] w.heap.size w.heap.size (chain_Entries.I w.heap.size w.heap.size (w.heap.size + 1) w1.heap.size A0 c0 l0) chain_Entries.I_below (chain_Entries.I_own (Nat.le_succ _) (Nat.le_trans (Nat.le_add_right _ 2) HS1.out)) (fun z W => HCL.out _ _ _ z W) (chain_Entries1.calls w.heap.size w.heap.size (w.heap.size + 1) w1.heap.size A0 c0 l0 HC0.out (Nat.lt_succ_self _) (Nat.lt_of_lt_of_le (Nat.lt_succ_self _) HS1.out) (Nat.le_refl _)) k A1 c1 l1 ([], t) _ ((y1, y2), y3) _ (Kd.F_below (Kd.C_F (Kd.heap_int .u8) HR1.out) HBW.out) HC1.out HBW.out.size HBW.out.size HI0.out HY.out).mono ?_); rintro e w3 ⟨O', rfl, hi3, hk3, hb3, ho3⟩; (obtain ⟨vo, vl, h2, h7, h8, hN, hV, hK, hO⟩ := hi3); (have y7 : w3.cell? ⟨w.heap.size + 1, 0, none⟩ = some vo := (blk_cell h7 0).trans rfl); (have y8 : w3.cell? ⟨w1.heap.size, 0, none⟩ = some vl := (blk_cell h8 0).trans rfl); have HN := Aside0.mk hN; have HV := Aside0.mk hV; have HB3 := Aside0.mk hb3; clear hk3 hb3 ho3 h2 h7 h8 hN hV hK hO)
    go_ret3
    exact ⟨_, _, rfl, Kd.R_V (Kd.R_nil _ _ _ 0 _), Kd.R_V (Kd.R_nil _ _ _ 0 _), HBW.out.trans HB3.out⟩
  subst d
  have e := H.out
  simp only [if_pos, Option.some.injEq, Prod.mk.injEq] at e
  obtain ⟨rfl, rfl, rfl⟩ := e
  clear H h
  go_wp2_with (go_at_call 25; (with_reducible refine (chain_along.calls (chain_Entries.see l0) 26 #[.pointer (some ⟨w.heap.size, 0, none⟩), .pointer (some ⟨w.heap.size + 1, 0, none⟩), .pointer (some ⟨w1.heap.size, 0, none⟩)] w.heap.size w.heap.size (chain_Entries.I w.heap.size w.heap.size (w.heap.size + 1) w1.heap.size A0 c0 l0) chain_Entries.I_below (chain_Entries.I_own (Nat.le_succ _) (Nat.le_trans (Nat.le_add_right _ 2) HS1.out)) (fun z W => HCL.out _ _ _ z W) (chain_Entries1.calls w.heap.size w.heap.size (w.heap.size + 1) w1.heap.size A0 c0 l0 HC0.out (Nat.lt_succ_self _) (Nat.lt_of_lt_of_le (Nat.lt_succ_self _) HS1.out) (Nat.le_refl _)) k A1 c1 l1 ([], t) _ ((y1, y2), 0) _ (Kd.F_below (Kd.C_F (Kd.heap_int .u8) HR1.out) HBW.out) HC1.out HBW.out.size HBW.out.size HI0.out HY.out).mono ?_); rintro e w3 ⟨O', rfl, hi3, hk3, hb3, ho3⟩; (obtain ⟨vo, vl, h2, h7, h8, hN, hV, hK, hO⟩ := hi3); (have y7 : w3.cell? ⟨w.heap.size + 1, 0, none⟩ = some vo := (blk_cell h7 0).trans rfl); (have y8 : w3.cell? ⟨w1.heap.size, 0, none⟩ = some vl := (blk_cell h8 0).trans rfl); have HN := Aside0.mk hN; have HV := Aside0.mk hV; have HB3 := Aside0.mk hb3; clear hk3 hb3 ho3 h2 h7 h8 hN hV hK hO)
  go_quiet (fail)
  try go_wp2
  go_ret3
  exact ⟨_, _, rfl, Kd.V_mono (Kd.N_V (Kd.N_drewN HN.out _)) (fun q hq => hq.1), Kd.V_mono (Kd.V_drewN HV.out _) (fun q hq => hq.1), pw_below_drewN (HBW.out.trans HB3.out) _⟩
theorem chain_Entries.calls (k : Nat) (A0 : Option Addr) (c0 : Nat) (l0 : List Int) (A1 : Option Addr) (c1 : Nat) (l1 : List Int) (r1 : List S42) (r2 : List Int) (r3 : Int) (w : World) (hr0 : Kd.C (Kd.int .u8) w A0 l0.length l0) (hc0 : l0.length ≤ c0) (hr1 : Kd.C (Kd.int .u8) w A1 l1.length l1) (hc1 : l1.length ≤ c1) (h : chain_Entries.f k l0 l1 = some (r1, r2, r3)) :
    Calls Try.prog 8 #[.slice A0 l0.length c0, .slice A1 l1.length c1] w fun e w' => ∃ v0_ v1_ : Value, e = .returned (.tuple #[v0_, v1_, .int .i64 r3]) ∧ Kd.V k42 42 w' w.heap.size (fun k_ => (w.heap.size ≤ k_)) v0_ r1 ∧ Kd.V (Kd.int .u8) 5 w' w.heap.size (fun k_ => (w.heap.size ≤ k_)) v1_ r2 ∧ Below w.heap.size w w' :=
  (chain_Entries.post k A0 c0 l0 A1 c1 l1 r1 r2 r3 w hr0 hc0 hr1 hc1 h).mono fun _ _ h => h

/-! ### chain_Verify: function 12 -/
def chain_Verify.f (k : Nat) (l0 : List Int) (l1 : List Int) (a2 : Int) (l3 : List Int) : Option (Bool) := (chain_Entries.f k l0 l1).bind fun bt140 => (if bt140.2.2 = 0 then (if (bt140.1.length : Int) = a2 then ((hmac_Same.f k bt140.2.1 l3).bind fun t147 => (some t147)) else (some false)) else (some false))
theorem chain_Verify.mono : ∀ a0 a1 a2 a3 k, LeO (chain_Verify.f k a0 a1 a2 a3) (chain_Verify.f (k + 1) a0 a1 a2 a3) := by
  intro a0 a1 a2 a3 k
  unfold chain_Verify.f
  repeat' first | (with_reducible exact chain_Entries.mono _ _ _) | (with_reducible exact hmac_Same.mono _ _ _) | (with_reducible exact LeO.refl _) | (with_reducible refine LeO.ite ?_ ?_) | (with_reducible refine LeO.bind ?_ (fun _ => ?_))
set_option maxHeartbeats 8000000 in
set_option maxRecDepth 100000 in
theorem chain_Verify.calls (k : Nat) (A0 : Option Addr) (c0 : Nat) (l0 : List Int) (A1 : Option Addr) (c1 : Nat) (l1 : List Int) (a2 : Int) (A3 : Option Addr) (c3 : Nat) (l3 : List Int) (r : Bool) (w : World) (hr0 : Kd.C (Kd.int .u8) w A0 l0.length l0) (hc0 : l0.length ≤ c0) (hr1 : Kd.C (Kd.int .u8) w A1 l1.length l1) (hc1 : l1.length ≤ c1) (hr3 : Kd.C (Kd.int .u8) w A3 l3.length l3) (hc3 : l3.length ≤ c3) (h : chain_Verify.f k l0 l1 a2 l3 = some r) :
    Calls Try.prog 12 #[.slice A0 l0.length c0, .slice A1 l1.length c1, .int .i64 a2, .slice A3 l3.length c3] w fun e w' => e = .returned (.bool r) ∧ Below w.heap.size w w' := by
  have HR0 := Aside0.mk hr0
  have HC0 := Aside0.mk hc0
  clear hr0 hc0
  have HR1 := Aside0.mk hr1
  have HC1 := Aside0.mk hc1
  clear hr1 hc1
  have HR3 := Aside0.mk hr3
  have HC3 := Aside0.mk hc3
  clear hr3 hc3
  have HB := Aside0.mk (Below.refl w.heap.size w)
  have H : ((chain_Entries.f k l0 l1).bind fun bt140 => (if bt140.2.2 = 0 then (if (bt140.1.length : Int) = a2 then ((hmac_Same.f k bt140.2.1 l3).bind fun t147 => (some t147)) else (some false)) else (some false))) = some r := h
  clear h
  replace H := Option.bind_eq_some_iff.mp H
  obtain ⟨⟨t140, t143, t146⟩, A50, H⟩ := H
  replace H : (if t146 = 0 then (if (t140.length : Int) = a2 then ((hmac_Same.f k t143 l3).bind fun t147 => (some t147)) else (some false)) else (some false)) = some r := H
  have A5 := Aside0.mk A50
  clear A50
  by_cases c6 : t146 = 0
  rotate_left
  · rw [if_neg c6] at H
    have c6b0 : (t146 == 0) = false := beq_eq_false_iff_ne.mpr c6
    have c6b1 : (t146 != 0) = true := bne_iff_ne.mpr c6
    obtain rfl := Option.some.inj H
    go_enter Try.func12, Try.ntmps12
    go_wp2_with ((((with_reducible refine gate_callee (f := 8) rfl ?_); refine goesL_ (some 15) rfl rfl Try.func8 (by kernel_rfl) rfl #[.slice A0 l0.length c0, .slice A1 l1.length c1] rfl (by (try simp only [List.map_toArray, List.map_cons, List.map_nil]); (rfl)) ?_; (with_reducible refine (chain_Entries.calls k _ _ l0 _ _ l1 t140 t143 t146 _ ?side1 ?side2 ?side3 ?side4 A5.out).mono ?_); (case side1 => repeat (exact HR0.out)); (case side2 => exact HC0.out); (case side3 => repeat (exact HR1.out)); (case side4 => exact HC1.out); rintro e w14 ⟨v141, v144, rfl, ho0, ho1, hb⟩; refine ⟨_, rfl, ?_⟩; have n0_ := Aside0.mk (Kd.V_lower (Kd.V_mono (ok' := fun k_ => True) ho0 (fun k_ hk_ => trivial)) (below_size HB.out)); have n1_ := Aside0.mk (Kd.V_lower (Kd.V_mono (ok' := fun k_ => True) ho1 (fun k_ hk_ => trivial)) (below_size HB.out)); have n2_ := Aside0.mk (below_step HB.out hb); clear HB; have HO142 := n0_; have HO145 := n1_; have HB := n2_; clear n0_ n1_ n2_; (try clear hb); (try clear ho0); (try clear ho1))))
    go_ret
    exact ⟨by (rfl), HB.out⟩


  rw [if_pos c6] at H
  have c6b0 : (t146 == 0) = true := beq_iff_eq.mpr c6
  have c6b1 : (t146 != 0) = false := bne_eq_false_iff_eq.mpr c6
  clear c6
  by_cases c7 : (t140.length : Int) = a2
  rotate_left
  · rw [if_neg c7] at H
    have c7b0 : ((t140.length : Int) == a2) = false := beq_eq_false_iff_ne.mpr c7
    have c7b1 : ((t140.length : Int) != a2) = true := bne_iff_ne.mpr c7
    obtain rfl := Option.some.inj H
    go_enter Try.func12, Try.ntmps12
    go_wp2_with ((((with_reducible refine gate_callee (f := 8) rfl ?_); refine goesL_ (some 15) rfl rfl Try.func8 (by kernel_rfl) rfl #[.slice A0 l0.length c0, .slice A1 l1.length c1] rfl (by (try simp only [List.map_toArray, List.map_cons, List.map_nil]); (rfl)) ?_; (with_reducible refine (chain_Entries.calls k _ _ l0 _ _ l1 t140 t143 t146 _ ?side1 ?side2 ?side3 ?side4 A5.out).mono ?_); (case side1 => repeat (exact HR0.out)); (case side2 => exact HC0.out); (case side3 => repeat (exact HR1.out)); (case side4 => exact HC1.out); rintro e w12 ⟨v141, v144, rfl, ho0, ho1, hb⟩; refine ⟨_, rfl, ?_⟩; have n0_ := Aside0.mk (Kd.V_lower (Kd.V_mono (ok' := fun k_ => True) ho0 (fun k_ hk_ => trivial)) (below_size HB.out)); have n1_ := Aside0.mk (Kd.V_lower (Kd.V_mono (ok' := fun k_ => True) ho1 (fun k_ hk_ => trivial)) (below_size HB.out)); have n2_ := Aside0.mk (below_step HB.out hb); clear HB; have HO142 := n0_; have HO145 := n1_; have HB := n2_; clear n0_ n1_ n2_; (try clear hb); (try clear ho0); (try clear ho1); obtain ⟨Ao13, co13, eo13⟩ := Kd.V_slice HO142.out; subst eo13)))
    go_ret
    exact ⟨by (rfl), HB.out⟩
  rw [if_pos c7] at H
  have c7b0 : ((t140.length : Int) == a2) = true := beq_iff_eq.mpr c7
  have c7b1 : ((t140.length : Int) != a2) = false := bne_eq_false_iff_eq.mpr c7
  clear c7
  replace H := Option.bind_eq_some_iff.mp H
  obtain ⟨t147, A80, H⟩ := H
  replace H : (some t147) = some r := H
  have A8 := Aside0.mk A80
  clear A80
  obtain rfl := Option.some.inj H
  go_enter Try.func12, Try.ntmps12
  go_wp2_with (first | ((with_reducible refine gate_callee (f := 8) rfl ?_); refine goesL_ (some 15) rfl rfl Try.func8 (by kernel_rfl) rfl #[.slice A0 l0.length c0, .slice A1 l1.length c1] rfl (by (try simp only [List.map_toArray, List.map_cons, List.map_nil]); (rfl)) ?_; (with_reducible refine (chain_Entries.calls k _ _ l0 _ _ l1 t140 t143 t146 _ ?side1 ?side2 ?side3 ?side4 A5.out).mono ?_); (case side1 => repeat (exact HR0.out)); (case side2 => exact HC0.out); (case side3 => repeat (exact HR1.out)); (case side4 => exact HC1.out); rintro e w9 ⟨v141, v144, rfl, ho0, ho1, hb⟩; refine ⟨_, rfl, ?_⟩; have n0_ := Aside0.mk (Kd.V_lower (Kd.V_mono (ok' := fun k_ => True) ho0 (fun k_ hk_ => trivial)) (below_size HB.out)); have n1_ := Aside0.mk (Kd.V_lower (Kd.V_mono (ok' := fun k_ => True) ho1 (fun k_ hk_ => trivial)) (below_size HB.out)); have n2_ := Aside0.mk (below_step HB.out hb); clear HB; have HO142 := n0_; have HO145 := n1_; have HB := n2_; clear n0_ n1_ n2_; (try clear hb); (try clear ho0); (try clear ho1); obtain ⟨Ao10, co10, eo10⟩ := Kd.V_slice HO142.out; subst eo10; obtain ⟨Ao11, co11, eo11⟩ := Kd.V_slice HO145.out; subst eo11) | (go_at_call 27; (with_reducible refine (hmac_Same.calls k _ _ t143 _ _ l3 t147 _ ?side1 ?side2 ?side3 ?side4 A8.out).mono ?_); (case side1 => repeat ((exact (Kd.V_reads' HO145.out).2.2))); (case side2 => exact (Kd.V_reads' HO145.out).2.1); (case side3 => exact Kd.C_below HR3.out HB.out); (case side4 => exact HC3.out); rintro e w' ⟨rfl, ⟨nd, rfl⟩⟩))
  go_ret
  exact ⟨by (rfl), by repeat (with_reducible first | exact HB.out | apply pw_below_drewN)⟩/-! ### notaryref47_First: function 19 -/
def notaryref47_First.f  : Option (List Int) := if 32 ≤ 281474976710656 then (some (List.replicate 32 0)) else (none)
set_option maxHeartbeats 8000000 in
set_option maxRecDepth 100000 in
theorem notaryref47_First.calls  (r : List Int) (w : World) (h : notaryref47_First.f  = some r) :
    Calls Try.prog 19 #[] w fun e w' => ∃ v0_ : Value, e = .returned (v0_) ∧ Kd.R (Kd.int .u8) 5 w' w.heap.size (fun _ => True) v0_ r ∧ Below w.heap.size w w' := by
  have HB := Aside0.mk (Below.refl w.heap.size w)
  have H : (if 32 ≤ 281474976710656 then (some (List.replicate 32 0)) else (none)) = some r := h
  clear h
  by_cases c1 : 32 ≤ 281474976710656
  rotate_left
  · rw [if_neg c1] at H
    exact absurd H (by simp)


  rw [if_pos c1] at H
  have c1b0 := eq_true c1
  have c1b1 : decide (32 ≤ 281474976710656) = true := decide_eq_true c1
  clear c1
  obtain ⟨y148, hy148⟩ : ∃ y_ : List Int, y_ = (List.replicate 32 0) := ⟨_, rfl⟩
  replace H : (some y148) = some r := by (rw [hy148]; with_reducible exact H)
  have Ny148 := Aside0.mk hy148
  clear hy148
  obtain rfl := Option.some.inj H
  go_enter Try.func19, Try.ntmps19
  go_wp2_with ((((with_reducible refine gate_dst (N := 1) rfl ?_); refine Kd.R_make (Kd.int .u8) _ 5 rfl (N := 1) rfl 22 _ _ rfl 32 rfl rfl Try.underlying22 (.int .u8 0) 1 info5 rfl (by decide) (by omega) 0 (ok := fun _ => True) (okp := fun _ => True) rfl (fun _ hk => hk) trivial (by omega) (by omega) (Below.refl _ _) (Nat.le_refl _) ?_; intro v149 w2 ho3 hb hg_ hnew_; clear hg_ hnew_; (simp only [Int.reduceToNat] at ho3; rw [← Ny148.out] at ho3); have n0_ := Aside0.mk (Kd.R_lower ho3 (below_size HB.out)); have n1_ := Aside0.mk (below_step HB.out hb); clear HB; have HO150 := n0_; have HB := n1_; clear n0_ n1_; clear hb ho3)))
  go_ret
  exact ⟨_, by (rfl), by exact HO150.out, HB.out⟩/-! ### notarylaw47_awake: function 7 -/
def notarylaw47_awake.f (k : Nat)  : Option (Bool) := (notaryref47_First.f).bind fun t151 => ((chain_Verify.f k ([] : List Int) ([] : List Int) 0 t151).bind fun t154 => (if t154 = true then ((chain_First.f).bind fun t155 => (some ((t155.length : Int) == 32))) else (some false)))
theorem notarylaw47_awake.mono : ∀ k, LeO (notarylaw47_awake.f k ) (notarylaw47_awake.f (k + 1) ) := by
  intro  k
  unfold notarylaw47_awake.f
  repeat' first | (with_reducible exact chain_Verify.mono _ _ _ _ _) | (with_reducible exact LeO.refl _) | (with_reducible refine LeO.bind ?_ (fun _ => ?_))
set_option maxHeartbeats 8000000 in
set_option maxRecDepth 100000 in
theorem notarylaw47_awake.calls (k : Nat)  (r : Bool) (w : World) (h : notarylaw47_awake.f k  = some r) :
    Calls Try.prog 7 #[] w fun e w' => e = .returned (.bool r) ∧ Below w.heap.size w w' := by
  have HB := Aside0.mk (Below.refl w.heap.size w)
  have H : ((notaryref47_First.f).bind fun t151 => ((chain_Verify.f k ([] : List Int) ([] : List Int) 0 t151).bind fun t154 => (if t154 = true then ((chain_First.f).bind fun t155 => (some ((t155.length : Int) == 32))) else (some false)))) = some r := h
  clear h
  replace H := Option.bind_eq_some_iff.mp H
  obtain ⟨t151, A10, H⟩ := H
  replace H : ((chain_Verify.f k ([] : List Int) ([] : List Int) 0 t151).bind fun t154 => (if t154 = true then ((chain_First.f).bind fun t155 => (some ((t155.length : Int) == 32))) else (some false))) = some r := H
  have A1 := Aside0.mk A10
  clear A10
  replace H := Option.bind_eq_some_iff.mp H
  obtain ⟨t154, A20, H⟩ := H
  replace H : (if t154 = true then ((chain_First.f).bind fun t155 => (some ((t155.length : Int) == 32))) else (some false)) = some r := H
  have A2 := Aside0.mk A20
  clear A20
  by_cases c3 : t154 = true
  rotate_left
  · replace c3 := Bool.eq_false_iff.mpr c3
    subst c3
    have H1 : (some false) = some r := by rw [if_neg (show ¬ (false = true) by decide)] at H; exact H
    clear H
    have H := H1
    clear H1
    obtain rfl := Option.some.inj H
    go_enter Try.func7, Try.ntmps7
    go_wp2_with (first | ((with_reducible refine gate_callee (f := 19) rfl ?_); refine goesL_ (some 1) rfl rfl Try.func19 (by kernel_rfl) rfl #[] rfl (by (try simp only [List.map_toArray, List.map_cons, List.map_nil]); (done)) ?_; (with_reducible refine (notaryref47_First.calls  t151 _ A1.out).mono ?_); rintro e w10 ⟨v152, rfl, ho0, hb⟩; refine ⟨_, rfl, ?_⟩; have n0_ := Aside0.mk (Kd.R_lower ho0 (below_size HB.out)); have n1_ := Aside0.mk (below_step HB.out hb); clear HB; have HO153 := n0_; have HB := n1_; clear n0_ n1_; (try clear hb); (try clear ho0); obtain ⟨Ao11, co11, eo11⟩ := Kd.R_slice HO153.out; subst eo11) | ((with_reducible refine gate_callee (f := 12) rfl ?_); refine goesL_ (some 2) rfl rfl Try.func12 (by kernel_rfl) rfl #[.slice none 0 0, .slice none 0 0, .int .i64 0, .slice Ao11 t151.length co11] rfl (by (try simp only [List.map_toArray, List.map_cons, List.map_nil]); (rfl)) ?_; (refine (chain_Verify.calls k _ _ ([] : List Int) _ _ ([] : List Int) 0 _ _ t151 false _ ?side1 ?side2 ?side3 ?side4 ?side5 ?side6 A2.out).mono ?_); (case side1 => exact Kd.C_nil _ _); (case side2 => exact Nat.le_refl _); (case side3 => exact Kd.C_nil _ _); (case side4 => exact Nat.le_refl _); (case side5 => repeat ((exact (Kd.R_reads' HO153.out).2.2))); (case side6 => exact (Kd.R_reads' HO153.out).2.1); rintro e w12 ⟨rfl, hb⟩; refine ⟨_, rfl, ?_⟩; have n0_ := Aside0.mk (Kd.R_below (by exact HO153.out) hb); have n1_ := Aside0.mk (below_step HB.out hb); clear HO153; clear HB; have HO153 := n0_; have HB := n1_; clear n0_ n1_; (try clear hb); (skip)))
    go_ret
    exact ⟨by (rfl), HB.out⟩


  subst c3
  have H1 : ((chain_First.f).bind fun t155 => (some ((t155.length : Int) == 32))) = some r := by rw [if_pos rfl] at H; exact H
  clear H
  have H := H1
  clear H1
  replace H := Option.bind_eq_some_iff.mp H
  obtain ⟨t155, A40, H⟩ := H
  replace H : (some ((t155.length : Int) == 32)) = some r := H
  have A4 := Aside0.mk A40
  clear A40
  obtain rfl := Option.some.inj H
  go_enter Try.func7, Try.ntmps7
  go_wp2_with (first | ((with_reducible refine gate_callee (f := 19) rfl ?_); refine goesL_ (some 1) rfl rfl Try.func19 (by kernel_rfl) rfl #[] rfl (by (try simp only [List.map_toArray, List.map_cons, List.map_nil]); (done)) ?_; (with_reducible refine (notaryref47_First.calls  t151 _ A1.out).mono ?_); rintro e w5 ⟨v152, rfl, ho0, hb⟩; refine ⟨_, rfl, ?_⟩; have n0_ := Aside0.mk (Kd.R_lower ho0 (below_size HB.out)); have n1_ := Aside0.mk (below_step HB.out hb); clear HB; have HO153 := n0_; have HB := n1_; clear n0_ n1_; (try clear hb); (try clear ho0); obtain ⟨Ao6, co6, eo6⟩ := Kd.R_slice HO153.out; subst eo6) | ((with_reducible refine gate_callee (f := 12) rfl ?_); refine goesL_ (some 2) rfl rfl Try.func12 (by kernel_rfl) rfl #[.slice none 0 0, .slice none 0 0, .int .i64 0, .slice Ao6 t151.length co6] rfl (by (try simp only [List.map_toArray, List.map_cons, List.map_nil]); (rfl)) ?_; (refine (chain_Verify.calls k _ _ ([] : List Int) _ _ ([] : List Int) 0 _ _ t151 true _ ?side1 ?side2 ?side3 ?side4 ?side5 ?side6 A2.out).mono ?_); (case side1 => exact Kd.C_nil _ _); (case side2 => exact Nat.le_refl _); (case side3 => exact Kd.C_nil _ _); (case side4 => exact Nat.le_refl _); (case side5 => repeat ((exact (Kd.R_reads' HO153.out).2.2))); (case side6 => exact (Kd.R_reads' HO153.out).2.1); rintro e w7 ⟨rfl, hb⟩; refine ⟨_, rfl, ?_⟩; have n0_ := Aside0.mk (Kd.R_below (by exact HO153.out) hb); have n1_ := Aside0.mk (below_step HB.out hb); clear HO153; clear HB; have HO153 := n0_; have HB := n1_; clear n0_ n1_; (try clear hb); (skip)) | (go_at_call 23; (with_reducible refine (chain_First.calls  t155 _ A4.out).mono ?_); rintro e w8 ⟨v156, rfl, ho0, hb⟩; have n0_ := Aside0.mk (Kd.R_elder' (by exact HO153.out) (Kd.R_base ho0) hb); have n1_ := Aside0.mk (Kd.R_lower (Kd.R_new' ho0 (Kd.R_lt (by exact HO153.out))) (below_size HB.out)); have n2_ := Aside0.mk (below_step HB.out hb); clear HO153; clear HB; have HO153 := n0_; have HO157 := n1_; have HB := n2_; clear n0_ n1_ n2_; (try clear hb); (try clear ho0); obtain ⟨Ao9, co9, eo9⟩ := Kd.R_slice HO157.out; subst eo9))
  go_ret
  exact ⟨by (rfl), HB.out⟩/-! ### notaryref01_Same: function 11 -/
def notaryref01_Same.l0 : Nat → List Int → List Int → Int → Option (Bool)
  | 0, _, _, _ => none
  | k + 1, x0, x1, x5 => if x5 < (x0.length : Int) then (if 0 ≤ x5 then (if x5 < (x1.length : Int) then (if (rd x0 x5) = (rd x1 x5) then (notaryref01_Same.l0 k x0 x1 (wrap64 (x5 + 1))) else (some false)) else (none)) else (none)) else (some true)
def notaryref01_Same.f (k : Nat) (l0 : List Int) (l1 : List Int) : Option (Bool) := if (l0.length : Int) = (l1.length : Int) then (notaryref01_Same.l0 k l0 l1 0) else (some false)
theorem notaryref01_Same.mono_l : ∀ k, (∀ y0 y1 y2, LeO (notaryref01_Same.l0 k y0 y1 y2) (notaryref01_Same.l0 (k + 1) y0 y1 y2))
  | 0 => fun _ _ _ r h => by simp [notaryref01_Same.l0] at h
  | k + 1 => by
    have ih0 := notaryref01_Same.mono_l k
    · intro y0 y1 y2
      unfold notaryref01_Same.l0
      repeat' first | (with_reducible exact ih0 _ _ _) | (with_reducible exact LeO.refl _) | (with_reducible refine LeO.ite ?_ ?_)
theorem notaryref01_Same.mono : ∀ a0 a1 k, LeO (notaryref01_Same.f k a0 a1) (notaryref01_Same.f (k + 1) a0 a1) := by
  intro a0 a1 k
  have ih0 := notaryref01_Same.mono_l k
  unfold notaryref01_Same.f
  repeat' first | (with_reducible exact ih0 _ _ _) | (with_reducible exact LeO.refl _) | (with_reducible refine LeO.ite ?_ ?_)
set_option maxHeartbeats 8000000 in
set_option maxRecDepth 100000 in
theorem notaryref01_Same.calls (k : Nat) (A0 : Option Addr) (c0 : Nat) (l0 : List Int) (A1 : Option Addr) (c1 : Nat) (l1 : List Int) (r : Bool) (w : World) (hr0 : Kd.C (Kd.int .u8) w A0 l0.length l0) (hc0 : l0.length ≤ c0) (hr1 : Kd.C (Kd.int .u8) w A1 l1.length l1) (hc1 : l1.length ≤ c1) (h : notaryref01_Same.f k l0 l1 = some r) :
    Calls Try.prog 11 #[.slice A0 l0.length c0, .slice A1 l1.length c1] w fun e w' => e = .returned (.bool r) ∧ Drawn0 w w' := by
  have HR0 := Aside0.mk hr0
  have HC0 := Aside0.mk hc0
  clear hr0 hc0
  have HR1 := Aside0.mk hr1
  have HC1 := Aside0.mk hc1
  clear hr1 hc1
  have H : (if (l0.length : Int) = (l1.length : Int) then (notaryref01_Same.l0 k l0 l1 0) else (some false)) = some r := h
  clear h
  by_cases c3 : (l0.length : Int) = (l1.length : Int)
  rotate_left
  · rw [if_neg c3] at H
    have c3b0 : ((l0.length : Int) == (l1.length : Int)) = false := beq_eq_false_iff_ne.mpr c3
    have c3b1 : ((l0.length : Int) != (l1.length : Int)) = true := bne_iff_ne.mpr c3
    have c3b2 : (l0.length == l1.length) = false := by (simp at c3 ⊢; omega)
    obtain rfl := Option.some.inj H
    go_enter Try.func11, Try.ntmps11
    go_wp2
    repeat (go_quiet (fail); skip)
    go_ret
    exact ⟨by (rfl), by repeat (exact Drawn0.refl _)⟩


  rw [if_pos c3] at H
  have c3b0 : ((l0.length : Int) == (l1.length : Int)) = true := beq_iff_eq.mpr c3
  have c3b1 : ((l0.length : Int) != (l1.length : Int)) = false := bne_eq_false_iff_eq.mpr c3
  have c3b2 : (l0.length == l1.length) = true := by (simp at c3 ⊢; omega)
  clear c3
  have H' := Aside0.mk H
  clear H
  go_enter Try.func11, Try.ntmps11
  go_wp2
  repeat (go_quiet (fail); skip)
  go_loopg [5] k (fun kq v5 w' => ∃ (x5_1 : Int), v5 = .int .i64 x5_1 ∧ Aside0 (notaryref01_Same.l0 kq l0 l1 x5_1 = some r) ∧ Aside0 (kq ≤ k) ∧ Drawn0 w w')
  case atStart => exact ⟨(0), (by (rfl)), H', ⟨Nat.le_refl _⟩, by repeat (exact Drawn0.refl _)⟩
  clear H'
  try clear c3b0
  try clear c3b1
  try clear c3b2
  obtain ⟨x5_1, rfl, HA, HK1, ⟨m1, rfl⟩⟩ := hrel
  rcases gk with _ | k1
  · exact absurd HA.out (by simp [notaryref01_Same.l0])
  have H := HA.out
  clear HA
  simp only [notaryref01_Same.l0] at H
  by_cases c4 : x5_1 < (l0.length : Int)
  rotate_left
  · rw [if_neg c4] at H
    have c4b0 : decide (x5_1 < (l0.length : Int)) = false := decide_eq_false c4
    clear c4
    obtain rfl := Option.some.inj H
    go_wp2
    repeat (go_quiet (fail); skip)
    go_ret
    exact ⟨by (rfl), by repeat (first | exact Drawn0.refl _ | apply Drawn0.step)⟩
  rw [if_pos c4] at H
  have c4b0 : decide (x5_1 < (l0.length : Int)) = true := decide_eq_true c4
  clear c4
  by_cases c5 : 0 ≤ x5_1
  rotate_left
  · rw [if_neg c5] at H
    exact absurd H (by simp)
  rw [if_pos c5] at H
  have c5b0 : decide (0 ≤ x5_1) = true := decide_eq_true c5
  clear c5
  by_cases c6 : x5_1 < (l1.length : Int)
  rotate_left
  · rw [if_neg c6] at H
    exact absurd H (by simp)
  rw [if_pos c6] at H
  have c6b0 : decide (x5_1 < (l1.length : Int)) = true := decide_eq_true c6
  clear c6
  by_cases c7 : (rd l0 x5_1) = (rd l1 x5_1)
  rotate_left
  · rw [if_neg c7] at H
    have c7b0 : ((rd l0 x5_1) == (rd l1 x5_1)) = false := beq_eq_false_iff_ne.mpr c7
    have c7b1 : ((rd l0 x5_1) != (rd l1 x5_1)) = true := bne_iff_ne.mpr c7
    obtain rfl := Option.some.inj H
    have p158 : 0 ≤ (x5_1 : Int) := of_decide_eq_true (by (with_reducible assumption))
    have q158 : x5_1 < (l0.length : Int) := of_decide_eq_true (by (with_reducible assumption))
    obtain ⟨ad158, e158, hx158_0⟩ := Kd.at_int HR0.out x5_1 p158 q158
    cases e158
    replace p158 := eq_true p158
    replace q158 := eq_true q158
    have p159 : 0 ≤ (x5_1 : Int) := of_decide_eq_true (by (with_reducible assumption))
    have q159 : x5_1 < (l1.length : Int) := of_decide_eq_true (by (with_reducible assumption))
    obtain ⟨ad159, e159, hx159_0⟩ := Kd.at_int HR1.out x5_1 p159 q159
    cases e159
    replace p159 := eq_true p159
    replace q159 := eq_true q159
    go_wp2
    repeat (go_quiet (fail); try go_wp2)
    go_ret
    exact ⟨by (rfl), by repeat (first | exact Drawn0.refl _ | apply Drawn0.step)⟩
  rw [if_pos c7] at H
  have c7b0 : ((rd l0 x5_1) == (rd l1 x5_1)) = true := beq_iff_eq.mpr c7
  have c7b1 : ((rd l0 x5_1) != (rd l1 x5_1)) = false := bne_eq_false_iff_eq.mpr c7
  clear c7
  have H' := Aside0.mk H
  clear H
  have p158 : 0 ≤ (x5_1 : Int) := of_decide_eq_true (by (with_reducible assumption))
  have q158 : x5_1 < (l0.length : Int) := of_decide_eq_true (by (with_reducible assumption))
  obtain ⟨ad158, e158, hx158_0⟩ := Kd.at_int HR0.out x5_1 p158 q158
  cases e158
  replace p158 := eq_true p158
  replace q158 := eq_true q158
  have p159 : 0 ≤ (x5_1 : Int) := of_decide_eq_true (by (with_reducible assumption))
  have q159 : x5_1 < (l1.length : Int) := of_decide_eq_true (by (with_reducible assumption))
  obtain ⟨ad159, e159, hx159_0⟩ := Kd.at_int HR1.out x5_1 p159 q159
  cases e159
  replace p159 := eq_true p159
  replace q159 := eq_true q159
  go_wp2
  repeat (go_quiet (fail); try go_wp2)
  go_roundg k1
  case measure => have := HK1.out; omega
  case rel => exact ⟨(wrap64 (x5_1 + 1)), (by (rfl)), H', ⟨by have := HK1.out; omega⟩, by repeat (first | exact Drawn0.refl _ | apply Drawn0.step)⟩/-! ### notaryref46_Same: function 30 -/
def notaryref46_Same.f (k : Nat) (a0_0 : Int) (l0_1 : List Int) (a1_0 : Int) (l1_1 : List Int) : Option (Bool) := if a0_0 = a1_0 then ((notaryref01_Same.f k l0_1 l1_1).bind fun t162 => (some t162)) else (some false)
theorem notaryref46_Same.mono : ∀ a0 a1 a2 a3 k, LeO (notaryref46_Same.f k a0 a1 a2 a3) (notaryref46_Same.f (k + 1) a0 a1 a2 a3) := by
  intro a0 a1 a2 a3 k
  unfold notaryref46_Same.f
  repeat' first | (with_reducible exact notaryref01_Same.mono _ _ _) | (with_reducible exact LeO.refl _) | (with_reducible refine LeO.ite ?_ ?_) | (with_reducible refine LeO.bind ?_ (fun _ => ?_))
set_option maxHeartbeats 8000000 in
set_option maxRecDepth 100000 in
theorem notaryref46_Same.calls (k : Nat) (a0_0 : Int) (A0_1 : Option Addr) (c0_1 : Nat) (l0_1 : List Int) (a1_0 : Int) (A1_1 : Option Addr) (c1_1 : Nat) (l1_1 : List Int) (r : Bool) (w : World) (hr0_1 : Kd.C (Kd.int .u8) w A0_1 l0_1.length l0_1) (hc0_1 : l0_1.length ≤ c0_1) (hr1_1 : Kd.C (Kd.int .u8) w A1_1 l1_1.length l1_1) (hc1_1 : l1_1.length ≤ c1_1) (h : notaryref46_Same.f k a0_0 l0_1 a1_0 l1_1 = some r) :
    Calls Try.prog 30 #[.agg #[.int .i64 a0_0, .slice A0_1 l0_1.length c0_1], .agg #[.int .i64 a1_0, .slice A1_1 l1_1.length c1_1]] w fun e w' => e = .returned (.bool r) ∧ Below w.heap.size w w' := by
  have hu42 := Try.underlying42
  have HR0_1 := Aside0.mk hr0_1
  have HC0_1 := Aside0.mk hc0_1
  clear hr0_1 hc0_1
  have HR1_1 := Aside0.mk hr1_1
  have HC1_1 := Aside0.mk hc1_1
  clear hr1_1 hc1_1
  have HB := Aside0.mk (Below.refl w.heap.size w)
  have H : (if a0_0 = a1_0 then ((notaryref01_Same.f k l0_1 l1_1).bind fun t162 => (some t162)) else (some false)) = some r := h
  clear h
  by_cases c3 : a0_0 = a1_0
  rotate_left
  · rw [if_neg c3] at H
    have c3b0 : (a0_0 == a1_0) = false := beq_eq_false_iff_ne.mpr c3
    have c3b1 : (a0_0 != a1_0) = true := bne_iff_ne.mpr c3
    obtain rfl := Option.some.inj H
    go_enter Try.func30, Try.ntmps30
    go_wp2_with (first | ((with_reducible refine gate_dst (N := 2) rfl ?_); refine box_event ?hg (N := 2) ?hd (cs := #[.int .i64 a0_0, .slice A0_1 l0_1.length c0_1]) (t := 42) ?hr ?_; (case hd => rfl); (case hg => rfl); (case hr => (go_simp; done)); intro gb160 hg w10 hbox hb; have n0_ := Aside0.mk (below_step HB.out hb); have n1_ := Aside0.mk (hbox); have n2_ := Aside0.mk ((by rw [hg]; exact (below_size HB.out) : w.heap.size ≤ gb160)); have n3_ := Aside0.mk ((by rw [hg]; exact (below_size HB.out) : w.heap.size ≤ gb160)); clear HB; have HB := n0_; have BK160 := n1_; have GW160 := n2_; have GE160 := n3_; clear n0_ n1_ n2_ n3_; clear hb hbox hg) | ((with_reducible refine gate_dst (N := 3) rfl ?_); refine box_event ?hg (N := 3) ?hd (cs := #[.int .i64 a1_0, .slice A1_1 l1_1.length c1_1]) (t := 42) ?hr ?_; (case hd => rfl); (case hg => rfl); (case hr => (go_simp; done)); intro gb161 hg w11 hbox hb; have n0_ := Aside0.mk (blk_below (g := gb160) (o := .cells #[.int .i64 a0_0, .slice A0_1 l0_1.length c0_1] 42 (0, 0)) (by exact BK160.out) hb); have n1_ := Aside0.mk (below_step HB.out hb); have n2_ := Aside0.mk (hbox); have n3_ := Aside0.mk ((by rw [hg]; exact (below_size HB.out) : w.heap.size ≤ gb161)); have n4_ := Aside0.mk ((by rw [hg]; exact (below_size HB.out) : w.heap.size ≤ gb161)); have n5_ := Aside0.mk ((by rw [hg]; exact Nat.ne_of_lt (blk_lt (g := gb160) (o := .cells #[.int .i64 a0_0, .slice A0_1 l0_1.length c0_1] 42 (0, 0)) (by exact BK160.out)) : gb160 ≠ gb161)); have n6_ := Aside0.mk ((by rw [hg]; exact Nat.ne_of_gt (blk_lt (g := gb160) (o := .cells #[.int .i64 a0_0, .slice A0_1 l0_1.length c0_1] 42 (0, 0)) (by exact BK160.out)) : gb161 ≠ gb160)); clear BK160; clear HB; have BK160 := n0_; have HB := n1_; have BK161 := n2_; have GW161 := n3_; have GE161 := n4_; have NB160_161 := n5_; have NB161_160 := n6_; clear n0_ n1_ n2_ n3_ n4_ n5_ n6_; clear hb hbox hg; have hnb12 := NB160_161.out; have hnc12 := NB161_160.out; have hcz13_0 : w11.cell? ⟨gb160, 0, none⟩ = some (.int .i64 a0_0) := (blk_cell BK160.out 0).trans rfl; have hcz13_1 : w11.cell? ⟨gb160, 1, none⟩ = some (.slice A0_1 l0_1.length c0_1) := (blk_cell BK160.out 1).trans rfl; have hfz13_0 := blk_frozen BK160.out 0; have hfz13_1 := blk_frozen BK160.out 1; have hcz14_0 : w11.cell? ⟨gb161, 0, none⟩ = some (.int .i64 a1_0) := (blk_cell BK161.out 0).trans rfl; have hcz14_1 : w11.cell? ⟨gb161, 1, none⟩ = some (.slice A1_1 l1_1.length c1_1) := (blk_cell BK161.out 1).trans rfl; have hfz14_0 := blk_frozen BK161.out 0; have hfz14_1 := blk_frozen BK161.out 1))
    go_ret
    exact ⟨by (rfl), HB.out⟩

  rw [if_pos c3] at H
  have c3b0 : (a0_0 == a1_0) = true := beq_iff_eq.mpr c3
  have c3b1 : (a0_0 != a1_0) = false := bne_eq_false_iff_eq.mpr c3
  clear c3
  replace H := Option.bind_eq_some_iff.mp H
  obtain ⟨t162, A40, H⟩ := H
  replace H : (some t162) = some r := H
  have A4 := Aside0.mk A40
  clear A40
  obtain rfl := Option.some.inj H
  go_enter Try.func30, Try.ntmps30
  go_wp2_with (first | ((with_reducible refine gate_dst (N := 2) rfl ?_); refine box_event ?hg (N := 2) ?hd (cs := #[.int .i64 a0_0, .slice A0_1 l0_1.length c0_1]) (t := 42) ?hr ?_; (case hd => rfl); (case hg => rfl); (case hr => (go_simp; done)); intro gb160 hg w5 hbox hb; have n0_ := Aside0.mk (below_step HB.out hb); have n1_ := Aside0.mk (hbox); have n2_ := Aside0.mk ((by rw [hg]; exact (below_size HB.out) : w.heap.size ≤ gb160)); have n3_ := Aside0.mk ((by rw [hg]; exact (below_size HB.out) : w.heap.size ≤ gb160)); clear HB; have HB := n0_; have BK160 := n1_; have GW160 := n2_; have GE160 := n3_; clear n0_ n1_ n2_ n3_; clear hb hbox hg) | ((with_reducible refine gate_dst (N := 3) rfl ?_); refine box_event ?hg (N := 3) ?hd (cs := #[.int .i64 a1_0, .slice A1_1 l1_1.length c1_1]) (t := 42) ?hr ?_; (case hd => rfl); (case hg => rfl); (case hr => (go_simp; done)); intro gb161 hg w6 hbox hb; have n0_ := Aside0.mk (blk_below (g := gb160) (o := .cells #[.int .i64 a0_0, .slice A0_1 l0_1.length c0_1] 42 (0, 0)) (by exact BK160.out) hb); have n1_ := Aside0.mk (below_step HB.out hb); have n2_ := Aside0.mk (hbox); have n3_ := Aside0.mk ((by rw [hg]; exact (below_size HB.out) : w.heap.size ≤ gb161)); have n4_ := Aside0.mk ((by rw [hg]; exact (below_size HB.out) : w.heap.size ≤ gb161)); have n5_ := Aside0.mk ((by rw [hg]; exact Nat.ne_of_lt (blk_lt (g := gb160) (o := .cells #[.int .i64 a0_0, .slice A0_1 l0_1.length c0_1] 42 (0, 0)) (by exact BK160.out)) : gb160 ≠ gb161)); have n6_ := Aside0.mk ((by rw [hg]; exact Nat.ne_of_gt (blk_lt (g := gb160) (o := .cells #[.int .i64 a0_0, .slice A0_1 l0_1.length c0_1] 42 (0, 0)) (by exact BK160.out)) : gb161 ≠ gb160)); clear BK160; clear HB; have BK160 := n0_; have HB := n1_; have BK161 := n2_; have GW161 := n3_; have GE161 := n4_; have NB160_161 := n5_; have NB161_160 := n6_; clear n0_ n1_ n2_ n3_ n4_ n5_ n6_; clear hb hbox hg; have hnb7 := NB160_161.out; have hnc7 := NB161_160.out; have hcz8_0 : w6.cell? ⟨gb160, 0, none⟩ = some (.int .i64 a0_0) := (blk_cell BK160.out 0).trans rfl; have hcz8_1 : w6.cell? ⟨gb160, 1, none⟩ = some (.slice A0_1 l0_1.length c0_1) := (blk_cell BK160.out 1).trans rfl; have hfz8_0 := blk_frozen BK160.out 0; have hfz8_1 := blk_frozen BK160.out 1; have hcz9_0 : w6.cell? ⟨gb161, 0, none⟩ = some (.int .i64 a1_0) := (blk_cell BK161.out 0).trans rfl; have hcz9_1 : w6.cell? ⟨gb161, 1, none⟩ = some (.slice A1_1 l1_1.length c1_1) := (blk_cell BK161.out 1).trans rfl; have hfz9_0 := blk_frozen BK161.out 0; have hfz9_1 := blk_frozen BK161.out 1) | (go_at_call 11; (with_reducible refine (notaryref01_Same.calls k _ _ l0_1 _ _ l1_1 t162 _ ?side1 ?side2 ?side3 ?side4 A4.out).mono ?_); (case side1 => exact Kd.C_below HR0_1.out HB.out); (case side2 => exact HC0_1.out); (case side3 => exact Kd.C_below HR1_1.out HB.out); (case side4 => exact HC1_1.out); rintro e w' ⟨rfl, ⟨nd, rfl⟩⟩))
  go_ret
  exact ⟨by (rfl), by repeat (with_reducible first | exact HB.out | apply pw_below_drewN)⟩
end Go.Proofs.Ytnkkgeglnmggpaa.PCb
