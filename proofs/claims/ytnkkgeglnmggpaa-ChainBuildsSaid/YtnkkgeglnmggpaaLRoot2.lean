/- What the reference's functions on great numbers and roots answer. -/
import Derived.Test.YtnkkgeglnmggpaaLRoot
namespace Go.Proofs.Ytnkkgeglnmggpaa.LRoot
open Go.RowKit Go.Proofs.Ytnkkgeglnmggpaa.SRoot Go.Proofs.Ytnkkgeglnmggpaa.PCb Go.Proofs.YtnkkgeglnmggpaaW.PrintWords Go.Proofs.YtnkkgeglnmggpaaW.PrintLast Go.Proofs.YtnkkgeglnmggpaaW.PrintMore
set_option linter.unusedVariables false
set_option linter.unusedSimpArgs false

theorem rd_at (l : List Int) (i : Nat) (h : i < l.length) : rd l (i : Int) = l[i] := by
  unfold rd
  rw [Int.toNat_natCast, List.getD_eq_getElem?_getD, List.getElem?_eq_getElem h]; rfl
theorem pow16_pos (i : Nat) : (0 : Int) < 65536 ^ i := Int.pow_pos (by decide)

theorem times_l1 : ∀ (n i : Nat) (out : List Int) (o : Int), n + i = 4 → 0 ≤ o → o < 65536 ^ n → Dig out → out.length + n ≤ 100 →
    ∃ b, Ev (fun k => notaryref02_Times.l1 k out o (i : Int)) b ∧ Dig b ∧ b.length = out.length + n ∧ val b = val out + o * 65536 ^ out.length := by
  intro n
  induction n with
  | zero =>
    intro i out o hn h0 h1 hd hl
    have ho : o = 0 := by simp at h1; omega
    subst ho
    refine ⟨out, Ev.step (f := fun _ => some out) (fun k => ?_) (Ev.now _), hd, by simp, by omega⟩
    simp only [notaryref02_Times.l1]
    rw [if_neg (by omega)]
  | succ n ih =>
    intro i out o hn h0 h1 hd hl
    have hp : (65536 : Int) ^ (n + 1) = 65536 * 65536 ^ n := by rw [Int.pow_succ, Int.mul_comm]
    have hb64 : o < 18446744073709551616 := by
      have h4 : (65536 : Nat) ^ (n + 1) ≤ 65536 ^ 4 := Nat.pow_le_pow_right (by decide) (by omega)
      rw [show (65536 : Nat) ^ 4 = 18446744073709551616 by decide] at h4
      have e4 : ((65536 ^ (n + 1) : Nat) : Int) = (65536 : Int) ^ (n + 1) := Int.natCast_pow 65536 (n + 1)
      omega
    have ht : Int.tmod o 65536 = o % 65536 := Int.tmod_eq_emod_of_nonneg h0
    have hq : Int.tdiv o 65536 = o / 65536 := Int.tdiv_eq_ediv_of_nonneg h0
    obtain ⟨b, hb, hbd, hbl, hbv⟩ := ih (i + 1) (out ++ [o % 65536]) (o / 65536) (by omega) (by omega) (by omega) (hd.snoc (by omega) (by omega)) (by simp; omega)
    refine ⟨b, Ev.step (fun k => ?_) hb, hbd, by simp at hbl; omega, ?_⟩
    · simp only [notaryref02_Times.l1]
      rw [if_pos (by omega), if_pos (by omega), ht, hq, u64w, w64 _ (by omega) (by omega), show o / 65536 % 18446744073709551616 = o / 65536 by omega]
      rfl
    · rw [hbv, val_snoc, List.length_append, List.length_singleton, Int.pow_succ]
      have e : o = o % 65536 + o / 65536 * 65536 := by omega
      generalize (65536 : Int) ^ out.length = P
      generalize o % 65536 = x at *
      generalize o / 65536 = y at *
      subst e
      rw [Int.add_mul, Int.mul_comm P, Int.mul_assoc]
      omega
theorem times_l0 (a : List Int) (x : Int) (ha : Dig a) (hal : a.length ≤ 40) (hx0 : 0 ≤ x) (hx1 : x ≤ 4398046511104) : ∀ (n i : Nat) (out : List Int) (o : Int), n + i = a.length → 0 ≤ o → o ≤ x → Dig out → out.length = i → val out + o * 65536 ^ i = val (a.take i) * x →
    ∃ b, Ev (fun k => notaryref02_Times.l0 k a x out o (i : Int)) b ∧ Dig b ∧ b.length = a.length + 4 ∧ val b = val a * x := by
  intro n
  induction n with
  | zero =>
    intro i out o hn h0 h1 hd hl hv
    obtain ⟨b, hb, hbd, hbl, hbv⟩ := times_l1 4 0 out o rfl h0 (by omega) hd (by omega)
    refine ⟨b, Ev.step (fun k => ?_) hb, hbd, by omega, ?_⟩
    · simp only [notaryref02_Times.l0]
      rw [if_neg (by omega)]; rfl
    · rw [hbv, hl, hv, List.take_of_length_le (by omega)]
  | succ n ih =>
    intro i out o hn h0 h1 hd hl hv
    have hi : i < a.length := by omega
    have hda := ha.at_ i hi
    have hm := mul_le a[i] x 65535 x (by omega) hx0 (by omega) (Int.le_refl _)
    have hr := rd_at a i hi
    have htk := val_take_succ a i hi
    generalize a[i] = d at *
    have hm0 : IntKind.u64.wrap (d * x) = d * x := by rw [u64w]; exact Int.emod_eq_of_lt hm.1 (by omega)
    have hv0 : IntKind.u64.wrap (d * x + o) = d * x + o := by rw [u64w]; exact Int.emod_eq_of_lt (by omega) (by omega)
    have hn0 : 0 ≤ d * x + o := by omega
    obtain ⟨b, hb, hbd, hbl, hbv⟩ := ih (i + 1) (out ++ [(d * x + o) % 65536]) ((d * x + o) / 65536) (by omega) (by omega) (by omega) (hd.snoc (by omega) (by omega)) (by simp; omega) (by
      rw [htk, Int.add_mul, ← hv, val_snoc, hl, Int.pow_succ]
      have e : d * x + o = (d * x + o) % 65536 + (d * x + o) / 65536 * 65536 := by omega
      have e3 : d * 65536 ^ i * x = d * x * 65536 ^ i := by rw [Int.mul_assoc, Int.mul_comm _ x, ← Int.mul_assoc]
      rw [e3]
      generalize (65536 : Int) ^ i = P
      generalize d * x = m at *
      have e4 : m * P + o * P = (m + o) % 65536 * P + (m + o) / 65536 * (P * 65536) := by
        rw [← Int.add_mul, Int.mul_comm P, ← Int.mul_assoc, ← Int.add_mul, ← e]
      omega)
    refine ⟨b, Ev.step (fun k => ?_) hb, hbd, hbl, hbv⟩
    simp only [notaryref02_Times.l0]
    rw [if_pos (by omega), if_pos (by omega), if_pos (by omega), hr, hm0, hv0, Int.tmod_eq_emod_of_nonneg hn0, Int.tdiv_eq_ediv_of_nonneg hn0, u64w, w64 _ (by omega) (by omega), Int.emod_eq_of_lt (show 0 ≤ (d * x + o) / 65536 by omega) (by omega)]
    rfl
theorem times_ev (a : List Int) (x : Int) (ha : Dig a) (hal : a.length ≤ 40) (hx0 : 0 ≤ x) (hx1 : x ≤ 4398046511104) :
    ∃ b, Ev (fun k => notaryref02_Times.f k a x) b ∧ Dig b ∧ b.length = a.length + 4 ∧ val b = val a * x := by
  obtain ⟨b, h⟩ := times_l0 a x ha hal hx0 hx1 a.length 0 [] 0 rfl (Int.le_refl _) hx0 Dig.nil rfl (by simp [val])
  exact ⟨b, h⟩

theorem power_l1 : ∀ (n : Nat) (a : List Int), n + a.length = 20 → Dig a → Ev (fun k => notaryref02_Power.l1 k a) (a ++ List.replicate n 0) := by
  intro n
  induction n with
  | zero =>
    intro a hn hd
    refine Ev.step (f := fun _ => some (a ++ List.replicate 0 0)) (fun k => ?_) (Ev.now _)
    simp only [notaryref02_Power.l1]
    rw [if_neg (by omega)]; simp
  | succ n ih =>
    intro a hn hd
    have := ih (a ++ [0]) (by simp; omega) (hd.snoc (by decide) (by decide))
    rw [List.append_assoc, List.singleton_append, ← List.replicate_succ] at this
    refine Ev.step (fun k => ?_) this
    simp only [notaryref02_Power.l1]
    rw [if_pos (by omega), if_pos (by omega)]
theorem power_l0 (x : Nat) (hx1 : x ≤ 4398046511104) (m : Nat) (hm : m ≤ 4) : ∀ (n i : Nat) (a : List Int), n + i = m → Dig a → a.length = 1 + 4 * i → val a = ((x ^ i : Nat) : Int) →
    ∃ b, Ev (fun k => notaryref02_Power.l0 k (x : Int) (m : Int) a (i : Int)) b ∧ Dig b ∧ b.length = 20 ∧ val b = ((x ^ m : Nat) : Int) := by
  intro n
  induction n with
  | zero =>
    intro i a hn hd hl hv
    obtain rfl : i = m := by omega
    have h := power_l1 (20 - a.length) a (by omega) hd
    refine ⟨_, Ev.step (fun k => ?_) h, hd.append ?_, ?_, ?_⟩
    · simp only [notaryref02_Power.l0]
      rw [if_neg (by omega)]
    · intro y hy; rw [List.eq_of_mem_replicate hy]; decide
    · simp; omega
    · rw [val_zeros, hv]
  | succ n ih =>
    intro i a hn hd hl hv
    obtain ⟨t, ht, htd, htl, htv⟩ := times_ev a x hd (by omega) (by omega) (by omega)
    obtain ⟨b, hb, hb2⟩ := ih (i + 1) t (by omega) htd (by omega) (by rw [htv, hv, Nat.pow_succ]; simp)
    refine ⟨b, ?_, hb2⟩
    refine Ev.step (f := fun k => (notaryref02_Times.f k a x).bind fun t => notaryref02_Power.l0 k (x : Int) (m : Int) t ((i + 1 : Nat) : Int)) (fun k => ?_) (Ev.bind ht hb)
    simp only [notaryref02_Power.l0]
    rw [if_pos (by omega), w64 _ (by omega) (by omega)]
    rfl
theorem power_ev (x : Nat) (hx1 : x ≤ 4398046511104) (m : Nat) (hm : m ≤ 4) : ∃ b, Ev (fun k => notaryref02_Power.f k (x : Int) (m : Int)) b ∧ Dig b ∧ b.length = 20 ∧ val b = ((x ^ m : Nat) : Int) :=
  power_l0 x hx1 m hm m 0 [1] rfl (Dig.cons (by decide) (by decide) Dig.nil) rfl (by simp [val])

theorem most_l0 (a b : List Int) (ha : Dig a) (hb : Dig b) (hal : a.length = 20) (hbl : b.length = 20) : ∀ (n : Nat), n ≤ 20 → ∀ i : Int, i = (n : Int) - 1 →
    Ev (fun k => notaryref02_Most.l0 k a b i) (decide (val (a.take n) ≤ val (b.take n))) := by
  intro n
  induction n with
  | zero =>
    intro hn i hi
    subst hi
    refine Ev.step (f := fun _ => some true) (fun k => ?_) ?_
    · simp only [notaryref02_Most.l0]; rw [if_neg (by omega)]
    · simp [val]; exact Ev.now _
  | succ n ih =>
    intro hn i hi
    have hi' : i = (n : Int) := by omega
    subst hi'
    have h1 : n < a.length := by omega
    have h2 : n < b.length := by omega
    rw [val_take_succ a n h1, val_take_succ b n h2]
    have r1 := rd_at a n h1
    have r2 := rd_at b n h2
    by_cases he : a[n] = b[n]
    · have := ih (by omega) ((n : Int) - 1) rfl
      rw [show decide (val (a.take n) + a[n] * 65536 ^ n ≤ val (b.take n) + b[n] * 65536 ^ n) = decide (val (a.take n) ≤ val (b.take n)) by rw [he, decide_eq_decide]; omega]
      refine Ev.step (fun k => ?_) this
      simp only [notaryref02_Most.l0]
      rw [if_pos (by omega), if_pos (by omega), if_pos (by omega), if_pos (by omega), r1, r2, if_pos he, w64 _ (by omega) (by omega)]
    · have hda : Dig (a.take n) := fun y hy => ha y (List.mem_of_mem_take hy)
      have hdb : Dig (b.take n) := fun y hy => hb y (List.mem_of_mem_take hy)
      have la := val_lt _ hda
      have lb := val_lt _ hdb
      rw [List.length_take, Nat.min_eq_left (by omega)] at la lb
      have hc := cmp_step _ _ a[n] b[n] n (val_nonneg _ hda) la (val_nonneg _ hdb) lb he
      rw [show decide (val (a.take n) + a[n] * 65536 ^ n ≤ val (b.take n) + b[n] * 65536 ^ n) = decide (a[n] < b[n]) by rw [decide_eq_decide]; exact hc]
      refine Ev.step (f := fun _ => some (decide (a[n] < b[n]))) (fun k => ?_) (Ev.now _)
      simp only [notaryref02_Most.l0]
      rw [if_pos (by omega), if_pos (by omega), if_pos (by omega), if_pos (by omega), r1, r2, if_neg he]
theorem most_ev (a b : List Int) (ha : Dig a) (hb : Dig b) (hal : a.length = 20) (hbl : b.length = 20) : Ev (fun k => notaryref02_Most.f k a b) (decide (val a ≤ val b)) := by
  have := most_l0 a b ha hb hal hbl 20 (Nat.le_refl _) 19 rfl
  rw [List.take_of_length_le (by omega), List.take_of_length_le (by omega)] at this
  exact this

theorem rclip (p : Int) (h0 : -9223372036854775808 ≤ p) : notaryref02_Clip.f p = some (clip p : Int) := by
  unfold notaryref02_Clip.f clip
  split
  · rfl
  · split
    · rfl
    · rw [u64w]; congr 1; omega
theorem shifted (c m : Nat) (hc : c ≤ 65536) (hm : m < 19) : ∃ b, notaryref02_Shifted.f (c : Int) (m : Int) = some b ∧ Dig b ∧ b.length = 20 ∧ val b = ((c * 65536 ^ m : Nat) : Int) := by
  have e1 : Int.tmod (c : Int) 65536 = (c : Int) % 65536 := Int.tmod_eq_emod_of_nonneg (by omega)
  have e2 : Int.tdiv (c : Int) 65536 = (c : Int) / 65536 := Int.tdiv_eq_ediv_of_nonneg (by omega)
  refine ⟨List.replicate m 0 ++ (c : Int) % 65536 :: (c : Int) / 65536 :: List.replicate (18 - m) 0, ?_, ?_, ?_, ?_⟩
  · unfold notaryref02_Shifted.f
    rw [if_pos (by decide)]
    simp only [Option.bind_some, List.length_replicate]
    rw [w64 _ (by omega) (by omega), if_pos (by omega), if_pos (by omega), if_pos (by omega), if_pos (by omega), e1, e2, u64w]
    congr 1
    rw [show (20 : Nat) = m + (2 + (18 - m)) by omega, ← List.replicate_append_replicate, ← List.replicate_append_replicate]
    rw [show (c : Int) / 65536 % 18446744073709551616 = (c : Int) / 65536 by omega, Int.toNat_natCast, show ((m : Int) + 1).toNat = m + 1 by omega]
    rw [List.set_append_right _ _ (by simp), List.set_append_right _ _ (by simp)]
    simp [List.replicate_succ]
  · refine Dig.append ?_ (Dig.cons (by omega) (by omega) (Dig.cons (by omega) (by omega) ?_))
    · intro y hy; rw [List.eq_of_mem_replicate hy]; decide
    · intro y hy; rw [List.eq_of_mem_replicate hy]; decide
  · simp; omega
  · have hz : ∀ (m : Nat) (r : List Int), val (List.replicate m 0 ++ r) = val r * 65536 ^ m := by
      intro m r
      induction m with
      | zero => simp
      | succ m ih => simp only [List.replicate_succ, List.cons_append, val, ih, Int.pow_succ]; grind
    rw [hz]
    have hz2 := val_zeros [] (18 - m)
    simp only [List.nil_append] at hz2
    simp only [val, hz2]
    rw [show (c : Int) % 65536 + 65536 * ((c : Int) / 65536 + 65536 * 0) = (c : Int) by omega]
    simp
end Go.Proofs.Ytnkkgeglnmggpaa.LRoot
