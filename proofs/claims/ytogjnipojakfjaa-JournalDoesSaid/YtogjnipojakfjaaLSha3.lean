/- A digest's parts: what the program's functions and the reference's compute is the same. -/
import Derived.Laws.BitsAllLaws
import Derived.Test.YtogjnipojakfjaaLRoot3
import Derived.Test.YtogjnipojakfjaaPJdx1
import Derived.Test.YtogjnipojakfjaaPJdx2
import Derived.Test.YtogjnipojakfjaaPJdx5
import Derived.Test.YtogjnipojakfjaaPJdx6
import Derived.Test.YtogjnipojakfjaaPJdx7
import Derived.Test.YtogjnipojakfjaaLTail
import Derived.Test.YtogjnipojakfjaaPJdx3
import Derived.Test.YtogjnipojakfjaaPJdx8
/- A digest's parts: what the program's functions and the reference's compute is the same. -/
namespace Go.Proofs.Ytogjnipojakfjaa.LSha
open Go.RowKit Go.Proofs.Ytogjnipojakfjaa.PJd Go.Proofs.YtogjnipojakfjaaW.PrintWords Go.Proofs.YtogjnipojakfjaaW.PrintLast Go.Proofs.YtogjnipojakfjaaW.PrintMore
set_option linter.unusedVariables false
set_option linter.unusedSimpArgs false
theorem u64w (n : Int) : IntKind.u64.wrap n = n % 18446744073709551616 := by simp [IntKind.wrap, IntKind.bits, IntKind.signed]
theorem u32w (n : Int) : IntKind.u32.wrap n = n % 4294967296 := by simp [IntKind.wrap, IntKind.bits, IntKind.signed]
theorem w64 (n : Int) (h0 : -9223372036854775808 ≤ n) (h1 : n < 9223372036854775808) : wrap64 n = n := by unfold wrap64; omega
theorem rd_at (l : List Int) (i : Nat) (h : i < l.length) : rd l (i : Int) = l[i] := by
  unfold rd
  rw [Int.toNat_natCast, List.getD_eq_getElem?_getD, List.getElem?_eq_getElem h]; rfl
theorem bor_comm (x y : Int) : bits .or .u32 x y = bits .or .u32 y x := by unfold bits; simp [BitVec.or_comm]
/-- turned to the right -/
def rotv (x : Int) (n : Nat) : Int := bits .or .u32 (shr .u32 x (n : Int)) (shl .u32 x ((32 - n : Nat) : Int))
theorem rot_and : ∀ n : Fin 32, bits .and .u64 (IntKind.u64.wrap (wrap64 (-(n.val : Int)))) 31 = (((32 - n.val) % 32 : Nat) : Int) := by decide +kernel
theorem rot_p (x : Int) (n : Nat) (h0 : 1 ≤ n) (h1 : n < 32) : sha_rot.f x (n : Int) = some (rotv x n) := by
  unfold sha_rot.f bits_RotateLeft32.f
  rw [rot_and ⟨n, h1⟩]
  simp only []
  rw [show (32 - n) % 32 = 32 - n from Nat.mod_eq_of_lt (by omega)]
  rw [show IntKind.u64.wrap (32 - ((32 - n : Nat) : Int)) = (n : Int) by rw [u64w]; omega]
  rw [if_pos (by omega), if_pos (by omega), bor_comm]; rfl
theorem rot_r (x : Int) (n : Nat) (h0 : 1 ≤ n) (h1 : n < 32) : notaryref03_Rot.f x (n : Int) = some (rotv x n) := by
  unfold notaryref03_Rot.f
  rw [show IntKind.u64.wrap (32 - (n : Int)) = ((32 - n : Nat) : Int) by rw [u64w]; omega]
  rw [if_pos (by omega), if_pos (by omega)]; rfl
theorem rp2 (x : Int) : sha_rot.f x 2 = some (rotv x 2) := rot_p x 2 (by decide) (by decide)
theorem rr2 (x : Int) : notaryref03_Rot.f x 2 = some (rotv x 2) := rot_r x 2 (by decide) (by decide)
theorem rp6 (x : Int) : sha_rot.f x 6 = some (rotv x 6) := rot_p x 6 (by decide) (by decide)
theorem rr6 (x : Int) : notaryref03_Rot.f x 6 = some (rotv x 6) := rot_r x 6 (by decide) (by decide)
theorem rp7 (x : Int) : sha_rot.f x 7 = some (rotv x 7) := rot_p x 7 (by decide) (by decide)
theorem rr7 (x : Int) : notaryref03_Rot.f x 7 = some (rotv x 7) := rot_r x 7 (by decide) (by decide)
theorem rp11 (x : Int) : sha_rot.f x 11 = some (rotv x 11) := rot_p x 11 (by decide) (by decide)
theorem rr11 (x : Int) : notaryref03_Rot.f x 11 = some (rotv x 11) := rot_r x 11 (by decide) (by decide)
theorem rp13 (x : Int) : sha_rot.f x 13 = some (rotv x 13) := rot_p x 13 (by decide) (by decide)
theorem rr13 (x : Int) : notaryref03_Rot.f x 13 = some (rotv x 13) := rot_r x 13 (by decide) (by decide)
theorem rp17 (x : Int) : sha_rot.f x 17 = some (rotv x 17) := rot_p x 17 (by decide) (by decide)
theorem rr17 (x : Int) : notaryref03_Rot.f x 17 = some (rotv x 17) := rot_r x 17 (by decide) (by decide)
theorem rp18 (x : Int) : sha_rot.f x 18 = some (rotv x 18) := rot_p x 18 (by decide) (by decide)
theorem rr18 (x : Int) : notaryref03_Rot.f x 18 = some (rotv x 18) := rot_r x 18 (by decide) (by decide)
theorem rp19 (x : Int) : sha_rot.f x 19 = some (rotv x 19) := rot_p x 19 (by decide) (by decide)
theorem rr19 (x : Int) : notaryref03_Rot.f x 19 = some (rotv x 19) := rot_r x 19 (by decide) (by decide)
theorem rp22 (x : Int) : sha_rot.f x 22 = some (rotv x 22) := rot_p x 22 (by decide) (by decide)
theorem rr22 (x : Int) : notaryref03_Rot.f x 22 = some (rotv x 22) := rot_r x 22 (by decide) (by decide)
theorem rp25 (x : Int) : sha_rot.f x 25 = some (rotv x 25) := rot_p x 25 (by decide) (by decide)
theorem rr25 (x : Int) : notaryref03_Rot.f x 25 = some (rotv x 25) := rot_r x 25 (by decide) (by decide)
/-- numbers of 32 bits -/
def W32 (l : List Int) : Prop := ∀ x ∈ l, 0 ≤ x ∧ x < 4294967296
/-- four bytes -/
theorem word_is (b0 b1 b2 b3 : Int) (h0 : 0 ≤ b0 ∧ b0 < 256) (h1 : 0 ≤ b1 ∧ b1 < 256) (h2 : 0 ≤ b2 ∧ b2 < 256) (h3 : 0 ≤ b3 ∧ b3 < 256) :
    sha_spread.word b0 b1 b2 b3 = b0 * 16777216 + b1 * 65536 + b2 * 256 + b3 := by
  obtain ⟨n0, rfl⟩ := Int.eq_ofNat_of_zero_le h0.1
  obtain ⟨n1, rfl⟩ := Int.eq_ofNat_of_zero_le h1.1
  obtain ⟨n2, rfl⟩ := Int.eq_ofNat_of_zero_le h2.1
  obtain ⟨n3, rfl⟩ := Int.eq_ofNat_of_zero_le h3.1
  unfold sha_spread.word
  simp only [u32w]
  rw [show ((n0 : Int) % 4294967296 * 16777216 % 4294967296) = ((n0 * 16777216 : Nat) : Int) by omega, show ((n1 : Int) % 4294967296 * 65536 % 4294967296) = ((n1 * 65536 : Nat) : Int) by omega, show ((n2 : Int) % 4294967296 * 256 % 4294967296) = ((n2 * 256 : Nat) : Int) by omega, show ((n3 : Int) % 4294967296) = ((n3 : Nat) : Int) by omega]
  rw [u32_or_nat _ _ (by omega) (by omega), nat_join 24 (n0 * 16777216) (n1 * 65536) (by omega) (by omega)]
  rw [u32_or_nat _ _ (by omega) (by omega), nat_join 16 _ (n2 * 256) (by omega) (by omega)]
  rw [u32_or_nat _ _ (by omega) (by omega), nat_join 8 _ n3 (by omega) (by omega)]
  omega
def Byt (l : List Int) : Prop := ∀ x ∈ l, 0 ≤ x ∧ x < 256
theorem rd_byt {l : List Int} (h : Byt l) (i : Int) (h0 : 0 ≤ i) (h1 : i < l.length) : 0 ≤ rd l i ∧ rd l i < 256 := by
  obtain ⟨n, rfl⟩ := Int.eq_ofNat_of_zero_le h0
  rw [rd_at l n (by omega)]
  exact h _ (List.getElem_mem _)
theorem numbers_l1 (b x3 : List Int) (hb : Byt b) (hl : b.length = 64) (j : Nat) (hj : j < 16) (hx : x3.length < 1000) (r : List Int)
    (h : Ev (fun k => notaryref03_Numbers.l0 k b (x3 ++ [sha_spread.w0 b j]) ((j + 1 : Nat) : Int)) r) : Ev (fun k => notaryref03_Numbers.l1 k b x3 (j : Int) 0 0) r := by
  have a0 := rd_byt hb (4 * (j : Int)) (by omega) (by omega)
  have a1 := rd_byt hb (4 * (j : Int) + 1) (by omega) (by omega)
  have a2 := rd_byt hb (4 * (j : Int) + 2) (by omega) (by omega)
  have a3 := rd_byt hb (4 * (j : Int) + 3) (by omega) (by omega)
  have e4 : wrap64 (4 * (j : Int)) = 4 * (j : Int) := w64 _ (by omega) (by omega)
  have e40 : wrap64 (4 * (j : Int) + 0) = 4 * (j : Int) := by rw [w64 _ (by omega) (by omega)]; omega
  have e41 : wrap64 (4 * (j : Int) + 1) = 4 * (j : Int) + 1 := w64 _ (by omega) (by omega)
  have e42 : wrap64 (4 * (j : Int) + 2) = 4 * (j : Int) + 2 := w64 _ (by omega) (by omega)
  have e43 : wrap64 (4 * (j : Int) + 3) = 4 * (j : Int) + 3 := w64 _ (by omega) (by omega)
  have ej : wrap64 ((j : Int) + 1) = ((j + 1 : Nat) : Int) := by rw [w64 _ (by omega) (by omega)]; omega
  have hw := word_is _ _ _ _ a0 a1 a2 a3
  unfold sha_spread.w0 at h
  rw [hw] at h
  clear hw
  generalize hb0 : rd b (4 * (j : Int)) = b0 at *
  generalize hb1 : rd b (4 * (j : Int) + 1) = b1 at *
  generalize hb2 : rd b (4 * (j : Int) + 2) = b2 at *
  generalize hb3 : rd b (4 * (j : Int) + 3) = b3 at *
  refine Ev.step (f := fun k => notaryref03_Numbers.l1 k b x3 (j : Int) b0 1) (fun k => ?_) ?_
  · simp only [notaryref03_Numbers.l1]
    rw [if_pos (by omega), e4, e40, if_pos (by omega), if_pos (by omega), hb0, show wrap64 (0 + 1) = 1 by rw [w64 _ (by omega) (by omega)]; rfl, show ((0 * 256 % 4294967296 + b0 % 4294967296) % 4294967296 : Int) = b0 by omega]
  refine Ev.step (f := fun k => notaryref03_Numbers.l1 k b x3 (j : Int) (b0 * 256 + b1) 2) (fun k => ?_) ?_
  · simp only [notaryref03_Numbers.l1]
    rw [if_pos (by omega), e4, e41, if_pos (by omega), if_pos (by omega), hb1, show wrap64 (1 + 1) = 2 by rw [w64 _ (by omega) (by omega)]; rfl, show ((b0 * 256 % 4294967296 + b1 % 4294967296) % 4294967296 : Int) = b0 * 256 + b1 by omega]
  refine Ev.step (f := fun k => notaryref03_Numbers.l1 k b x3 (j : Int) ((b0 * 256 + b1) * 256 + b2) 3) (fun k => ?_) ?_
  · simp only [notaryref03_Numbers.l1]
    rw [if_pos (by omega), e4, e42, if_pos (by omega), if_pos (by omega), hb2, show wrap64 (2 + 1) = 3 by rw [w64 _ (by omega) (by omega)]; rfl, show (((b0 * 256 + b1) * 256 % 4294967296 + b2 % 4294967296) % 4294967296 : Int) = (b0 * 256 + b1) * 256 + b2 by omega]
  refine Ev.step (f := fun k => notaryref03_Numbers.l1 k b x3 (j : Int) (b0 * 16777216 + b1 * 65536 + b2 * 256 + b3) 4) (fun k => ?_) ?_
  · simp only [notaryref03_Numbers.l1]
    rw [if_pos (by omega), e4, e43, if_pos (by omega), if_pos (by omega), hb3, show wrap64 (3 + 1) = 4 by rw [w64 _ (by omega) (by omega)]; rfl, show ((((b0 * 256 + b1) * 256 + b2) * 256 % 4294967296 + b3 % 4294967296) % 4294967296 : Int) = b0 * 16777216 + b1 * 65536 + b2 * 256 + b3 by omega]
  refine Ev.step (f := fun k => notaryref03_Numbers.l0 k b (x3 ++ [b0 * 16777216 + b1 * 65536 + b2 * 256 + b3]) ((j + 1 : Nat) : Int)) (fun k => ?_) h
  simp only [notaryref03_Numbers.l1]
  rw [if_neg (by omega), if_pos (by omega), ej]
theorem numbers_l0 (b : List Int) (hb : Byt b) (hl : b.length = 64) (r : List Int) (h : Ev (fun k => notaryref03_Numbers.l2 k (sha_spread.begin b 16) 16) r) :
    ∀ (n j : Nat), n + j = 16 → Ev (fun k => notaryref03_Numbers.l0 k b (sha_spread.begin b j) (j : Int)) r := by
  intro n
  induction n with
  | zero =>
    intro j hj
    obtain rfl : j = 16 := by omega
    refine Ev.step (f := fun k => notaryref03_Numbers.l2 k (sha_spread.begin b 16) 16) (fun k => ?_) h
    simp only [notaryref03_Numbers.l0]
    rw [if_neg (by omega)]
  | succ n ih =>
    intro j hj
    refine Ev.step (f := fun k => notaryref03_Numbers.l1 k b (sha_spread.begin b j) (j : Int) 0 0) (fun k => ?_) ?_
    · simp only [notaryref03_Numbers.l0]
      rw [if_pos (by omega)]
    · exact numbers_l1 b _ hb hl j (by omega) (by rw [sha_spread.begin_length]; omega) r (ih (j + 1) (by omega))
/-- one number more -/
theorem next_is (l : List Int) (i : Nat) (h16 : 16 ≤ i) (hi : i < 64) (hl : l.length = i) : ∃ v, sha_spread.next l (i : Int) = some v ∧ 0 ≤ v ∧ v < 4294967296 ∧
    ∀ r, Ev (fun k => notaryref03_Numbers.l2 k (l ++ [v]) ((i + 1 : Nat) : Int)) r → Ev (fun k => notaryref03_Numbers.l2 k l (i : Int)) r := by
  refine ⟨_, by
    unfold sha_spread.next
    rw [rp7, rp18, rp17, rp19]
    rfl, ?_, ?_, ?_⟩
  · simp only [u32w]; omega
  · simp only [u32w]; omega
  · intro r h
    refine Ev.step (f := fun k => _) (fun k => ?_) h
    have e2 : wrap64 ((i : Int) - 2) = (i : Int) - 2 := w64 _ (by omega) (by omega)
    have e15 : wrap64 ((i : Int) - 15) = (i : Int) - 15 := w64 _ (by omega) (by omega)
    have e7 : wrap64 ((i : Int) - 7) = (i : Int) - 7 := w64 _ (by omega) (by omega)
    have e16 : wrap64 ((i : Int) - 16) = (i : Int) - 16 := w64 _ (by omega) (by omega)
    have e1 : wrap64 ((i : Int) + 1) = ((i + 1 : Nat) : Int) := by rw [w64 _ (by omega) (by omega)]; omega
    simp only [notaryref03_Numbers.l2]
    rw [e2, e15, e7, e16, e1, if_pos (by omega), if_pos (by omega), if_pos (by omega), if_pos (by omega), if_pos (by omega)]
    rw [rr17, rr19, rr7, rr18]
    simp only [Option.bind_some]
    rw [if_pos (by omega), if_pos (by omega), if_pos (by omega), if_pos (by omega), if_pos (by omega)]
    congr 3
    simp only [u32w]
    omega
theorem numbers_l2 : ∀ (n : Nat) (l : List Int), n + l.length = 64 → 16 ≤ l.length → W32 l → ∃ r, sha_spread.more n l = some r ∧ Ev (fun k => notaryref03_Numbers.l2 k l (l.length : Int)) r ∧ W32 r ∧ r.length = 64 := by
  intro n
  induction n with
  | zero =>
    intro l hl h16 hw
    refine ⟨l, rfl, ?_, hw, by omega⟩
    refine Ev.step (f := fun _ => some l) (fun k => ?_) (Ev.now _)
    simp only [notaryref03_Numbers.l2]
    rw [if_neg (by omega)]
  | succ n ih =>
    intro l hl h16 hw
    obtain ⟨v, hv, h0, h1, hstep⟩ := next_is l l.length h16 (by omega) rfl
    obtain ⟨r, hr, hev, hwr, hlr⟩ := ih (l ++ [v]) (by simp; omega) (by simp; omega) (by
      intro x hx
      rcases List.mem_append.1 hx with hx | hx
      · exact hw x hx
      · obtain rfl := List.mem_singleton.1 hx; exact ⟨h0, h1⟩)
    refine ⟨r, ?_, hstep r (by simpa using hev), hwr, hlr⟩
    simp only [sha_spread.more, hv, Option.bind_some]
    exact hr
theorem begin_w32 (b : List Int) (hb : Byt b) (hl : b.length = 64) : ∀ n, n ≤ 16 → W32 (sha_spread.begin b n)
  | 0, _ => fun x hx => by cases hx
  | n + 1, hn => by
    intro x hx
    rcases List.mem_append.1 hx with hx | hx
    · exact begin_w32 b hb hl n (by omega) x hx
    · obtain rfl := List.mem_singleton.1 hx
      unfold sha_spread.w0
      have a0 := rd_byt hb (4 * (n : Int)) (by omega) (by omega)
      have a1 := rd_byt hb (4 * (n : Int) + 1) (by omega) (by omega)
      have a2 := rd_byt hb (4 * (n : Int) + 2) (by omega) (by omega)
      have a3 := rd_byt hb (4 * (n : Int) + 3) (by omega) (by omega)
      rw [word_is _ _ _ _ a0 a1 a2 a3]
      omega
/-- the 64 numbers of a block -/
theorem numbers_ev (b : List Int) (hb : Byt b) (hl : b.length = 64) : ∃ r, sha_spread.f b = some r ∧ Ev (fun k => notaryref03_Numbers.f k b) r ∧ W32 r ∧ r.length = 64 := by
  obtain ⟨r, hr, hev, hw, hrl⟩ := numbers_l2 48 (sha_spread.begin b 16) (by rw [sha_spread.begin_length]) (by rw [sha_spread.begin_length]; omega) (begin_w32 b hb hl 16 (Nat.le_refl _))
  refine ⟨r, hr, ?_, hw, hrl⟩
  refine Ev.congr (f := fun k => notaryref03_Numbers.l0 k b (sha_spread.begin b 0) ((0 : Nat) : Int)) (fun k => rfl) ?_
  refine numbers_l0 b hb hl r ?_ 16 0 rfl
  rw [sha_spread.begin_length] at hev
  exact hev
end Go.Proofs.Ytogjnipojakfjaa.LSha

/- A digest: a state behind a block, by the program and by the reference. -/
namespace Go.Proofs.Ytogjnipojakfjaa.LSha
open Go.RowKit Go.Proofs.Ytogjnipojakfjaa.PJd Go.Proofs.YtogjnipojakfjaaW.PrintWords Go.Proofs.YtogjnipojakfjaaW.PrintLast Go.Proofs.YtogjnipojakfjaaW.PrintMore
set_option linter.unusedVariables false
set_option linter.unusedSimpArgs false
theorem drop_rd (l : List Int) (i : Nat) (h : i < l.length) : l.drop i = rd l (i : Int) :: l.drop (i + 1) := by
  rw [List.drop_eq_getElem_cons h, rd_at l i h]
theorem not32 : (if IntKind.u32.signed = true then -1 else IntKind.u32.max) = 4294967295 := by decide
theorem block_l0 (s : sha_behind.St) (kk ws : List Int) (hk : kk.length = 64) (hw : ws.length = 64) : ∀ (n i : Nat) (x : sha_behind.St), n + i = 64 →
    ∃ y, sha_behind.rnds (kk.drop i) (ws.drop i) x = some y ∧ Ev (fun k => notaryref03_Block.l0 k s.list kk ws x.a x.b x.c x.d x.e x.f x.g x.h (i : Int)) (sha_behind.add y s) := by
  intro n
  induction n with
  | zero =>
    intro i x hi
    refine ⟨x, ?_, ?_⟩
    · rw [List.drop_eq_nil_of_le (by omega)]; rfl
    · refine Ev.step (f := fun _ => some (sha_behind.add x s)) (fun k => ?_) (Ev.now _)
      simp only [notaryref03_Block.l0]
      rw [if_neg (by omega)]
      obtain ⟨xa, xb, xc, xd, xe, xf, xg, xh⟩ := x
      obtain ⟨sa, sb, sc, sd, se, sf, sg, sh⟩ := s
      simp only [sha_behind.St.list, sha_behind.add, List.zipWith, List.length_cons, List.length_nil]
      simp [rd, Int.add_comm]
  | succ n ih =>
    intro i x hi
    have e1 : wrap64 ((i : Int) + 1) = ((i + 1 : Nat) : Int) := by rw [w64 _ (by omega) (by omega)]; omega
    obtain ⟨y, hy, hev⟩ := ih (i + 1) ⟨(sha_behind.tt x (rd kk i) (rd ws i) (rotv x.e 6) (rotv x.e 11) (rotv x.e 25) + sha_behind.uu x (rotv x.a 2) (rotv x.a 13) (rotv x.a 22)) % 4294967296, x.a, x.b, x.c, (x.d + sha_behind.tt x (rd kk i) (rd ws i) (rotv x.e 6) (rotv x.e 11) (rotv x.e 25)) % 4294967296, x.e, x.f, x.g⟩ (by omega)
    refine ⟨y, ?_, ?_⟩
    · rw [drop_rd kk i (by omega), drop_rd ws i (by omega)]
      simp only [sha_behind.rnds, sha_behind.rnd, rp6, rp11, rp25, rp2, rp13, rp22, Option.bind_some]
      exact hy
    · refine Ev.step (f := fun k => _) (fun k => ?_) hev
      simp only [notaryref03_Block.l0]
      rw [if_pos (by omega), rr6, rr11, rr25, rr2, rr13, rr22, e1]
      simp only [Option.bind_some]
      rw [if_pos (by omega), if_pos (by omega), if_pos (by omega)]
      simp only [sha_behind.tt, sha_behind.uu, not32, u32w]
theorem st_list (l : List Int) (h : l.length = 8) : ∃ s : sha_behind.St, l = s.list ∧ sha_Block.st l = s := by
  match l, h with
  | [a, b, c, d, e, f, g, h], _ => exact ⟨⟨a, b, c, d, e, f, g, h⟩, rfl, rfl⟩
/-- a state behind a block -/
theorem block_ev (st b kk : List Int) (hs : st.length = 8) (hb : Byt b) (hl : b.length = 64) (hk : kk.length = 64) :
    ∃ r, sha_behind.f kk b (sha_Block.st st) = some r ∧ Ev (fun k => notaryref03_Block.f k st b kk) r ∧ W32 r ∧ r.length = 8 := by
  obtain ⟨s, rfl, hst⟩ := st_list st hs
  rw [hst]
  obtain ⟨ws, hws, hnev, hww, hwl⟩ := numbers_ev b hb hl
  obtain ⟨y, hy, hev⟩ := block_l0 s kk ws hk hwl 64 0 s rfl
  refine ⟨sha_behind.add y s, ?_, ?_, ?_, ?_⟩
  · unfold sha_behind.f
    rw [hws, Option.bind_some]
    rw [List.drop_zero, List.drop_zero] at hy
    rw [hy]; rfl
  · refine Ev.bind (f := fun k a => _) hnev ?_
    refine Ev.congr (f := fun k => notaryref03_Block.l0 k s.list kk ws s.a s.b s.c s.d s.e s.f s.g s.h ((0 : Nat) : Int)) (fun k => ?_) hev
    simp only [sha_behind.St.list, List.length_cons, List.length_nil]
    simp [rd]
  · intro x hx
    simp only [sha_behind.add, List.zipWith, sha_behind.St.list, List.mem_cons, List.not_mem_nil, or_false] at hx
    rcases hx with rfl | rfl | rfl | rfl | rfl | rfl | rfl | rfl <;> omega
  · simp [sha_behind.add, sha_behind.St.list]
theorem first_l0 (ps : List Int) (hp : ps.length = 8) (hb : ∀ p ∈ ps, 0 ≤ p ∧ p < 1000) : ∀ (n i : Nat) (x1 : List Int), n + i = 8 → x1.length + n < 1000 →
    ∃ l, sha_first.go (ps.drop i) = some l ∧ Ev (fun k => notaryref03_Start.l0 k x1 ps (i : Int)) (x1 ++ l) ∧ W32 l := by
  intro n
  induction n with
  | zero =>
    intro i x1 hi hx
    refine ⟨[], ?_, ?_, fun x hx => by cases hx⟩
    · rw [List.drop_eq_nil_of_le (by omega)]; rfl
    · refine Ev.step (f := fun _ => some x1) (fun k => ?_) (by rw [List.append_nil]; exact Ev.now _)
      simp only [notaryref03_Start.l0]
      rw [if_neg (by omega)]
  | succ n ih =>
    intro i x1 hi hx
    have hlt : i < ps.length := by omega
    have hbp := hb ps[i] (List.getElem_mem _)
    obtain ⟨T, hT, hR, hTb⟩ := Ytogjnipojakfjaa.LRoot.square_is ps[i]
    have hev := Ytogjnipojakfjaa.LRoot.root2_ev ps[i] (by omega) T hR
    have e1 : wrap64 ((i : Int) + 1) = ((i + 1 : Nat) : Int) := by rw [w64 _ (by omega) (by omega)]; omega
    obtain ⟨l, hl, hle, hw⟩ := ih (i + 1) (x1 ++ [(T : Int) % 4294967296]) (by omega) (by simp; omega)
    refine ⟨(T : Int) % 4294967296 :: l, ?_, ?_, ?_⟩
    · rw [List.drop_eq_getElem_cons hlt]
      simp only [sha_first.go, hT, hl, Option.bind_some]
    · refine Ev.step (f := fun k => (notaryref02_Root.f k ps[i] 2).bind fun t => if x1.length < 35184372088832 then notaryref03_Start.l0 k (x1 ++ [t % 4294967296]) ps ((i + 1 : Nat) : Int) else none) (fun k => ?_) ?_
      · simp only [notaryref03_Start.l0]
        rw [if_pos (by omega), if_pos (by omega), if_pos (by omega), rd_at ps i hlt, e1]
      · refine Ev.bind (f := fun k t => if x1.length < 35184372088832 then notaryref03_Start.l0 k (x1 ++ [t % 4294967296]) ps ((i + 1 : Nat) : Int) else none) hev ?_
        refine Ev.congr (f := fun k => notaryref03_Start.l0 k (x1 ++ [(T : Int) % 4294967296]) ps ((i + 1 : Nat) : Int)) (fun k => if_pos (by omega)) ?_
        simpa using hle
    · intro x hx
      rcases List.mem_cons.1 hx with rfl | hx
      · omega
      · exact hw x hx
theorem first_ev : ∃ l, sha_first.f = some l ∧ Ev (fun k => notaryref03_Start.f k) l ∧ W32 l ∧ l.length = 8 := by
  have hps := Ytogjnipojakfjaa.LRoot.primes_is 8
  have hrp := Ytogjnipojakfjaa.LRoot.rprimes_ev 8
  rw [show Ytogjnipojakfjaa.LRoot.many 8 = 8 from by decide] at hps hrp
  have hb : ∀ p ∈ Ytogjnipojakfjaa.SRoot.primes.take 8, 0 ≤ p ∧ p < 1000 := by decide +kernel
  have hl : (Ytogjnipojakfjaa.SRoot.primes.take 8).length = 8 := by decide +kernel
  generalize Ytogjnipojakfjaa.SRoot.primes.take 8 = ps at *
  obtain ⟨l, hg, hev, hw⟩ := first_l0 ps hl hb 8 0 [] rfl (by simp)
  rw [List.drop_zero] at hg
  have hf : sha_first.f = some l := by unfold sha_first.f; rw [hps, Option.bind_some, if_pos hl]; exact hg
  refine ⟨l, hf, ?_, hw, sha_first.len8 hf⟩
  refine Ev.bind (f := fun k t => notaryref03_Start.l0 k (([] : List Int)) t 0) hrp ?_
  simpa using hev
theorem rounds_l0 (ps : List Int) (hp : ps.length = 64) (hb : ∀ p ∈ ps, 0 ≤ p ∧ p < 1000) : ∀ (n i : Nat) (x1 : List Int), n + i = 64 → x1.length + n < 1000 →
    ∃ l, sha_rounds.go (ps.drop i) = some l ∧ Ev (fun k => notaryref03_Rounds.l0 k x1 ps (i : Int)) (x1 ++ l) ∧ W32 l := by
  intro n
  induction n with
  | zero =>
    intro i x1 hi hx
    refine ⟨[], ?_, ?_, fun x hx => by cases hx⟩
    · rw [List.drop_eq_nil_of_le (by omega)]; rfl
    · refine Ev.step (f := fun _ => some x1) (fun k => ?_) (by rw [List.append_nil]; exact Ev.now _)
      simp only [notaryref03_Rounds.l0]
      rw [if_neg (by omega)]
  | succ n ih =>
    intro i x1 hi hx
    have hlt : i < ps.length := by omega
    have hbp := hb ps[i] (List.getElem_mem _)
    obtain ⟨T, hT, hR, hTb⟩ := Ytogjnipojakfjaa.LRoot.cube_is ps[i]
    have hev := Ytogjnipojakfjaa.LRoot.root3_ev ps[i] (by omega) T hR
    have e1 : wrap64 ((i : Int) + 1) = ((i + 1 : Nat) : Int) := by rw [w64 _ (by omega) (by omega)]; omega
    obtain ⟨l, hl, hle, hw⟩ := ih (i + 1) (x1 ++ [(T : Int) % 4294967296]) (by omega) (by simp; omega)
    refine ⟨(T : Int) % 4294967296 :: l, ?_, ?_, ?_⟩
    · rw [List.drop_eq_getElem_cons hlt]
      simp only [sha_rounds.go, hT, hl, Option.bind_some]
    · refine Ev.step (f := fun k => (notaryref02_Root.f k ps[i] 3).bind fun t => if x1.length < 35184372088832 then notaryref03_Rounds.l0 k (x1 ++ [t % 4294967296]) ps ((i + 1 : Nat) : Int) else none) (fun k => ?_) ?_
      · simp only [notaryref03_Rounds.l0]
        rw [if_pos (by omega), if_pos (by omega), if_pos (by omega), rd_at ps i hlt, e1]
      · refine Ev.bind (f := fun k t => if x1.length < 35184372088832 then notaryref03_Rounds.l0 k (x1 ++ [t % 4294967296]) ps ((i + 1 : Nat) : Int) else none) hev ?_
        refine Ev.congr (f := fun k => notaryref03_Rounds.l0 k (x1 ++ [(T : Int) % 4294967296]) ps ((i + 1 : Nat) : Int)) (fun k => if_pos (by omega)) ?_
        simpa using hle
    · intro x hx
      rcases List.mem_cons.1 hx with rfl | hx
      · omega
      · exact hw x hx
theorem rounds_ev : ∃ l, sha_rounds.f = some l ∧ Ev (fun k => notaryref03_Rounds.f k) l ∧ W32 l ∧ l.length = 64 := by
  have hps := Ytogjnipojakfjaa.LRoot.primes_is 64
  have hrp := Ytogjnipojakfjaa.LRoot.rprimes_ev 64
  rw [show Ytogjnipojakfjaa.LRoot.many 64 = 64 from by decide] at hps hrp
  have hb : ∀ p ∈ Ytogjnipojakfjaa.SRoot.primes.take 64, 0 ≤ p ∧ p < 1000 := by decide +kernel
  have hl : (Ytogjnipojakfjaa.SRoot.primes.take 64).length = 64 := by decide +kernel
  generalize Ytogjnipojakfjaa.SRoot.primes.take 64 = ps at *
  obtain ⟨l, hg, hev, hw⟩ := rounds_l0 ps hl hb 64 0 [] rfl (by simp)
  rw [List.drop_zero] at hg
  have hf : sha_rounds.f = some l := by unfold sha_rounds.f; rw [hps, Option.bind_some, if_pos hl]; exact hg
  refine ⟨l, hf, ?_, hw, sha_rounds.len64 hf⟩
  refine Ev.bind (f := fun k t => notaryref03_Rounds.l0 k (([] : List Int)) t 0) hrp ?_
  simpa using hev
end Go.Proofs.Ytogjnipojakfjaa.LSha

/- A digest: what Sum answers, by the program and by the reference. -/
namespace Go.Proofs.Ytogjnipojakfjaa.LSha
open Go.RowKit Go.Proofs.Ytogjnipojakfjaa.PJd Go.Proofs.YtogjnipojakfjaaW.PrintWords Go.Proofs.YtogjnipojakfjaaW.PrintLast Go.Proofs.YtogjnipojakfjaaW.PrintMore
set_option linter.unusedVariables false
set_option linter.unusedSimpArgs false
theorem st_self (s : sha_behind.St) : sha_Block.st s.list = s := rfl
theorem list_st (l : List Int) (h : l.length = 8) : (sha_Block.st l).list = l := sha_Block.st_list h
theorem run_succ (kk l : List Int) (s : sha_behind.St) (hk : kk.length = 64) (hb : Byt l) (hl : 64 ≤ l.length) :
    ∃ t : sha_behind.St, sha_behind.f kk (l.take 64) s = some t.list ∧ Ev (fun k => notaryref03_Block.f k s.list (l.take 64) kk) t.list ∧ W32 t.list ∧ ∀ q, sha_Sum.run kk (q + 1) l s = sha_Sum.run kk q (l.drop 64) t := by
  obtain ⟨r, hr, hev, hw, hrl⟩ := block_ev s.list (l.take 64) kk rfl (fun x hx => hb x (List.mem_of_mem_take hx)) (by rw [List.length_take]; omega) hk
  rw [st_self] at hr
  refine ⟨sha_Block.st r, ?_, ?_, ?_, ?_⟩
  · rw [list_st r hrl]; exact hr
  · rw [list_st r hrl]; exact hev
  · rw [list_st r hrl]; exact hw
  · intro q
    unfold sha_behind.f at hr
    obtain ⟨ws, hws, h1⟩ := Option.bind_eq_some_iff.mp hr
    obtain ⟨x, hx, h2⟩ := Option.bind_eq_some_iff.mp h1
    obtain rfl := Option.some.inj h2
    simp only [sha_Sum.run, hws, hx, Option.bind_some]
theorem run_append (kk : List Int) : ∀ (a b : Nat) (l : List Int) (s : sha_behind.St), sha_Sum.run kk (a + b) l s = (sha_Sum.run kk a l s).bind fun t => sha_Sum.run kk b (l.drop (64 * a)) t
  | 0, b, l, s => by simp [sha_Sum.run]
  | a + 1, b, l, s => by
    rw [show a + 1 + b = (a + b) + 1 by omega]
    simp only [sha_Sum.run, Option.bind_assoc]
    congr 1
    funext ws
    congr 1
    funext x
    rw [run_append kk a b]
    congr 1
    funext t
    rw [List.drop_drop]; congr 2; omega
theorem run_ahead (kk r : List Int) : ∀ (a : Nat) (l : List Int) (s : sha_behind.St), 64 * a ≤ l.length → sha_Sum.run kk a (l ++ r) s = sha_Sum.run kk a l s
  | 0, l, s, h => rfl
  | a + 1, l, s, h => by
    simp only [sha_Sum.run]
    rw [List.take_append_of_le_length (by omega), List.drop_append_of_le_length (by omega)]
    congr 1
    funext ws
    congr 1
    funext x
    rw [run_ahead kk r a _ _ (by rw [List.length_drop]; omega)]
theorem take_drop' (l : List Int) (i : Nat) (h : 64 * i < 9223372036854775000) : (l.take (wrap64 (64 * (i : Int) + 64) : Int).toNat).drop (64 * (i : Int)).toNat = (l.drop (64 * i)).take 64 := by
  rw [w64 _ (by omega) (by omega), show (64 * (i : Int) + 64).toNat = 64 * i + 64 by omega, show (64 * (i : Int)).toNat = 64 * i by omega]
  exact sha_Sum.take_drop l i
/-- the blocks one behind the other -/
theorem sum_l0 (all kk : List Int) (hk : kk.length = 64) (hb : Byt all) (hbig : all.length < 1000000) : ∀ (n i : Nat) (s : sha_behind.St), all.length = 64 * (n + i) → (n = 0 → W32 s.list) →
    ∃ y, sha_Sum.run kk n (all.drop (64 * i)) s = some y ∧ W32 y.list ∧ ∀ R, Ev (fun k => notaryref03_Sum.l1 k y.list [] 0) R → Ev (fun k => notaryref03_Sum.l0 k all kk s.list (64 * (i : Int))) R := by
  intro n
  induction n with
  | zero =>
    intro i s hi hw
    refine ⟨s, rfl, hw rfl, fun R hR => ?_⟩
    refine Ev.step (f := fun k => notaryref03_Sum.l1 k s.list [] 0) (fun k => ?_) hR
    simp only [notaryref03_Sum.l0]
    rw [w64 _ (by omega) (by omega), if_neg (by omega)]
  | succ n ih =>
    intro i s hi hw
    obtain ⟨t, ht, hev, htw, hrun⟩ := run_succ kk (all.drop (64 * i)) s hk (fun x hx => hb x (List.mem_of_mem_drop hx)) (by rw [List.length_drop]; omega)
    obtain ⟨y, hy, hyw, hR⟩ := ih (i + 1) t (by omega) (fun _ => htw)
    refine ⟨y, ?_, hyw, fun R h => ?_⟩
    · rw [hrun, List.drop_drop]; exact hy
    · refine Ev.step (f := fun k => (notaryref03_Block.f k s.list ((all.drop (64 * i)).take 64) kk).bind fun t => notaryref03_Sum.l0 k all kk t (64 * ((i + 1 : Nat) : Int))) (fun k => ?_) ?_
      · simp only [notaryref03_Sum.l0]
        rw [take_drop' all i (by omega), w64 _ (by omega) (by omega), if_pos (by omega), if_pos (by omega), if_pos (by omega), show (64 * (i : Int) + 64) = 64 * ((i + 1 : Nat) : Int) by omega]
      · exact Ev.bind (f := fun k t => notaryref03_Sum.l0 k all kk t (64 * ((i + 1 : Nat) : Int))) hev (hR R h)
theorem sum_l1 (y : sha_behind.St) (hw : W32 y.list) : ∀ (n i : Nat), n + i = 8 → Ev (fun k => notaryref03_Sum.l1 k y.list ((y.list.take i).flatMap sha_Sum.bytes) (i : Int)) (y.list.flatMap sha_Sum.bytes) := by
  intro n
  induction n with
  | zero =>
    intro i hi
    obtain rfl : i = 8 := by omega
    refine Ev.step (f := fun _ => some (y.list.flatMap sha_Sum.bytes)) (fun k => ?_) (Ev.now _)
    simp only [notaryref03_Sum.l1]
    rw [if_neg (by omega)]; rfl
  | succ n ih =>
    intro i hi
    have e1 : wrap64 ((i : Int) + 1) = ((i + 1 : Nat) : Int) := by rw [w64 _ (by omega) (by omega)]; omega
    have hl : y.list.length = 8 := rfl
    have hz : rd y.list (i : Int) = y.list[i]'(by omega) := rd_at y.list i (by omega)
    have hzw := hw (y.list[i]'(by omega)) (List.getElem_mem _)
    have hlen : ((y.list.take i).flatMap sha_Sum.bytes).length < 1000 := by rw [sha_Sum.bytes_length, List.length_take]; omega
    refine Ev.step (f := fun k => notaryref03_Sum.l1 k y.list ((y.list.take (i + 1)).flatMap sha_Sum.bytes) ((i + 1 : Nat) : Int)) (fun k => ?_) (ih (i + 1) (by omega))
    simp only [notaryref03_Sum.l1, Option.bind_some]
    rw [if_pos (by omega), if_pos (by omega), if_pos (by omega), sha_Sum.step y i (by omega), e1]
    rw [if_pos (by simp only [List.length_cons, List.length_nil]; omega)]
    congr 2
    rw [hz]
    generalize y.list[i]'(by omega) = z at *
    unfold sha_Sum.bytes
    rw [Int.tdiv_eq_ediv_of_nonneg hzw.1, Int.tdiv_eq_ediv_of_nonneg hzw.1, Int.tdiv_eq_ediv_of_nonneg hzw.1, Int.tmod_eq_emod_of_nonneg hzw.1]
    congr 1
    · omega
    · congr 1
      · omega
      · congr 1
        · omega
        · congr 1
          omega
/-- what both answer -/
theorem sum_both (l : List Int) (hb : Byt l) (hbig : l.length < 500000) :
    ∃ (kk s0 : List Int) (y : sha_behind.St), sha_rounds.f = some kk ∧ sha_first.f = some s0 ∧ kk.length = 64 ∧ s0.length = 8 ∧
      sha_Sum.run kk ((l ++ Ytogjnipojakfjaa.LTail.tail (l.length : Int)).length / 64) (l ++ Ytogjnipojakfjaa.LTail.tail (l.length : Int)) (sha_Block.st s0) = some y ∧ W32 y.list ∧
      Ev (fun k => sha_Sum.f k l) (y.list.flatMap sha_Sum.bytes) ∧ Ev (fun k => notaryref03_Sum.f k l) (y.list.flatMap sha_Sum.bytes) := by
  obtain ⟨kk, hkk, hrk, hkw, hkl⟩ := rounds_ev
  obtain ⟨s0, hs0, hrs, hsw, hsl⟩ := first_ev
  have htl := Ytogjnipojakfjaa.LTail.tail_ev (l.length : Int) (by omega) (by omega)
  have hrtl := Ytogjnipojakfjaa.LTail.rtail_ev (l.length : Int) (by omega) (by omega)
  have htb : Byt (Ytogjnipojakfjaa.LTail.tail (l.length : Int)) := Ytogjnipojakfjaa.LTail.tail_byt _
  have hgl := Ytogjnipojakfjaa.LTail.gap_lt (l.length : Int)
  have hga := Ytogjnipojakfjaa.LTail.gap_all (l.length : Int)
  have hln := Ytogjnipojakfjaa.LTail.tail_length (l.length : Int)
  generalize Ytogjnipojakfjaa.LTail.tail (l.length : Int) = tl at *
  generalize Ytogjnipojakfjaa.LTail.gap (l.length : Int) = gp at *
  obtain ⟨n, hn⟩ : ∃ n, (l ++ tl).length = 64 * n := ⟨(l ++ tl).length / 64, by rw [List.length_append]; omega⟩
  have hl2 : (l ++ tl).length = l.length + tl.length := List.length_append
  have hall : Byt (l ++ tl) := fun x hx => (List.mem_append.1 hx).elim (hb x) (htb x)
  obtain ⟨y, hy, hyw, hR⟩ := sum_l0 (l ++ tl) kk hkl hall (by omega) n 0 (sha_Block.st s0) (by omega) (fun _ => by rw [list_st s0 hsl]; exact hsw)
  have hd : (l ++ tl).length / 64 = n := by omega
  rw [Nat.mul_zero, List.drop_zero] at hy
  refine ⟨kk, s0, y, hkk, hs0, hkl, hsl, by rw [hd]; exact hy, hyw, ?_, ?_⟩
  · unfold sha_Sum.f
    rw [hkk, hs0]
    simp only [Option.bind_some]
    have hsplit : n = l.length / 64 + ((l.drop (l.length / 64 * 64)) ++ tl).length / 64 := by
      rw [List.length_append, List.length_drop]; omega
    have hmod : ((l.drop (l.length / 64 * 64)) ++ tl).length % 64 = 0 ∧ tl.length < 1000 := by
      rw [List.length_append, List.length_drop]; omega
    rw [hsplit, run_append, run_ahead kk tl _ l _ (by omega)] at hy
    obtain ⟨s1, hs1, hs2⟩ := Option.bind_eq_some_iff.mp hy
    rw [List.drop_append_of_le_length (by omega), show 64 * (l.length / 64) = l.length / 64 * 64 by omega] at hs2
    refine Ev.congr (f := fun k => (sha_Tail.f k (l.length : Int)).bind fun tl => if ((l.drop (l.length / 64 * 64)) ++ tl).length % 64 = 0 ∧ tl.length < 1000 then (sha_Sum.run kk (((l.drop (l.length / 64 * 64)) ++ tl).length / 64) ((l.drop (l.length / 64 * 64)) ++ tl) s1).bind fun s2 => some (s2.list.flatMap sha_Sum.bytes) else none) (fun k => ?_) ?_
    · rw [if_pos (by omega), hs1]; rfl
    · refine Ev.bind (f := fun k tl => if ((l.drop (l.length / 64 * 64)) ++ tl).length % 64 = 0 ∧ tl.length < 1000 then (sha_Sum.run kk (((l.drop (l.length / 64 * 64)) ++ tl).length / 64) ((l.drop (l.length / 64 * 64)) ++ tl) s1).bind fun s2 => some (s2.list.flatMap sha_Sum.bytes) else none) htl ?_
      rw [if_pos hmod, hs2]
      exact Ev.now _
  · unfold notaryref03_Sum.f
    simp only [Option.bind_some, List.nil_append, List.length_nil]
    refine Ev.congr (f := fun k => (notaryref03_Tail.f k (l.length : Int)).bind fun t256 => (if l.length + t256.length < 140737488355328 then ((notaryref03_Rounds.f k).bind fun t262 => ((notaryref03_Start.f k).bind fun t265 => (notaryref03_Sum.l0 k (l ++ t256) t262 t265 0))) else (none))) (fun k => ?_) ?_
    · rw [if_pos (by omega)]
    · refine Ev.bind (f := fun k t256 => (if l.length + t256.length < 140737488355328 then ((notaryref03_Rounds.f k).bind fun t262 => ((notaryref03_Start.f k).bind fun t265 => (notaryref03_Sum.l0 k (l ++ t256) t262 t265 0))) else (none))) hrtl ?_
      refine Ev.congr (f := fun k => (notaryref03_Rounds.f k).bind fun t262 => (notaryref03_Start.f k).bind fun t265 => (notaryref03_Sum.l0 k (l ++ tl) t262 t265 0)) (fun k => if_pos (by omega)) ?_
      refine Ev.bind (f := fun k t262 => (notaryref03_Start.f k).bind fun t265 => (notaryref03_Sum.l0 k (l ++ tl) t262 t265 0)) hrk ?_
      refine Ev.bind (f := fun k t265 => notaryref03_Sum.l0 k (l ++ tl) kk t265 0) hrs ?_
      have := hR _ (sum_l1 y hyw 8 0 rfl)
      rw [list_st s0 hsl] at this
      exact this
theorem bytes_byt (l : List Int) : Byt (l.flatMap sha_Sum.bytes) := by
  intro x hx
  obtain ⟨z, hz, hxz⟩ := List.mem_flatMap.1 hx
  simp only [sha_Sum.bytes, List.mem_cons, List.not_mem_nil, or_false] at hxz
  rcases hxz with rfl | rfl | rfl | rfl <;> omega
theorem sum_same (l : List Int) (hb : Byt l) (hbig : l.length < 500000) : ∃ r, Ev (fun k => sha_Sum.f k l) r ∧ Ev (fun k => notaryref03_Sum.f k l) r ∧ r.length = 32 ∧ Byt r := by
  obtain ⟨_, _, y, _, _, _, _, _, _, h1, h2⟩ := sum_both l hb hbig
  exact ⟨_, h1, h2, by rw [sha_Sum.bytes_length]; rfl, bytes_byt _⟩
end Go.Proofs.Ytogjnipojakfjaa.LSha
