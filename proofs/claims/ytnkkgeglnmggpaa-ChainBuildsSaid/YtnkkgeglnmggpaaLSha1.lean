/- A digest's parts: what the program's functions and the reference's compute is the same. -/
import Derived.Laws.BitsAllLaws
import Derived.Test.YtnkkgeglnmggpaaLRoot3
import Derived.Test.YtnkkgeglnmggpaaPCbx1
import Derived.Test.YtnkkgeglnmggpaaPCbx2
import Derived.Test.YtnkkgeglnmggpaaPCbx9
import Derived.Test.YtnkkgeglnmggpaaPCbx11
namespace Go.Proofs.Ytnkkgeglnmggpaa.LSha
open Go.RowKit Go.Proofs.Ytnkkgeglnmggpaa.PCb Go.Proofs.YtnkkgeglnmggpaaW.PrintWords Go.Proofs.YtnkkgeglnmggpaaW.PrintLast Go.Proofs.YtnkkgeglnmggpaaW.PrintMore
set_option linter.unusedVariables false
set_option linter.unusedSimpArgs false
theorem u64w (n : Int) : IntKind.u64.wrap n = n % 18446744073709551616 := by simp [IntKind.wrap, IntKind.bits, IntKind.signed]
theorem u32w (n : Int) : IntKind.u32.wrap n = n % 4294967296 := by simp [IntKind.wrap, IntKind.bits, IntKind.signed]
theorem w64 (n : Int) (h0 : -9223372036854775808 ≤ n) (h1 : n < 9223372036854775808) : wrap64 n = n := by unfold wrap64; omega
theorem rd_at (l : List Int) (i : Nat) (h : i < l.length) : rd l (i : Int) = l[i] := by
  unfold rd
  rw [Int.toNat_natCast, List.getD_eq_getElem?_getD, List.getElem?_eq_getElem h]; rfl
theorem bor_comm (x y : Int) : bits .or .u32 x y = bits .or .u32 y x := by unfold bits; simp [BitVec.or_comm]
/-- turned to the right -/
def rotv (x : Int) (n : Nat) : Int := bits .or .u32 (shr .u32 x (n : Int)) (shl .u32 x ((32 - n : Nat) : Int))
theorem rot_and : ∀ n : Fin 32, bits .and .u64 (IntKind.u64.wrap (wrap64 (-(n.val : Int)))) 31 = (((32 - n.val) % 32 : Nat) : Int) := by decide +kernel
theorem rot_p (x : Int) (n : Nat) (h0 : 1 ≤ n) (h1 : n < 32) : sha_rot.f x (n : Int) = some (rotv x n) := by
  unfold sha_rot.f bits_RotateLeft32.f
  rw [rot_and ⟨n, h1⟩]
  simp only []
  rw [show (32 - n) % 32 = 32 - n from Nat.mod_eq_of_lt (by omega)]
  rw [show IntKind.u64.wrap (32 - ((32 - n : Nat) : Int)) = (n : Int) by rw [u64w]; omega]
  rw [if_pos (by omega), if_pos (by omega), bor_comm]; rfl
theorem rot_r (x : Int) (n : Nat) (h0 : 1 ≤ n) (h1 : n < 32) : notaryref03_Rot.f x (n : Int) = some (rotv x n) := by
  unfold notaryref03_Rot.f
  rw [show IntKind.u64.wrap (32 - (n : Int)) = ((32 - n : Nat) : Int) by rw [u64w]; omega]
  rw [if_pos (by omega), if_pos (by omega)]; rfl
theorem rp2 (x : Int) : sha_rot.f x 2 = some (rotv x 2) := rot_p x 2 (by decide) (by decide)
theorem rr2 (x : Int) : notaryref03_Rot.f x 2 = some (rotv x 2) := rot_r x 2 (by decide) (by decide)
theorem rp3 (x : Int) : sha_rot.f x 3 = some (rotv x 3) := rot_p x 3 (by decide) (by decide)
theorem rr3 (x : Int) : notaryref03_Rot.f x 3 = some (rotv x 3) := rot_r x 3 (by decide) (by decide)
theorem rp6 (x : Int) : sha_rot.f x 6 = some (rotv x 6) := rot_p x 6 (by decide) (by decide)
theorem rr6 (x : Int) : notaryref03_Rot.f x 6 = some (rotv x 6) := rot_r x 6 (by decide) (by decide)
theorem rp7 (x : Int) : sha_rot.f x 7 = some (rotv x 7) := rot_p x 7 (by decide) (by decide)
theorem rr7 (x : Int) : notaryref03_Rot.f x 7 = some (rotv x 7) := rot_r x 7 (by decide) (by decide)
theorem rp11 (x : Int) : sha_rot.f x 11 = some (rotv x 11) := rot_p x 11 (by decide) (by decide)
theorem rr11 (x : Int) : notaryref03_Rot.f x 11 = some (rotv x 11) := rot_r x 11 (by decide) (by decide)
theorem rp13 (x : Int) : sha_rot.f x 13 = some (rotv x 13) := rot_p x 13 (by decide) (by decide)
theorem rr13 (x : Int) : notaryref03_Rot.f x 13 = some (rotv x 13) := rot_r x 13 (by decide) (by decide)
theorem rp17 (x : Int) : sha_rot.f x 17 = some (rotv x 17) := rot_p x 17 (by decide) (by decide)
theorem rr17 (x : Int) : notaryref03_Rot.f x 17 = some (rotv x 17) := rot_r x 17 (by decide) (by decide)
theorem rp18 (x : Int) : sha_rot.f x 18 = some (rotv x 18) := rot_p x 18 (by decide) (by decide)
theorem rr18 (x : Int) : notaryref03_Rot.f x 18 = some (rotv x 18) := rot_r x 18 (by decide) (by decide)
theorem rp19 (x : Int) : sha_rot.f x 19 = some (rotv x 19) := rot_p x 19 (by decide) (by decide)
theorem rr19 (x : Int) : notaryref03_Rot.f x 19 = some (rotv x 19) := rot_r x 19 (by decide) (by decide)
theorem rp22 (x : Int) : sha_rot.f x 22 = some (rotv x 22) := rot_p x 22 (by decide) (by decide)
theorem rr22 (x : Int) : notaryref03_Rot.f x 22 = some (rotv x 22) := rot_r x 22 (by decide) (by decide)
theorem rp25 (x : Int) : sha_rot.f x 25 = some (rotv x 25) := rot_p x 25 (by decide) (by decide)
theorem rr25 (x : Int) : notaryref03_Rot.f x 25 = some (rotv x 25) := rot_r x 25 (by decide) (by decide)
/-- numbers of 32 bits -/
def W32 (l : List Int) : Prop := ∀ x ∈ l, 0 ≤ x ∧ x < 4294967296
/-- four bytes -/
theorem word_is (b0 b1 b2 b3 : Int) (h0 : 0 ≤ b0 ∧ b0 < 256) (h1 : 0 ≤ b1 ∧ b1 < 256) (h2 : 0 ≤ b2 ∧ b2 < 256) (h3 : 0 ≤ b3 ∧ b3 < 256) :
    sha_spread.word b0 b1 b2 b3 = b0 * 16777216 + b1 * 65536 + b2 * 256 + b3 := by
  obtain ⟨n0, rfl⟩ := Int.eq_ofNat_of_zero_le h0.1
  obtain ⟨n1, rfl⟩ := Int.eq_ofNat_of_zero_le h1.1
  obtain ⟨n2, rfl⟩ := Int.eq_ofNat_of_zero_le h2.1
  obtain ⟨n3, rfl⟩ := Int.eq_ofNat_of_zero_le h3.1
  unfold sha_spread.word
  simp only [u32w]
  rw [show ((n0 : Int) % 4294967296 * 16777216 % 4294967296) = ((n0 * 16777216 : Nat) : Int) by omega, show ((n1 : Int) % 4294967296 * 65536 % 4294967296) = ((n1 * 65536 : Nat) : Int) by omega, show ((n2 : Int) % 4294967296 * 256 % 4294967296) = ((n2 * 256 : Nat) : Int) by omega, show ((n3 : Int) % 4294967296) = ((n3 : Nat) : Int) by omega]
  rw [u32_or_nat _ _ (by omega) (by omega), nat_join 24 (n0 * 16777216) (n1 * 65536) (by omega) (by omega)]
  rw [u32_or_nat _ _ (by omega) (by omega), nat_join 16 _ (n2 * 256) (by omega) (by omega)]
  rw [u32_or_nat _ _ (by omega) (by omega), nat_join 8 _ n3 (by omega) (by omega)]
  omega
def Byt (l : List Int) : Prop := ∀ x ∈ l, 0 ≤ x ∧ x < 256
theorem rd_byt {l : List Int} (h : Byt l) (i : Int) (h0 : 0 ≤ i) (h1 : i < l.length) : 0 ≤ rd l i ∧ rd l i < 256 := by
  obtain ⟨n, rfl⟩ := Int.eq_ofNat_of_zero_le h0
  rw [rd_at l n (by omega)]
  exact h _ (List.getElem_mem _)
theorem numbers_l1 (b x3 : List Int) (hb : Byt b) (hl : b.length = 64) (j : Nat) (hj : j < 16) (hx : x3.length < 1000) (r : List Int)
    (h : Ev (fun k => notaryref03_Numbers.l0 k b (x3 ++ [sha_spread.w0 b j]) ((j + 1 : Nat) : Int)) r) : Ev (fun k => notaryref03_Numbers.l1 k b x3 (j : Int) 0 0) r := by
  have a0 := rd_byt hb (4 * (j : Int)) (by omega) (by omega)
  have a1 := rd_byt hb (4 * (j : Int) + 1) (by omega) (by omega)
  have a2 := rd_byt hb (4 * (j : Int) + 2) (by omega) (by omega)
  have a3 := rd_byt hb (4 * (j : Int) + 3) (by omega) (by omega)
  have e4 : wrap64 (4 * (j : Int)) = 4 * (j : Int) := w64 _ (by omega) (by omega)
  have e40 : wrap64 (4 * (j : Int) + 0) = 4 * (j : Int) := by rw [w64 _ (by omega) (by omega)]; omega
  have e41 : wrap64 (4 * (j : Int) + 1) = 4 * (j : Int) + 1 := w64 _ (by omega) (by omega)
  have e42 : wrap64 (4 * (j : Int) + 2) = 4 * (j : Int) + 2 := w64 _ (by omega) (by omega)
  have e43 : wrap64 (4 * (j : Int) + 3) = 4 * (j : Int) + 3 := w64 _ (by omega) (by omega)
  have ej : wrap64 ((j : Int) + 1) = ((j + 1 : Nat) : Int) := by rw [w64 _ (by omega) (by omega)]; omega
  have hw := word_is _ _ _ _ a0 a1 a2 a3
  unfold sha_spread.w0 at h
  rw [hw] at h
  clear hw
  generalize hb0 : rd b (4 * (j : Int)) = b0 at *
  generalize hb1 : rd b (4 * (j : Int) + 1) = b1 at *
  generalize hb2 : rd b (4 * (j : Int) + 2) = b2 at *
  generalize hb3 : rd b (4 * (j : Int) + 3) = b3 at *
  refine Ev.step (f := fun k => notaryref03_Numbers.l1 k b x3 (j : Int) b0 1) (fun k => ?_) ?_
  · simp only [notaryref03_Numbers.l1]
    rw [if_pos (by omega), e4, e40, if_pos (by omega), if_pos (by omega), hb0, show wrap64 (0 + 1) = 1 by rw [w64 _ (by omega) (by omega)]; rfl, show ((0 * 256 % 4294967296 + b0 % 4294967296) % 4294967296 : Int) = b0 by omega]
  refine Ev.step (f := fun k => notaryref03_Numbers.l1 k b x3 (j : Int) (b0 * 256 + b1) 2) (fun k => ?_) ?_
  · simp only [notaryref03_Numbers.l1]
    rw [if_pos (by omega), e4, e41, if_pos (by omega), if_pos (by omega), hb1, show wrap64 (1 + 1) = 2 by rw [w64 _ (by omega) (by omega)]; rfl, show ((b0 * 256 % 4294967296 + b1 % 4294967296) % 4294967296 : Int) = b0 * 256 + b1 by omega]
  refine Ev.step (f := fun k => notaryref03_Numbers.l1 k b x3 (j : Int) ((b0 * 256 + b1) * 256 + b2) 3) (fun k => ?_) ?_
  · simp only [notaryref03_Numbers.l1]
    rw [if_pos (by omega), e4, e42, if_pos (by omega), if_pos (by omega), hb2, show wrap64 (2 + 1) = 3 by rw [w64 _ (by omega) (by omega)]; rfl, show (((b0 * 256 + b1) * 256 % 4294967296 + b2 % 4294967296) % 4294967296 : Int) = (b0 * 256 + b1) * 256 + b2 by omega]
  refine Ev.step (f := fun k => notaryref03_Numbers.l1 k b x3 (j : Int) (b0 * 16777216 + b1 * 65536 + b2 * 256 + b3) 4) (fun k => ?_) ?_
  · simp only [notaryref03_Numbers.l1]
    rw [if_pos (by omega), e4, e43, if_pos (by omega), if_pos (by omega), hb3, show wrap64 (3 + 1) = 4 by rw [w64 _ (by omega) (by omega)]; rfl, show ((((b0 * 256 + b1) * 256 + b2) * 256 % 4294967296 + b3 % 4294967296) % 4294967296 : Int) = b0 * 16777216 + b1 * 65536 + b2 * 256 + b3 by omega]
  refine Ev.step (f := fun k => notaryref03_Numbers.l0 k b (x3 ++ [b0 * 16777216 + b1 * 65536 + b2 * 256 + b3]) ((j + 1 : Nat) : Int)) (fun k => ?_) h
  simp only [notaryref03_Numbers.l1]
  rw [if_neg (by omega), if_pos (by omega), ej]
theorem numbers_l0 (b : List Int) (hb : Byt b) (hl : b.length = 64) (r : List Int) (h : Ev (fun k => notaryref03_Numbers.l2 k (sha_spread.begin b 16) 16) r) :
    ∀ (n j : Nat), n + j = 16 → Ev (fun k => notaryref03_Numbers.l0 k b (sha_spread.begin b j) (j : Int)) r := by
  intro n
  induction n with
  | zero =>
    intro j hj
    obtain rfl : j = 16 := by omega
    refine Ev.step (f := fun k => notaryref03_Numbers.l2 k (sha_spread.begin b 16) 16) (fun k => ?_) h
    simp only [notaryref03_Numbers.l0]
    rw [if_neg (by omega)]
  | succ n ih =>
    intro j hj
    refine Ev.step (f := fun k => notaryref03_Numbers.l1 k b (sha_spread.begin b j) (j : Int) 0 0) (fun k => ?_) ?_
    · simp only [notaryref03_Numbers.l0]
      rw [if_pos (by omega)]
    · exact numbers_l1 b _ hb hl j (by omega) (by rw [sha_spread.begin_length]; omega) r (ih (j + 1) (by omega))
theorem xor_in (a b : Int) : 0 ≤ bits .xor .u32 a b ∧ bits .xor .u32 a b < 4294967296 := by
  have h := bits_within .xor .u32 a b
  have h1 : 0 ≤ bits .xor .u32 a b := h.1
  have h2 : bits .xor .u32 a b ≤ 4294967295 := h.2
  omega
/-- one number more -/
theorem next_is (l : List Int) (i : Nat) (h16 : 16 ≤ i) (hi : i < 64) (hl : l.length = i) : ∃ v, sha_spread.next l (i : Int) = some v ∧ 0 ≤ v ∧ v < 4294967296 ∧
    ∀ r, Ev (fun k => notaryref03_Numbers.l2 k (l ++ [v]) ((i + 1 : Nat) : Int)) r → Ev (fun k => notaryref03_Numbers.l2 k l (i : Int)) r := by
  refine ⟨_, by
    unfold sha_spread.next
    rw [rp7, rp18, rp17, rp19]
    rfl, ?_, ?_, ?_⟩
  · simp only [u32w]; omega
  · simp only [u32w]; omega
  · intro r h
    refine Ev.step (f := fun k => _) (fun k => ?_) h
    have e2 : wrap64 ((i : Int) - 2) = (i : Int) - 2 := w64 _ (by omega) (by omega)
    have e15 : wrap64 ((i : Int) - 15) = (i : Int) - 15 := w64 _ (by omega) (by omega)
    have e7 : wrap64 ((i : Int) - 7) = (i : Int) - 7 := w64 _ (by omega) (by omega)
    have e16 : wrap64 ((i : Int) - 16) = (i : Int) - 16 := w64 _ (by omega) (by omega)
    have e1 : wrap64 ((i : Int) + 1) = ((i + 1 : Nat) : Int) := by rw [w64 _ (by omega) (by omega)]; omega
    simp only [notaryref03_Numbers.l2]
    rw [e2, e15, e7, e16, e1, if_pos (by omega), if_pos (by omega), if_pos (by omega), if_pos (by omega), if_pos (by omega)]
    rw [rr17, rr19, rr7, rr18]
    simp only [Option.bind_some]
    rw [if_pos (by omega), if_pos (by omega), if_pos (by omega), if_pos (by omega), if_pos (by omega)]
    congr 3
    simp only [u32w]
    omega
theorem numbers_l2 : ∀ (n : Nat) (l : List Int), n + l.length = 64 → 16 ≤ l.length → W32 l → ∃ r, sha_spread.more n l = some r ∧ Ev (fun k => notaryref03_Numbers.l2 k l (l.length : Int)) r ∧ W32 r ∧ r.length = 64 := by
  intro n
  induction n with
  | zero =>
    intro l hl h16 hw
    refine ⟨l, rfl, ?_, hw, by omega⟩
    refine Ev.step (f := fun _ => some l) (fun k => ?_) (Ev.now _)
    simp only [notaryref03_Numbers.l2]
    rw [if_neg (by omega)]
  | succ n ih =>
    intro l hl h16 hw
    obtain ⟨v, hv, h0, h1, hstep⟩ := next_is l l.length h16 (by omega) rfl
    obtain ⟨r, hr, hev, hwr, hlr⟩ := ih (l ++ [v]) (by simp; omega) (by simp; omega) (by
      intro x hx
      rcases List.mem_append.1 hx with hx | hx
      · exact hw x hx
      · obtain rfl := List.mem_singleton.1 hx; exact ⟨h0, h1⟩)
    refine ⟨r, ?_, hstep r (by simpa using hev), hwr, hlr⟩
    simp only [sha_spread.more, hv, Option.bind_some]
    exact hr
theorem begin_w32 (b : List Int) (hb : Byt b) (hl : b.length = 64) : ∀ n, n ≤ 16 → W32 (sha_spread.begin b n)
  | 0, _ => fun x hx => by cases hx
  | n + 1, hn => by
    intro x hx
    rcases List.mem_append.1 hx with hx | hx
    · exact begin_w32 b hb hl n (by omega) x hx
    · obtain rfl := List.mem_singleton.1 hx
      unfold sha_spread.w0
      have a0 := rd_byt hb (4 * (n : Int)) (by omega) (by omega)
      have a1 := rd_byt hb (4 * (n : Int) + 1) (by omega) (by omega)
      have a2 := rd_byt hb (4 * (n : Int) + 2) (by omega) (by omega)
      have a3 := rd_byt hb (4 * (n : Int) + 3) (by omega) (by omega)
      rw [word_is _ _ _ _ a0 a1 a2 a3]
      omega
/-- the 64 numbers of a block -/
theorem numbers_ev (b : List Int) (hb : Byt b) (hl : b.length = 64) : ∃ r, sha_spread.f b = some r ∧ Ev (fun k => notaryref03_Numbers.f k b) r ∧ W32 r ∧ r.length = 64 := by
  obtain ⟨r, hr, hev, hw, hrl⟩ := numbers_l2 48 (sha_spread.begin b 16) (by rw [sha_spread.begin_length]) (by rw [sha_spread.begin_length]; omega) (begin_w32 b hb hl 16 (Nat.le_refl _))
  refine ⟨r, hr, ?_, hw, hrl⟩
  refine Ev.congr (f := fun k => notaryref03_Numbers.l0 k b (sha_spread.begin b 0) ((0 : Nat) : Int)) (fun k => rfl) ?_
  refine numbers_l0 b hb hl r ?_ 16 0 rfl
  rw [sha_spread.begin_length] at hev
  exact hev
end Go.Proofs.Ytnkkgeglnmggpaa.LSha
