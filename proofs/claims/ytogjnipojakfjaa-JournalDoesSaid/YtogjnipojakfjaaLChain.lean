/- Logs, plainly: messages, and what stands in a log. -/
import Derived.Test.YtogjnipojakfjaaLEv
import Derived.Test.YtogjnipojakfjaaLTail
import Derived.Test.YtogjnipojakfjaaLEnt2
import Derived.Test.YtogjnipojakfjaaLEnt3
import Derived.Test.YtogjnipojakfjaaLHmac2
import Derived.Test.YtogjnipojakfjaaPJdx3
import Derived.Test.YtogjnipojakfjaaPJdx4
import Derived.Test.YtogjnipojakfjaaPJdx8
import Derived.Test.YtogjnipojakfjaaPJdx9
import Derived.Test.YtogjnipojakfjaaPJdx10
import Derived.Test.YtogjnipojakfjaaPJdx11
import Derived.Test.YtogjnipojakfjaaPJdx12
namespace Go.Proofs.Ytogjnipojakfjaa.LChain
open Go.RowKit Go.Proofs.Ytogjnipojakfjaa.PJd Go.Proofs.YtogjnipojakfjaaW.PrintWords Go.Proofs.YtogjnipojakfjaaW.PrintLast Go.Proofs.YtogjnipojakfjaaW.PrintMore
open LSame (Byt)
set_option linter.unusedVariables false
set_option linter.unusedSimpArgs false
theorem msg_l0 (p : List Int) (hp : p.length ≤ 10000) (v : Int) (h0 : 0 ≤ v) (h1 : v < 18446744073709551616) (out : List Int) (hl : out.length ≤ 1000) : Ev (fun k => chain_Message.l0 k v p out 56) (out ++ LTail.be8 v ++ p, 0) := by
  have step : ∀ (x : Int) (s : Int) (o : List Int) (r : List Int × Int), 0 ≤ s → s ≤ 56 → o.length ≤ 1010 → x = shr .u64 v s % 256 → Ev (fun k => chain_Message.l0 k v p (o ++ [x]) (s - 8)) r → Ev (fun k => chain_Message.l0 k v p o s) r := by
    intro x s o r hs0 hs1 ho hx h
    refine Ev.step (fun k => ?_) h
    simp only [chain_Message.l0]
    rw [if_pos (by omega), if_pos (by omega), if_pos (by omega), LEv.w64 _ (by omega) (by omega), hx]
  unfold LTail.be8
  have e : out ++ [v / 72057594037927936 % 256, v / 281474976710656 % 256, v / 1099511627776 % 256, v / 4294967296 % 256, v / 16777216 % 256, v / 65536 % 256, v / 256 % 256, v % 256] = (((((((out ++ [v / 72057594037927936 % 256]) ++ [v / 281474976710656 % 256]) ++ [v / 1099511627776 % 256]) ++ [v / 4294967296 % 256]) ++ [v / 16777216 % 256]) ++ [v / 65536 % 256]) ++ [v / 256 % 256]) ++ [v % 256] := by simp
  rw [e]
  refine step (v / 72057594037927936 % 256) 56 _ _ (by decide) (by decide) (by omega) (by simp [shr, IntKind.bits]) ?_
  refine step (v / 281474976710656 % 256) 48 _ _ (by decide) (by decide) (by simp; omega) (by simp [shr, IntKind.bits]) ?_
  refine step (v / 1099511627776 % 256) 40 _ _ (by decide) (by decide) (by simp; omega) (by simp [shr, IntKind.bits]) ?_
  refine step (v / 4294967296 % 256) 32 _ _ (by decide) (by decide) (by simp; omega) (by simp [shr, IntKind.bits]) ?_
  refine step (v / 16777216 % 256) 24 _ _ (by decide) (by decide) (by simp; omega) (by simp [shr, IntKind.bits]) ?_
  refine step (v / 65536 % 256) 16 _ _ (by decide) (by decide) (by simp; omega) (by simp [shr, IntKind.bits]) ?_
  refine step (v / 256 % 256) 8 _ _ (by decide) (by decide) (by simp; omega) (by simp [shr, IntKind.bits]) ?_
  refine step (v % 256) 0 _ _ (by decide) (by decide) (by simp; omega) (by simp [shr, IntKind.bits]) ?_
  refine Ev.step (f := fun _ => some _) (fun k => ?_) (Ev.now _)
  simp only [chain_Message.l0]
  rw [if_neg (by decide), if_pos (by simp; omega)]
theorem rmsg_l0 (p : List Int) (hp : p.length ≤ 10000) (v : Int) (h0 : 0 ≤ v) (h1 : v < 18446744073709551616) (out : List Int) (hl : out.length ≤ 1000) : Ev (fun k => notaryref47_Message.l0 k v p out 72057594037927936) (out ++ LTail.be8 v ++ p, 0) := by
  have step : ∀ (x u u' : Int) (o : List Int) (r : List Int × Int), 0 < u → u ≤ 72057594037927936 → o.length ≤ 1010 → x = v / u % 256 → u' = u / 256 → Ev (fun k => notaryref47_Message.l0 k v p (o ++ [x]) u') r → Ev (fun k => notaryref47_Message.l0 k v p o u) r := by
    intro x u u' o r hu0 hu1 ho hx hu' h
    refine Ev.step (fun k => ?_) h
    have hd0 : 0 ≤ v / u := Int.ediv_nonneg h0 (by omega)
    have hd1 : v / u ≤ v := Int.ediv_le_self _ h0
    simp only [notaryref47_Message.l0]
    rw [if_pos (by omega), if_neg (by omega), if_pos (by omega), Int.tdiv_eq_ediv_of_nonneg h0, Int.tdiv_eq_ediv_of_nonneg (by omega), LSame.u64w, LSame.u64w, Int.emod_eq_of_lt hd0 (by omega), Int.tmod_eq_emod_of_nonneg hd0, hx, hu']
    rw [show u / 256 % 18446744073709551616 = u / 256 by omega, Int.emod_emod_of_dvd _ (by decide)]
  unfold LTail.be8
  have e : out ++ [v / 72057594037927936 % 256, v / 281474976710656 % 256, v / 1099511627776 % 256, v / 4294967296 % 256, v / 16777216 % 256, v / 65536 % 256, v / 256 % 256, v % 256] = (((((((out ++ [v / 72057594037927936 % 256]) ++ [v / 281474976710656 % 256]) ++ [v / 1099511627776 % 256]) ++ [v / 4294967296 % 256]) ++ [v / 16777216 % 256]) ++ [v / 65536 % 256]) ++ [v / 256 % 256]) ++ [v % 256] := by simp
  rw [e]
  refine step (v / 72057594037927936 % 256) 72057594037927936 281474976710656 _ _ (by decide) (by decide) (by omega) rfl (by decide) ?_
  refine step (v / 281474976710656 % 256) 281474976710656 1099511627776 _ _ (by decide) (by decide) (by simp; omega) rfl (by decide) ?_
  refine step (v / 1099511627776 % 256) 1099511627776 4294967296 _ _ (by decide) (by decide) (by simp; omega) rfl (by decide) ?_
  refine step (v / 4294967296 % 256) 4294967296 16777216 _ _ (by decide) (by decide) (by simp; omega) rfl (by decide) ?_
  refine step (v / 16777216 % 256) 16777216 65536 _ _ (by decide) (by decide) (by simp; omega) rfl (by decide) ?_
  refine step (v / 65536 % 256) 65536 256 _ _ (by decide) (by decide) (by simp; omega) rfl (by decide) ?_
  refine step (v / 256 % 256) 256 1 _ _ (by decide) (by decide) (by simp; omega) rfl (by decide) ?_
  refine step (v % 256) 1 0 _ _ (by decide) (by decide) (by simp; omega) (by rw [Int.ediv_one]) (by decide) ?_
  refine Ev.step (f := fun _ => some _) (fun k => ?_) (Ev.now _)
  simp only [notaryref47_Message.l0]
  rw [if_neg (by decide), if_pos (by simp; omega)]


/-- the message of an entry that may be, behind a tag -/
def msgS (ahead : List Int) (n : Int) (k : Int) (b : List Int) : List Int × Int :=
  if ahead.length = 32 then (if (LEnt.payS k b).2 = 0 then (ahead ++ LTail.be8 n ++ (LEnt.payS k b).1, 0) else ([], (LEnt.payS k b).2)) else ([], 2)
theorem message_ev (ahead : List Int) (n : Int) (h0 : 0 ≤ n) (h1 : n < 18446744073709551616) (k : Int) (b : List Int) : Ev (fun m => chain_Message.f m ahead n k b) (msgS ahead n k b) := by
  have hp := LEnt.payS_len k b
  refine Ev.congr (fun m => chain_Message.f.eq_1 ..) ?_
  by_cases h : ahead.length = 32
  · refine LEv.pos (by omega) (LEv.eqb (LEnt.payload_ok k b) ?_)
    by_cases hx : (LEnt.payS k b).2 = 0
    · refine LEv.pos hx (LEv.sb (LEv.pos (by simp; omega) (LEv.val ?_ (msg_l0 (LEnt.payS k b).1 (by omega) n h0 h1 ([] ++ ahead) (by simp; omega)))))
      unfold msgS
      rw [if_pos h, if_pos hx, List.nil_append]
    · exact LEv.neg hx (LEv.fin (by unfold msgS; rw [if_pos h, if_neg hx]))
  · exact LEv.neg (by omega) (LEv.fin (by unfold msgS; rw [if_neg h]))
theorem rmessage_ev (ahead : List Int) (n : Int) (h0 : 0 ≤ n) (h1 : n < 18446744073709551616) (k : Int) (b : List Int) : Ev (fun m => notaryref47_Message.f m ahead n k b) (msgS ahead n k b) := by
  have hp := LEnt.payS_len k b
  refine Ev.congr (fun m => notaryref47_Message.f.eq_1 ..) ?_
  by_cases h : ahead.length = 32
  · refine LEv.pos (by omega) (LEv.bd _ (LEnt.rpayload_ev k b) ?_)
    by_cases hx : (LEnt.payS k b).2 = 0
    · refine LEv.pos hx (LEv.sb (LEv.pos (by simp; omega) (LEv.val ?_ (rmsg_l0 (LEnt.payS k b).1 (by omega) n h0 h1 ([] ++ ahead) (by simp; omega)))))
      unfold msgS
      rw [if_pos h, if_pos hx, List.nil_append]
    · exact LEv.neg hx (LEv.fin (by unfold msgS; rw [if_pos h, if_neg hx]))
  · exact LEv.neg (by omega) (LEv.fin (by unfold msgS; rw [if_neg h]))
theorem payS_ok (k : Int) (b : List Int) (h1 : 1 ≤ k) (h2 : k ≤ 3) (h3 : b.length ≤ 1024) : LEnt.payS k b = (k :: b, 0) := by
  unfold LEnt.payS
  rw [if_pos ⟨h1, h2⟩, if_neg (by omega), show k % 256 = k by omega]
theorem msgS_ok (ahead : List Int) (n : Int) (k : Int) (b : List Int) (ha : ahead.length = 32) (h1 : 1 ≤ k) (h2 : k ≤ 3) (h3 : b.length ≤ 1024) : msgS ahead n k b = (ahead ++ LTail.be8 n ++ (k :: b), 0) := by
  unfold msgS
  rw [if_pos ha, payS_ok k b h1 h2 h3, if_pos rfl]
/-- a tag -/
noncomputable def tagS (key m : List Int) : List Int := Classical.epsilon (fun r => Ev (fun k => hmac_Tag.f k key m) r)
theorem tagS_spec (key m : List Int) (hk : Byt key) (hkl : key.length ≤ 1000) (hm : Byt m) (hml : m.length ≤ 100000) : (tagS key m).length = 32 ∧ Byt (tagS key m) ∧ Ev (fun k => hmac_Tag.f k key m) (tagS key m) ∧ Ev (fun k => notaryref04_Tag.f k key m) (tagS key m) := by
  obtain ⟨r, hr, hb, h1, h2⟩ := LHmac.tag_same2 key m hk hkl hm hml
  have h3 : Ev (fun k => hmac_Tag.f k key m) (tagS key m) := Classical.epsilon_spec (p := fun r => Ev (fun k => hmac_Tag.f k key m) r) ⟨r, h1⟩
  have e : tagS key m = r := LEv.uniq h3 h1
  rw [e]
  exact ⟨hr, hb, h1, h2⟩
/-- a frame: its entry, and its tag -/
abbrev Fr := S35 × List Int
structure FrOk (f : Fr) : Prop where
  k1 : 1 ≤ f.1.f0
  k2 : f.1.f0 ≤ 3
  b : f.1.f1.length ≤ 1024
  bb : Byt f.1.f1
  t : f.2.length = 32
  tb : Byt f.2
/-- what is read at a place is fine, and goes on -/
theorem read_fine (l : List Int) (hB : Byt l) (hl : l.length < 140737488355328) (a : Int) (R : LEnt.Rec) (h : entry_Read.f l a = some R) (h0 : R.2.2.2.2 = 0) : FrOk (⟨R.1, R.2.1⟩, R.2.2.1) ∧ 0 ≤ a ∧ a + 36 ≤ R.2.2.2.1 ∧ R.2.2.2.1 ≤ (l.length : Int) := by
  obtain ⟨R', hR', _, hF⟩ := LEnt.read_both l hB hl a
  obtain rfl : R' = R := Option.some.inj (hR'.symm.trans h)
  obtain ⟨g1, g2, g3, g4⟩ := hF h0
  obtain ⟨k1, k2, b1, t1, e1⟩ := LEnt.frS_ok R'.1 R'.2.1 R'.2.2.1 (by rw [g4])
  have hx : (LEnt.frS R'.1 R'.2.1 R'.2.2.1).1 = (l.take R'.2.2.2.1.toNat).drop a.toNat := by rw [g4]
  rw [e1] at hx
  have hb2 : Byt ((l.take R'.2.2.2.1.toNat).drop a.toNat) := (hB.take _).drop _
  rw [← hx] at hb2
  have hlen := congrArg List.length hx
  have hl4 : (entry_length.bytes ((R'.2.1.length + 1 : Nat) : Int)).length = 4 := rfl
  simp only [List.length_append, List.length_drop, List.length_take, List.length_cons, hl4] at hlen
  refine ⟨⟨k1, k2, b1, fun x hx => hb2 x ?_, t1, fun x hx => hb2 x ?_⟩, g1, by omega, g3⟩
  · simp only [List.mem_append, List.mem_cons]
    exact .inl (.inr (.inr hx))
  · simp only [List.mem_append]
    exact .inr hx
end Go.Proofs.Ytogjnipojakfjaa.LChain
