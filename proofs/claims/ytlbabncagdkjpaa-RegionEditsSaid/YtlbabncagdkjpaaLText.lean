/- Texts as lists of bytes. -/
import Derived.Laws.Strings
import Derived.Test.YtlbabncagdkjpaaPAllx0
namespace Go.Proofs.Ytlbabncagdkjpaa.LText
open Go.RowKit Go.Proofs.Ytlbabncagdkjpaa.PAll Go.Proofs.YtlbabncagdkjpaaW.PrintWords Go.Proofs.YtlbabncagdkjpaaW.PrintLast Go.Proofs.YtlbabncagdkjpaaW.PrintMore
set_option linter.unusedVariables false
set_option linter.unusedSimpArgs false
theorem w64 (n : Int) (h0 : -9223372036854775808 ≤ n) (h1 : n < 9223372036854775808) : wrap64 n = n := by unfold wrap64; omega
theorem ext_list (s : ByteArray) (a b : Nat) : (s.extract a b).toList = (s.toList.take b).drop a := by
  rw [ByteArray.toList_eq, ByteArray.toList_eq, ByteArray.data_extract, Array.toList_extract]
  simp [List.extract]
  rw [List.drop_take]
theorem len_list (s : ByteArray) : s.toList.length = s.size := by rw [ByteArray.toList_eq]; rfl
theorem bt_list (s : ByteArray) (i : Nat) (h : i < s.toList.length) : bt s (i : Int) = ((s.toList[i]).toNat : Int) := by
  have h2 : i < s.size := by rwa [len_list] at h
  have := bt_at s (i : Int) (by simpa using h2)
  rw [← this]
  congr 2
  simp only [ByteArray.toList_eq]
  rfl
theorem bt_eq (p q : ByteArray) (i j : Nat) (h : i < p.toList.length) (h2 : j < q.toList.length) : bt p (i : Int) = bt q (j : Int) ↔ p.toList[i] = q.toList[j] := by
  rw [bt_list p i h, bt_list q j h2]
  constructor
  · intro e
    apply UInt8.toNat_inj.1
    omega
  · intro e; rw [e]
end Go.Proofs.Ytlbabncagdkjpaa.LText
