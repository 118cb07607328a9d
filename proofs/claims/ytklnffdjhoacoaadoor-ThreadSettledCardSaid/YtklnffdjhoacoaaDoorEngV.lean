/- The engine, part V: the words of conditions. -/
import Derived.Test.YtklnffdjhoacoaaDoorEngGn
set_option linter.unusedSimpArgs false
set_option linter.unusedVariables false
namespace Go.Eng
open Go

theorem InR_i64 {n : Int} : InR .i64 n ↔ -9223372036854775808 ≤ n ∧ n ≤ 9223372036854775807 := by
  unfold InR
  simp only [IntKind.wrap, IntKind.bits, IntKind.signed]
  constructor <;> intro h <;> simp at * <;> omega
theorem InL_iff {n : Nat} : InL n ↔ n ≤ 9223372036854775807 := by
  unfold InL
  simp [IntKind.max, IntKind.bits, IntKind.signed]; omega
theorem InA_iff {n b : Nat} : InA n b ↔ n * b ≤ 140737488355328 := Iff.rfl
theorem ba_get (d : ByteArray) (j : Nat) : d[j]? = d.data.toList[j]? := by
  by_cases h : j < d.size
  · rw [getElem?_pos d j h, Array.getElem?_toList, getElem?_pos d.data j h]; rfl
  · rw [getElem?_neg d j h, Array.getElem?_toList, getElem?_neg d.data j h]
end Go.Eng
