/- The row of products that the program fills from one place on. -/
import Derived.Test.YtihbaieiempjeaaMul
namespace Go.Proofs.Ytihbaieiempjeaa
open Go.RowKit

def prow (q n m : Nat) : List Int := List.replicate q 0 ++ upW n m ++ List.replicate (4 - q - m) 0
theorem prow_length (q n m : Nat) (h : q + m ≤ 4) : (prow q n m).length = 4 := by
  simp [prow, upW_length]
  omega
theorem prow_zero (q n : Nat) (h : q ≤ 4) : prow q n 0 = [0, 0, 0, 0] := by
  obtain rfl | rfl | rfl | rfl | rfl : q = 0 ∨ q = 1 ∨ q = 2 ∨ q = 3 ∨ q = 4 := by omega
  all_goals rfl
theorem prow_drop (q n m : Nat) (h : q + m = 4) : (prow q n m).drop q = upW n m := by
  have e : 4 - q - m = 0 := by omega
  simp [prow, e]
theorem prow_set (q n m : Nat) (h : q + m < 4) : (prow q n m).set (q + m) ((n + m : Nat) : Int) = prow q n (m + 1) := by
  obtain ⟨z, hz⟩ : ∃ z, 4 - q - m = z + 1 := ⟨3 - q - m, by omega⟩
  have hz' : 4 - q - (m + 1) = z := by omega
  rw [prow, prow, hz, hz', upW, List.replicate_succ]
  rw [List.set_append_right _ _ (by simp [upW_length])]
  simp [upW_length]
end Go.Proofs.Ytihbaieiempjeaa
