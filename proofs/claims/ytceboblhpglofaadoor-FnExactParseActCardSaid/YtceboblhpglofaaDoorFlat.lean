/- Rows of structs of numbers, read as their cells one after another. No program is named here. -/
import Derived.Test.YtceboblhpglofaaDoorBase
import Derived.Laws.MakeOwn
namespace Go.Proofs.YtceboblhpglofaaDoor
open Go.RowKit

theorem made_all (z : Array Value) (v : Value) (m : Nat) (h : ∀ q, z[q % z.size]! = v) : (madeCells z m).toList = List.replicate m v := by
  rw [List.eq_replicate_iff]
  refine ⟨by simp [madeCells], fun x hx => ?_⟩
  simp [madeCells] at hx
  obtain ⟨q, _, rfl⟩ := hx
  simpa using h q
theorem made2 (n : Nat) : (madeCells #[Value.int IntKind.i64 0, Value.int IntKind.i64 0] (n * 2)).toList = List.replicate (n * 2) (.int .i64 0) := by
  refine made_all _ _ _ fun q => ?_
  have h : q % 2 = 0 ∨ q % 2 = 1 := by omega
  show #[Value.int IntKind.i64 0, Value.int IntKind.i64 0][q % 2]! = _
  rcases h with h | h <;> rw [h] <;> rfl
theorem made3 (n : Nat) : (madeCells #[Value.int IntKind.i64 0, Value.int IntKind.i64 0, Value.int IntKind.i64 0] (n * 3)).toList = List.replicate (n * 3) (.int .i64 0) := by
  refine made_all _ _ _ fun q => ?_
  have h : q % 3 = 0 ∨ q % 3 = 1 ∨ q % 3 = 2 := by omega
  show #[Value.int IntKind.i64 0, Value.int IntKind.i64 0, Value.int IntKind.i64 0][q % 3]! = _
  rcases h with h | h | h <;> rw [h] <;> rfl
theorem made4 (n : Nat) : (madeCells #[Value.int IntKind.i64 0, Value.int IntKind.i64 0, Value.int IntKind.i64 0, Value.int IntKind.i64 0] (n * 4)).toList = List.replicate (n * 4) (.int .i64 0) := by
  refine made_all _ _ _ fun q => ?_
  have h : q % 4 = 0 ∨ q % 4 = 1 ∨ q % 4 = 2 ∨ q % 4 = 3 := by omega
  show #[Value.int IntKind.i64 0, Value.int IntKind.i64 0, Value.int IntKind.i64 0, Value.int IntKind.i64 0][q % 4]! = _
  rcases h with h | h | h | h <;> rw [h] <;> rfl
end Go.Proofs.YtceboblhpglofaaDoor
