/- '==' and '!=' on two messages. -/
import Derived.Test.YtgkkljcboicipaaWord
import Derived.Laws.StructEq
namespace Go.Proofs.Ytgkkljcboicipaa
open Go.RowKit

theorem len3 {α : Type} (l : List α) (h : l.length = 3) : ∃ a b c, l = [a, b, c] := by
  match l, h with
  | [a, b, c], _ => exact ⟨a, b, c, rfl⟩
def eq3 (a b c d e f : Int) : Bool := a == d && (b == e && c == f)
theorem eq3_same (a b c : Int) : eq3 a b c a b c = true := by simp [eq3]
theorem eq3_yes {a b c d e f : Int} (h : eq3 a b c d e f = true) : a = d ∧ b = e ∧ c = f := by simpa [eq3] using h
theorem run_equalIn_msg (w : World) (a b c d e f : Int) :
    (Op.equalIn 10000 23 (.agg #[.int .i64 a, .int .i64 b, .int .i64 c]) (.agg #[.int .i64 d, .int .i64 e, .int .i64 f])).run Try.prog w = .ok (eq3 a b c d e f) w := by
  rw [run_equalIn_struct w 9999 _ _ _ (by kernel_rfl) (by kernel_rfl)]
  have hf : (Try.prog.fieldsOf 23).toList.map (fun f => (f.name, f.type, f.offset)) = [("From", 3, 0), ("Round", 3, 1), ("Value", 3, 2)] := by kernel_rfl
  generalize (Try.prog.fieldsOf 23).toList = L at hf ⊢
  have hlen : L.length = 3 := by simpa using congrArg List.length hf
  obtain ⟨f0, f1, f2, rfl⟩ := len3 _ hlen
  simp only [List.map_cons, List.map_nil, List.cons.injEq, Prod.mk.injEq, and_true] at hf
  obtain ⟨⟨n0, t0, o0⟩, ⟨n1, t1, o1⟩, n2, t2, o2⟩ := hf
  have q0 : f0.name ≠ "_" := by rw [n0]; decide
  have q1 : f1.name ≠ "_" := by rw [n1]; decide
  have q2 : f2.name ≠ "_" := by rw [n2]; decide
  clear n0 n1 n2 hlen
  simp only [Op.eqFields, t0, t1, t2, o0, o1, o2]
  cases h0 : a == d <;> cases h1 : b == e <;> cases h2 : c == f
  all_goals
    go_simp
    simp [eq3, *]
theorem run_eqGuard_msg (w : World) (x y : Operand) (xs ys : Array Value) : (eqGuard .neq 23 x y (.agg xs) (.agg ys)).run Try.prog w = .ok () w := run_eqGuard_agg w _ _ _ _ _ _ (by kernel_rfl)
end Go.Proofs.Ytgkkljcboicipaa
