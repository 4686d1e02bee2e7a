/- The laws' own functions on slices of numbers: the copy, the comparison of equal ones, the marks, the count. -/
import Derived.Test.YtihbaieiempjeaaWord
import Derived.Outline
import Derived.Laws.OwnMore
import Derived.Laws.MakeOwn
import Derived.OwnWalk
namespace Go.Proofs.Ytihbaieiempjeaa
open Go.RowKit

theorem infoInt : (Try.prog.info? 3).map (fun i => (i.zero, i.size, i.bytes)) = some (some (.int .i64 0), 1, 8) := by kernel_rfl

/-! plain: the list while it is copied, while it is marked -/
def copyTo (xs : List Int) (k : Nat) : List Value := ints (xs.take k) ++ List.replicate (xs.length - k) (.int .i64 0)
theorem copyTo_zero (xs : List Int) : copyTo xs 0 = List.replicate xs.length (.int .i64 0) := by simp [copyTo, ints]
theorem copyTo_all (xs : List Int) : copyTo xs xs.length = ints xs := by simp [copyTo]
theorem copyTo_set {xs : List Int} {k : Nat} {x : Int} (h : xs[k]? = some x) : (copyTo xs k).set k (.int .i64 x) = copyTo xs (k + 1) := by
  have hk : k < xs.length := (List.getElem?_eq_some_iff.1 h).1
  have e : xs.length - k = (xs.length - (k + 1)) + 1 := by omega
  unfold copyTo
  rw [take_snoc h, ints_snoc, e, List.replicate_succ, List.set_append_right _ _ (by simp [ints]; omega)]
  simp [ints, Nat.min_eq_left (Nat.le_of_lt hk)]
def markTo (k : Int) (vs : List Value) (j : Nat) : List Value := ints (marks k j) ++ vs.drop j
theorem markTo_zero (k : Int) (vs : List Value) : markTo k vs 0 = vs := by simp [markTo, ints, marks]
theorem markTo_all (k : Int) (vs : List Value) (n : Nat) (h : vs.length = n) : markTo k vs n = ints (marks k n) := by simp [markTo, ← h]
theorem markTo_set {k : Int} {vs : List Value} {j : Nat} (h : j < vs.length) : (markTo k vs j).set j (.int .i64 (k + j)) = markTo k vs (j + 1) := by
  unfold markTo
  have e : vs.drop j = vs[j] :: vs.drop (j + 1) := List.drop_eq_getElem_cons h
  rw [e, List.set_append_right _ _ (by rw [ints_length, marks_length]; omega), ints_length, marks_length, Nat.sub_self, List.set_cons_zero]
  show _ = ints (marks k j ++ [k + j]) ++ _
  rw [ints_snoc, List.append_assoc]
  rfl

/-- A call hands back these numbers in a row of its own, and leaves old memory alone. -/
def GivesInts (w : World) (xs : List Int) (e : Ending) (w' : World) : Prop :=
  ∃ A c, e = .returned (.slice A xs.length c) ∧ w'.ownsRow w.heap.size 3 1 (.slice A xs.length c) xs.length (ints xs) ∧ Below w.heap.size w w'
end Go.Proofs.Ytihbaieiempjeaa
