/- Pools, in the program and in the reference. -/
import Derived.Test.YtknkpajedbckmaaDoorWord
import Derived.Test.YtknkpajedbckmaaDoorSched
import Derived.Outline
import Derived.Test.YtknkpajedbckmaaDoorMem
import Derived.Deep.RegionHeld3
import Derived.Deep.DeepCutAuto
namespace Go.Proofs.YtknkpajedbckmaaDoor
open Go.RowKit

theorem iPoolOk (z n b : Int) (w : World) : Calls Tryd.prog 47 #[.agg #[.int .i64 z, .int .i64 n, .int .i64 b]] w fun e w' => e = .returned (.bool (poolOkB z n b)) ∧ Below w.heap.size w w' := by
  cases h1 : inB z 1 1000 <;> by_cases h2 : 0 ≤ n <;> by_cases h3 : n ≤ b
  all_goals
    have e : poolOkB z n b = (inB z 1 1000 && decide (0 ≤ n) && decide (n ≤ b) && decide (b ≤ z)) := by
      unfold poolOkB inB
      rw [Bool.eq_iff_iff]
      simp only [decide_eq_true_eq, Bool.and_eq_true]
      omega
    simp [h1, h2, h3] at e
    rw [e]
    clear e
    go_enter Tryd.func47, Tryd.ntmps47
    go_wp2_with (go_at_call 41; refine (iWithin _ _ _ _).mono ?_; rintro e w' ⟨rfl, rfl⟩)
    go_ret
    refine ⟨rfl, ?_⟩
    repeat (first | (with_reducible exact Below.refl _ _) | (with_reducible refine Below.trans ?_ (Below.mono (by assumption) (by first | omega | (simp; done) | (simp; omega) | (simp [*]; done)))) | (with_reducible refine Below.alloc ?_ (by first | omega | (simp; done) | (simp; omega) | (simp [*]; done)) _) | (with_reducible refine Below.setCell ?_ (by first | omega | (simp; done) | (simp; omega) | (simp [*]; done)) _) | (with_reducible refine Below.drew ?_) | (with_reducible refine below_drewN ?_))
theorem sPoolOk (z n b : Int) (w : World) : Calls Tryd.prog 43 #[.agg #[.int .i64 z, .int .i64 n, .int .i64 b]] w fun e w' => e = .returned (.bool (poolOkB z n b)) ∧ Below w.heap.size w w' := by
  cases h1 : inB z 1 1000; rotate_left
  cases h2 : inB b 0 z; rotate_left
  cases h3 : inB n 0 b
  all_goals
    have e : poolOkB z n b = (inB z 1 1000 && inB b 0 z && inB n 0 b) := by
      unfold poolOkB inB
      rw [Bool.eq_iff_iff]
      simp only [decide_eq_true_eq, Bool.and_eq_true]
      omega
    try rw [h1] at e
    try rw [h2] at e
    try rw [h3] at e
    simp at e
    rw [e]
    clear e
    go_enter Tryd.func43, Tryd.ntmps43
    go_wp2_with (go_at_call 39; refine (sWithin _ _ _ _).mono ?_; rintro e w' ⟨rfl, rfl⟩)
    go_ret
    refine ⟨rfl, ?_⟩
    repeat (first | (with_reducible exact Below.refl _ _) | (with_reducible refine Below.trans ?_ (Below.mono (by assumption) (by first | omega | (simp; done) | (simp; omega) | (simp [*]; done)))) | (with_reducible refine Below.alloc ?_ (by first | omega | (simp; done) | (simp; omega) | (simp [*]; done)) _) | (with_reducible refine Below.setCell ?_ (by first | omega | (simp; done) | (simp; omega) | (simp [*]; done)) _) | (with_reducible refine Below.drew ?_) | (with_reducible refine below_drewN ?_))
end Go.Proofs.YtknkpajedbckmaaDoor
