/- Fields and tapes, in the program and in the reference. -/
import Derived.Test.YtonanjcojfjbdaaWord
import Derived.Test.YtonanjcojfjbdaaPlain2
namespace Go.Proofs.Ytonanjcojfjbdaa
open Go.RowKit

theorem iTapeOk (s a : Int) (w : World) :
    Calls Try.prog 31 #[.agg #[.int .i64 s, .int .i64 a]] w fun e w' => e = .returned (.bool (tapeOkB s a)) ∧ Below w.heap.size w w' := by
  cases h1 : isWordB s; rotate_left
  cases h2 : inB a 0 1000000
  all_goals
    have hR : tapeOkB s a = (isWordB s && inB a 0 1000000) := rfl
    try rw [h1] at hR
    try rw [h2] at hR
    simp at hR
    rw [hR]
    clear hR
    go_enter Try.func31, Try.ntmps31
    go_wp2_with (first | (go_at_call 30; refine (iWithin _ _ _ _).mono ?_; rintro e w' ⟨rfl, rfl⟩) | (go_at_call 51; refine (iIsWord _ _).mono ?_; rintro e w' ⟨rfl, rfl⟩))
    go_ret
    refine ⟨rfl, ?_⟩
    repeat (first | (with_reducible exact Below.refl _ _) | (with_reducible refine Below.trans ?_ (Below.mono (by assumption) (by first | omega | (simp; done) | (simp; omega) | (simp [*]; done)))) | (with_reducible refine Below.alloc ?_ (by first | omega | (simp; done) | (simp; omega) | (simp [*]; done)) _) | (with_reducible refine Below.setCell ?_ (by first | omega | (simp; done) | (simp; omega) | (simp [*]; done)) _) | (with_reducible refine Below.drew ?_) | (with_reducible refine below_drewN ?_))
theorem sTapeOk (s a : Int) (w : World) :
    Calls Try.prog 47 #[.agg #[.int .i64 s, .int .i64 a]] w fun e w' => e = .returned (.bool (tapeOkB s a)) ∧ Below w.heap.size w w' := by
  cases h1 : isWordB s; rotate_left
  cases h2 : inB a 0 1000000
  all_goals
    have hR : tapeOkB s a = (isWordB s && inB a 0 1000000) := rfl
    try rw [h1] at hR
    try rw [h2] at hR
    simp at hR
    rw [hR]
    clear hR
    go_enter Try.func47, Try.ntmps47
    go_wp2_with (first | (go_at_call 19; refine (sWithin _ _ _ _).mono ?_; rintro e w' ⟨rfl, rfl⟩) | (go_at_call 60; refine (sIsWord _ _).mono ?_; rintro e w' ⟨rfl, rfl⟩))
    go_ret
    refine ⟨rfl, ?_⟩
    repeat (first | (with_reducible exact Below.refl _ _) | (with_reducible refine Below.trans ?_ (Below.mono (by assumption) (by first | omega | (simp; done) | (simp; omega) | (simp [*]; done)))) | (with_reducible refine Below.alloc ?_ (by first | omega | (simp; done) | (simp; omega) | (simp [*]; done)) _) | (with_reducible refine Below.setCell ?_ (by first | omega | (simp; done) | (simp; omega) | (simp [*]; done)) _) | (with_reducible refine Below.drew ?_) | (with_reducible refine below_drewN ?_))
end Go.Proofs.Ytonanjcojfjbdaa
