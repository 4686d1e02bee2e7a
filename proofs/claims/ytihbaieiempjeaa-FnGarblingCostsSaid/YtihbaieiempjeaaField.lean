/- Fields and tapes, in the program and in the reference. -/
import Derived.Test.YtihbaieiempjeaaBy
import Derived.Test.YtihbaieiempjeaaWord
import Derived.Test.YtihbaieiempjeaaPlain2
namespace Go.Proofs.Ytihbaieiempjeaa
open Go.RowKit

theorem sTapeOk (s a : Int) (w : World) :
    Calls Try.prog 58 #[.agg #[.int .i64 s, .int .i64 a]] w fun e w' => e = .returned (.bool (tapeOkB s a)) ∧ Below w.heap.size w w' := by
  cases h1 : isWordB s; rotate_left
  cases h2 : inB a 0 1000000
  all_goals
    have hR : tapeOkB s a = (isWordB s && inB a 0 1000000) := rfl
    try rw [h1] at hR
    try rw [h2] at hR
    simp at hR
    rw [hR]
    clear hR
    go_enter Try.func58, Try.ntmps58
    go_wp2_with (first | (go_at_call 57; refine (sWithin _ _ _ _).mono ?_; rintro e w' ⟨rfl, rfl⟩) | (go_at_call 92; refine (sIsWord _ _).mono ?_; rintro e w' ⟨rfl, rfl⟩))
    go_ret
    refine ⟨rfl, ?_⟩
    exact belBy
end Go.Proofs.Ytihbaieiempjeaa
