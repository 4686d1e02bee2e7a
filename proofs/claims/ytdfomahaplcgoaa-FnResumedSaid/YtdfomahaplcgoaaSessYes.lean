/- The sessions' contracts where the call succeeds. -/
import Derived.Test.YtdfomahaplcgoaaRunI
namespace Go.Proofs.Ytdfomahaplcgoaa
open Go.RowKit

theorem iNew_ok (k : Int) (w : World) (hs : isWordB k = true) :
    Calls Try.prog 13 #[.int .i64 k] w fun e w' => e = .returned (.tuple #[.agg #[.int .i64 k, .int .i64 0, .int .i64 0], .bool true]) ∧ Below w.heap.size w w' := by
  have h := iSessionNew k w
  rw [hs] at h
  exact h
theorem iOk_yes (k s g : Int) (w : World) (hs : sessOkB k s g = true) :
    Calls Try.prog 16 #[.agg #[.int .i64 k, .int .i64 s, .int .i64 g]] w fun e w' => e = .returned (.bool true) ∧ Below w.heap.size w w' := by
  have h := iSessionOk k s g w
  rw [hs] at h
  exact h
theorem iResume_ok (k s g n : Int) (w : World) (hs : resumeB k s g n = true) :
    Calls Try.prog 17 #[.agg #[.int .i64 k, .int .i64 s, .int .i64 g], .int .i64 n] w fun e w' => e = .returned (.tuple #[.agg #[.int .i64 k, .int .i64 n, .int .i64 g], .bool true]) ∧ Below w.heap.size w w' := by
  have h := iResume k s g n w
  rw [hs] at h
  exact h
end Go.Proofs.Ytdfomahaplcgoaa
