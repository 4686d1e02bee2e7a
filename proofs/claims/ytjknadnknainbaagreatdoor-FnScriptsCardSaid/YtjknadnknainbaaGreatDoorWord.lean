/- The walks of the small functions on words, in the program and in the reference. -/
import Derived.Test.YtjknadnknainbaaGreatDoorRows
import Derived.Test.YtjknadnknainbaaGreatDoorBase
import Derived.Test.YtjknadnknainbaaGreatDoorPlain
import Derived.WalkSpells
import Derived.WalkLawsBesides
namespace Go.Proofs.YtjknadnknainbaaGreatDoor
open Go.RowKit

theorem iWithin (n lo hi : Int) (w : World) :
    Calls Tryz.prog 65 #[.int .i64 n, .int .i64 lo, .int .i64 hi] w fun e w' => e = .returned (.bool (inB n lo hi)) ∧ w = w' := by
  by_cases h1 : lo ≤ n <;> by_cases h2 : n ≤ hi
  all_goals
    go_enter Tryz.func65, Tryz.ntmps65
    go_wp2
    go_ret
    exact ⟨by simp [inB, h1, h2], rfl⟩
theorem sWithin (n lo hi : Int) (w : World) :
    Calls Tryz.prog 38 #[.int .i64 n, .int .i64 lo, .int .i64 hi] w fun e w' => e = .returned (.bool (inB n lo hi)) ∧ w = w' := by
  by_cases h1 : lo ≤ n <;> by_cases h2 : n ≤ hi
  all_goals
    go_enter Tryz.func38, Tryz.ntmps38
    go_wp2
    go_ret
    exact ⟨by simp [inB, h1, h2], rfl⟩
end Go.Proofs.YtjknadnknainbaaGreatDoor
