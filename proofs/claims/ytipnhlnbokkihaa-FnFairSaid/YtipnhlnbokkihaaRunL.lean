/- The run of a schedule, in the program and in the reference. -/
import Derived.Test.YtipnhlnbokkihaaRunSpec
import Derived.Test.YtipnhlnbokkihaaSchedLaw
namespace Go.Proofs.Ytipnhlnbokkihaa
theorem runM_le (n : Int) : runM n ≤ 400 := by
  unfold runM
  split
  · next h => have := inB_iff.1 h; omega
  · omega
theorem lenSchedRun (S : SV) (n : Int) : (runS (runM n) S).js.length ≤ S.js.length ∧ (runS (runM n) S).ts.length ≤ S.ts.length + 400 ∧ (runS (runM n) S).fs.length ≤ S.fs.length + 400 := by
  have h1 := lenRunS (runM n) S
  have h2 := runM_le n
  omega
end Go.Proofs.Ytipnhlnbokkihaa
