/- The step of a schedule, in the program. -/
import Derived.Test.YtcdodfekclkonaaDoorStepIF
import Derived.Test.YtcdodfekclkonaaDoorStepIN
import Derived.Test.YtcdodfekclkonaaDoorStepIA
import Derived.Test.YtcdodfekclkonaaDoorStepIB
import Derived.Test.YtcdodfekclkonaaDoorStepIC
import Derived.Test.YtcdodfekclkonaaDoorStepID
namespace Go.Proofs.YtcdodfekclkonaaDoor
open Go.RowKit

theorem iSchedStepL (S : SV) (J T F : Option Addr) (cj tcp cf : Nat) (w : World) (h : w.ownsRow 0 61 4 (.slice J S.js.length cj) S.js.length (ints (flatJ S.js)) ∧ w.ownsRow 0 69 2 (.slice T S.ts.length tcp) S.ts.length (ints (flatT S.ts)) ∧ w.ownsRow 0 3 1 (.slice F S.fs.length cf) S.fs.length (ints S.fs)) (b1 : S.js.length ≤ 100000000) (b2 : S.ts.length ≤ 100000000) (b3 : S.fs.length ≤ 100000000) :
    Calls Tryd.prog 34 #[.agg #[.int .i64 S.z, .int .i64 S.n, .int .i64 S.b, .slice J S.js.length cj, .slice T S.ts.length tcp, .slice F S.fs.length cf]] w fun e w' => ∃ J' cj' T' tcp' F' cf', e = .returned (.tuple #[.agg #[.int .i64 ((stepR S).z), .int .i64 ((stepR S).n), .int .i64 ((stepR S).b), .slice J' ((stepR S).js.length) cj', .slice T' ((stepR S).ts.length) tcp', .slice F' ((stepR S).fs.length) cf'], .int .i64 (stepI S), .bool (stepB S)]) ∧
      w'.ownsRow w.heap.size 61 4 (.slice J' ((stepR S).js).length cj') ((stepR S).js).length (ints (flatJ ((stepR S).js))) ∧ w'.ownsRow w.heap.size 69 2 (.slice T' ((stepR S).ts).length tcp') ((stepR S).ts).length (ints (flatT ((stepR S).ts))) ∧ w'.ownsRow w.heap.size 3 1 (.slice F' ((stepR S).fs).length cf') ((stepR S).fs).length (ints ((stepR S).fs)) ∧ Below w.heap.size w w' := by
  cases hy : stepB S
  · rw [stepR_no hy, stepI_no hy]
    exact iStepNo S hy J T F cj tcp cf w h b1 b2 b3
  · rw [stepR_yes hy, stepI_yes hy]
    cases hf : failsB S
    · by_cases hs : 0 < S.n + (job S).n - S.b <;> by_cases hl : (job S).l = 1
      · exact iStepIA S hy ⟨hf, hs, hl⟩ J T F cj tcp cf w h b3
      · exact iStepIB S hy ⟨hf, hs, hl⟩ J T F cj tcp cf w h b3
      · exact iStepIC S hy ⟨hf, hs, hl⟩ J T F cj tcp cf w h b3
      · exact iStepID S hy ⟨hf, hs, hl⟩ J T F cj tcp cf w h b3
    · exact iStepIF S hy hf J T F cj tcp cf w h b3
end Go.Proofs.YtcdodfekclkonaaDoor
