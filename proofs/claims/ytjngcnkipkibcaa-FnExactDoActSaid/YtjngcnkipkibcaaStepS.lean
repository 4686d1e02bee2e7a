/- The step of the reference on a schedule of one's own. -/
import Derived.Test.YtjngcnkipkibcaaStepSA
import Derived.Test.YtjngcnkipkibcaaStepSB
import Derived.Test.YtjngcnkipkibcaaStepSC
import Derived.Test.YtjngcnkipkibcaaStepSD
import Derived.Test.YtjngcnkipkibcaaStepSF
namespace Go.Proofs.Ytjngcnkipkibcaa
open Go.RowKit

theorem sStep (S : SV) (hS : schedOk S) (hj0 : 0 < S.js.length) (ht0 : S.ts.length < 1000) (hf0 : S.fs.length ≤ 100000000) (J T F : Option Addr) (cj tcp cf o : Nat) (w wr : World) (hb : Below w.heap.size w wr) (ho : w.heap.size ≤ o)
    (kb : Blk wr o 36 #[.int .i64 S.z, .int .i64 S.n, .int .i64 S.b, .slice J S.js.length cj, .slice T S.ts.length tcp, .slice F S.fs.length cf])
    (h1 : wr.ownsRow w.heap.size 79 4 (.slice J S.js.length cj) S.js.length (ints (flatJ S.js))) (h2 : wr.ownsRow w.heap.size 84 2 (.slice T S.ts.length tcp) S.ts.length (ints (flatT S.ts)))
    (h3 : wr.ownsRow w.heap.size 3 1 (.slice F S.fs.length cf) S.fs.length (ints S.fs)) :
    Calls Try.prog 59 #[.pointer (some ⟨o, 0, none⟩)] wr fun e w' => e = .returned (.int .i64 (job S).i) ∧ ∃ J' cj' T' tcp' F' cf',
      Blk w' o 36 #[.int .i64 (stepS S).z, .int .i64 (stepS S).n, .int .i64 (stepS S).b, .slice J' (stepS S).js.length cj', .slice T' (stepS S).ts.length tcp', .slice F' (stepS S).fs.length cf'] ∧
      w'.ownsRow w.heap.size 79 4 (.slice J' ((stepS S).js).length cj') ((stepS S).js).length (ints (flatJ ((stepS S).js))) ∧ w'.ownsRow w.heap.size 84 2 (.slice T' ((stepS S).ts).length tcp') ((stepS S).ts).length (ints (flatT ((stepS S).ts))) ∧ w'.ownsRow w.heap.size 3 1 (.slice F' ((stepS S).fs).length cf') ((stepS S).fs).length (ints ((stepS S).fs)) ∧ Below w.heap.size w w' := by
  cases hf : failsB S
  · by_cases hs : 0 < S.n + (job S).n - S.b <;> by_cases hl : (job S).l = 1
    · exact sStepSA S ⟨hf, hs, hl⟩ hS hj0 ht0 hf0 J T F cj tcp cf o w wr hb ho kb h1 h2 h3
    · exact sStepSB S ⟨hf, hs, hl⟩ hS hj0 ht0 hf0 J T F cj tcp cf o w wr hb ho kb h1 h2 h3
    · exact sStepSC S ⟨hf, hs, hl⟩ hS hj0 ht0 hf0 J T F cj tcp cf o w wr hb ho kb h1 h2 h3
    · exact sStepSD S ⟨hf, hs, hl⟩ hS hj0 ht0 hf0 J T F cj tcp cf o w wr hb ho kb h1 h2 h3
  · exact sStepSF S hf hS hj0 ht0 hf0 J T F cj tcp cf o w wr hb ho kb h1 h2 h3
end Go.Proofs.Ytjngcnkipkibcaa
