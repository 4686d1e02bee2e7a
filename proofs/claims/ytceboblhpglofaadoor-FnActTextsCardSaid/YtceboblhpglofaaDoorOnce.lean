/- A drawn choice; what a cursor leaves in place. -/
import Derived.Test.YtceboblhpglofaaDoorDrawB
import Derived.Test.YtceboblhpglofaaDoorGrow4
namespace Go.Proofs.YtceboblhpglofaaDoor
open Go.RowKit

theorem Touch.trans_new {L M : List Nat} {w w1 w2 : World} (h1 : Touch L w w1) (h2 : Touch M w1 w2) (hM : ∀ i ∈ M, w.heap.size ≤ i) : Touch L w w2 :=
  ⟨h2.os.trans h1.os, h2.tape.trans h1.tape, h2.output.trans h1.output, Nat.le_trans h1.size h2.size, fun i hi hn => (h2.block i (Nat.lt_of_lt_of_le hi h1.size) (fun hm => by have := hM i hm; omega)).trans (h1.block i hi hn)⟩
theorem below0_touch {L : List Nat} {w0 w w' : World} (h : Touch L w w') (h0 : Below 0 w0 w) : Below 0 w0 w' :=
  ⟨h.os.trans h0.os, h.tape.trans h0.tape, h.output.trans h0.output, Nat.le_trans h0.size h.size, fun i hi => absurd hi (Nat.not_lt_zero i)⟩
end Go.Proofs.YtceboblhpglofaaDoor
