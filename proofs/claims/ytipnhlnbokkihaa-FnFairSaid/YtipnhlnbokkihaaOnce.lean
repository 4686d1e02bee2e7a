/- A drawn choice; what a cursor leaves in place. -/
import Derived.Test.YtipnhlnbokkihaaDrawB
import Derived.Test.YtipnhlnbokkihaaDrop2
namespace Go.Proofs.Ytipnhlnbokkihaa
open Go.RowKit

theorem Touch.trans_new {L M : List Nat} {w w1 w2 : World} (h1 : Touch L w w1) (h2 : Touch M w1 w2) (hM : ∀ i ∈ M, w.heap.size ≤ i) : Touch L w w2 :=
  ⟨h2.os.trans h1.os, h2.tape.trans h1.tape, h2.output.trans h1.output, Nat.le_trans h1.size h2.size, fun i hi hn => (h2.block i (Nat.lt_of_lt_of_le hi h1.size) (fun hm => by have := hM i hm; omega)).trans (h1.block i hi hn)⟩
theorem below0_touch {L : List Nat} {w0 w w' : World} (h : Touch L w w') (h0 : Below 0 w0 w) : Below 0 w0 w' :=
  ⟨h.os.trans h0.os, h.tape.trans h0.tape, h.output.trans h0.output, Nat.le_trans h0.size h.size, fun i hi => absurd hi (Nat.not_lt_zero i)⟩
set_option maxRecDepth 100000 in
theorem once_any (n : Int) (p : Nat) (A : Option Addr) (c : Nat) (bs : List Int) (w : World) (hn : 1 ≤ n) (hn2 : n ≤ 1000000000000) (hc : Cur w p A bs.length c) (hb : Bytes w p A bs) :
    Calls Try.prog 75 #[.pointer (some ⟨p, 0, none⟩), .int .i64 n] w fun e w' => ∃ b, e = .returned (.bool b) ∧ Cur w' p A bs.length c ∧ Touch [p] w w' := by
  go_enter Try.func75, Try.ntmps75
  go_wp2_with fail
  refine (below_any _ _ _ _ _ _ hn hn2 hc hb).mono ?_
  rintro e w1 ⟨r, rfl, hr0, hr1, hc1, hT1⟩
  go_wp2
  go_ret
  exact ⟨_, rfl, hc1, hT1⟩
end Go.Proofs.Ytipnhlnbokkihaa
