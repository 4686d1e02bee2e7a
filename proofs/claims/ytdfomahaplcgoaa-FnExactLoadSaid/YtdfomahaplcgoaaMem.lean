/- More on memory: rows of the call's own behind stores, allocations and draws; what a region's loads read. No program is named here. -/
import Derived.Test.YtdfomahaplcgoaaBase
namespace Go.Proofs.Ytdfomahaplcgoaa
open Go.RowKit

theorem own_set {w : World} {base e size n : Nat} {v : Value} {xs : List Value} (h : w.ownsRow base e size v n xs) (p : Addr) (u : Value) (hp : p.block < base) : (w.setCell p u).ownsRow base e size v n xs := by
  refine ⟨h.1, ?_⟩
  rcases h.2 with h2 | ⟨g, cap, cur, hv, hg, hh, r⟩
  · exact .inl h2
  · exact .inr ⟨g, cap, cur, hv, hg, (Below.heap_setCell w p u g (by omega)).trans hh, r⟩
theorem own_weak {w : World} {base base' e size n : Nat} {v : Value} {xs : List Value} (h : w.ownsRow base e size v n xs) (hle : base' ≤ base) : w.ownsRow base' e size v n xs := by
  refine ⟨h.1, ?_⟩
  rcases h.2 with h2 | ⟨g, cap, cur, hv, hg, r⟩
  · exact .inl h2
  · exact .inr ⟨g, cap, cur, hv, Nat.le_trans hle hg, r⟩
theorem cells_of_below {w w' : World} {A : Option Addr} {vs : List Value} (h : Cells w w.heap.size A vs) (hb : Below w.heap.size w w') : Cells w' w'.heap.size A vs := (h.below hb).more hb.size
theorem grown_alloc {w w' : World} {o : Obj} {row : Option Nat} (h : (w.alloc o).grownBy w' row) : w.grownBy w' row := by
  have hs : (w.alloc o).heap.size = w.heap.size + 1 := by simp
  exact ⟨h.os, h.tape, h.output, Nat.le_trans (by omega) h.size, fun i hi hne => (h.block i (by omega) hne).trans (Below.heap_alloc w o i hi)⟩
theorem grown_set {w w' : World} {p : Addr} {u : Value} {row : Option Nat} (h : w.grownBy w' row) (hp : w.heap.size ≤ p.block) : w.grownBy (w'.setCell p u) row := by
  refine ⟨h.os, h.tape, h.output, ?_, fun i hi hne => ?_⟩
  · simpa using h.size
  · exact (Below.heap_setCell w' p u i (by omega)).trans (h.block i hi hne)
theorem grown_trans {w w1 w2 : World} {row : Option Nat} (h1 : w.grownBy w1 row) (h2 : w1.grownBy w2 row) : w.grownBy w2 row :=
  ⟨h2.os.trans h1.os, h2.tape.trans h1.tape, h2.output.trans h1.output, Nat.le_trans h1.size h2.size, fun i hi hne => (h2.block i (Nat.lt_of_lt_of_le hi h1.size) hne).trans (h1.block i hi hne)⟩
theorem grown_below {w w1 w2 : World} {row : Option Nat} (h1 : w.grownBy w1 row) (h2 : Below w1.heap.size w1 w2) : w.grownBy w2 row :=
  ⟨h2.os.trans h1.os, h2.tape.trans h1.tape, h2.output.trans h1.output, Nat.le_trans h1.size h2.size, fun i hi hne => (h2.block i (Nat.lt_of_lt_of_le hi h1.size)).trans (h1.block i hi hne)⟩
theorem below_grown {w w1 w2 : World} {row : Option Nat} (h1 : Below w.heap.size w w1) (h2 : w1.grownBy w2 row) : w.grownBy w2 row :=
  ⟨h2.os.trans h1.os, h2.tape.trans h1.tape, h2.output.trans h1.output, Nat.le_trans h1.size h2.size, fun i hi hne => (h2.block i (Nat.lt_of_lt_of_le hi h1.size) hne).trans (h1.block i hi)⟩
end Go.Proofs.Ytdfomahaplcgoaa
