/- More on memory: rows of the call's own behind stores, allocations and draws; what a region's loads read. No program is named here. -/
import Derived.Test.YtdfomahaplcgoaaBase
namespace Go.Proofs.Ytdfomahaplcgoaa
open Go.RowKit

theorem own_set {w : World} {base e size n : Nat} {v : Value} {xs : List Value} (h : w.ownsRow base e size v n xs) (p : Addr) (u : Value) (hp : p.block < base) : (w.setCell p u).ownsRow base e size v n xs := by
  refine ⟨h.1, ?_⟩
  rcases h.2 with h2 | ⟨g, cap, cur, hv, hg, hh, r⟩
  · exact .inl h2
  · exact .inr ⟨g, cap, cur, hv, hg, (Below.heap_setCell w p u g (by omega)).trans hh, r⟩
theorem own_weak {w : World} {base base' e size n : Nat} {v : Value} {xs : List Value} (h : w.ownsRow base e size v n xs) (hle : base' ≤ base) : w.ownsRow base' e size v n xs := by
  refine ⟨h.1, ?_⟩
  rcases h.2 with h2 | ⟨g, cap, cur, hv, hg, r⟩
  · exact .inl h2
  · exact .inr ⟨g, cap, cur, hv, Nat.le_trans hle hg, r⟩
theorem cells_of_below {w w' : World} {A : Option Addr} {vs : List Value} (h : Cells w w.heap.size A vs) (hb : Below w.heap.size w w') : Cells w' w'.heap.size A vs := (h.below hb).more hb.size
theorem grown_alloc {w w' : World} {o : Obj} {row : Option Nat} (h : (w.alloc o).grownBy w' row) : w.grownBy w' row := by
  have hs : (w.alloc o).heap.size = w.heap.size + 1 := by simp
  exact ⟨h.os, h.tape, h.output, Nat.le_trans (by omega) h.size, fun i hi hne => (h.block i (by omega) hne).trans (Below.heap_alloc w o i hi)⟩
theorem grown_set {w w' : World} {p : Addr} {u : Value} {row : Option Nat} (h : w.grownBy w' row) (hp : w.heap.size ≤ p.block) : w.grownBy (w'.setCell p u) row := by
  refine ⟨h.os, h.tape, h.output, ?_, fun i hi hne => ?_⟩
  · simpa using h.size
  · exact (Below.heap_setCell w' p u i (by omega)).trans (h.block i hi hne)
theorem grown_trans {w w1 w2 : World} {row : Option Nat} (h1 : w.grownBy w1 row) (h2 : w1.grownBy w2 row) : w.grownBy w2 row :=
  ⟨h2.os.trans h1.os, h2.tape.trans h1.tape, h2.output.trans h1.output, Nat.le_trans h1.size h2.size, fun i hi hne => (h2.block i (Nat.lt_of_lt_of_le hi h1.size) hne).trans (h1.block i hi hne)⟩
theorem grown_below {w w1 w2 : World} {row : Option Nat} (h1 : w.grownBy w1 row) (h2 : Below w1.heap.size w1 w2) : w.grownBy w2 row :=
  ⟨h2.os.trans h1.os, h2.tape.trans h1.tape, h2.output.trans h1.output, Nat.le_trans h1.size h2.size, fun i hi hne => (h2.block i (Nat.lt_of_lt_of_le hi h1.size)).trans (h1.block i hi hne)⟩
theorem below_grown {w w1 w2 : World} {row : Option Nat} (h1 : Below w.heap.size w w1) (h2 : w1.grownBy w2 row) : w.grownBy w2 row :=
  ⟨h2.os.trans h1.os, h2.tape.trans h1.tape, h2.output.trans h1.output, Nat.le_trans h1.size h2.size, fun i hi hne => (h2.block i (Nat.lt_of_lt_of_le hi h1.size) hne).trans (h1.block i hi)⟩
/-! ### The world behind stores into blocks that are named -/
structure Touch (L : List Nat) (w w' : World) : Prop where
  os : w'.os = w.os
  tape : w'.tape = w.tape
  output : w'.output = w.output
  size : w.heap.size ≤ w'.heap.size
  block : ∀ i, i < w.heap.size → i ∉ L → w'.heap[i]? = w.heap[i]?
section
variable {L : List Nat} {w w' : World}
theorem Touch.refl (L : List Nat) (w : World) : Touch L w w := ⟨rfl, rfl, rfl, Nat.le_refl _, fun _ _ _ => rfl⟩
theorem Touch.drew (h : Touch L w w') : Touch L w w'.drew := ⟨h.os, h.tape, h.output, h.size, h.block⟩
theorem Touch.alloc (h : Touch L w w') (o : Obj) : Touch L w (w'.alloc o) :=
  ⟨h.os, h.tape, h.output, by have := h.size; simp; omega, fun i hi hn => (Below.heap_alloc w' o i (Nat.lt_of_lt_of_le hi h.size)).trans (h.block i hi hn)⟩
theorem Touch.set_ (h : Touch L w w') (p : Addr) (u : Value) (hp : p.block ∈ L) : Touch L w (w'.setCell p u) :=
  ⟨h.os, h.tape, h.output, by have := h.size; simpa using this, fun i hi hn => (Below.heap_setCell w' p u i (fun e => hn (e ▸ hp))).trans (h.block i hi hn)⟩
theorem Touch.set_new (h : Touch L w w') (p : Addr) (u : Value) (hp : w.heap.size ≤ p.block) : Touch L w (w'.setCell p u) :=
  ⟨h.os, h.tape, h.output, by have := h.size; simpa using this, fun i hi hn => (Below.heap_setCell w' p u i (by omega)).trans (h.block i hi hn)⟩
theorem Touch.below {w0 : World} (h : Touch L w w') (h0 : Below w0.heap.size w0 w) (hL : ∀ i ∈ L, w0.heap.size ≤ i) : Below w0.heap.size w0 w' :=
  ⟨h.os.trans h0.os, h.tape.trans h0.tape, h.output.trans h0.output, Nat.le_trans h0.size h.size, fun i hi => (h.block i (Nat.lt_of_lt_of_le hi h0.size) (fun hm => by have := hL i hm; omega)).trans (h0.block i hi)⟩
theorem Blk.touch {b : Nat} {t : TypeId} {cs : Array Value} (h : Touch L w w') (k : Blk w b t cs) (hb : b ∉ L) : Blk w' b t cs := (h.block b k.lt hb).trans k
theorem cells_touch {B : Nat} {A : Option Addr} {vs : List Value} (h : Touch L w w') (k : Cells w B A vs) (hB : B ≤ w.heap.size) (hL : ∀ i ∈ L, B ≤ i) : Cells w' B A vs := fun h0 => by
  obtain ⟨b, off, e, hb, hc⟩ := k h0
  exact ⟨b, off, e, hb, fun i v hv => (World.cell?_of_block (h.block b (by omega) (fun hm => by have := hL b hm; omega))).trans (hc i v hv)⟩
theorem own_touch {base e size n hi : Nat} {v : Value} {xs : List Value} (h : Touch L w w') (k : w.ownsRow base e size v n xs) (hhi : ∀ q, v.ownBlock = some q → q < hi) (hL : ∀ i ∈ L, i < base ∨ hi ≤ i) : w'.ownsRow base e size v n xs := by
  refine ⟨k.1, ?_⟩
  rcases k.2 with h2 | ⟨g, cap, cur, hv, hg, hh, r⟩
  · exact .inl h2
  · have hlt : g < w.heap.size := by
      rcases Nat.lt_or_ge g w.heap.size with h0 | h0
      · exact h0
      · rw [Array.getElem?_eq_none h0] at hh; cases hh
    have hq : g < hi := hhi g (by rw [hv]; rfl)
    exact .inr ⟨g, cap, cur, hv, hg, (h.block g hlt (fun hm => by have := hL g hm; omega)).trans hh, r⟩
end
section
variable {P : Program} {c : Code} {Q : Exit → Act → World → Prop} {a : Act} {w w0 : World} {L : List Nat} {b0 b1 b2 b3 b4 : Nat} {t0 t1 t2 t3 t4 : TypeId} {c0 c1 c2 c3 c4 : Array Value}
theorem wp_touch1 (h0 : Blk w b0 t0 c0) (hb : Touch L w0 w) (h : ∀ W, Blk W b0 t0 c0 → Touch L w0 W → Code.wp P c Q a W) : Code.wp P c Q a w := h w h0 hb
theorem wp_touch2 (h0 : Blk w b0 t0 c0) (h1 : Blk w b1 t1 c1) (hb : Touch L w0 w) (h : ∀ W, Blk W b0 t0 c0 → Blk W b1 t1 c1 → Touch L w0 W → Code.wp P c Q a W) : Code.wp P c Q a w := h w h0 h1 hb
theorem wp_touch3 (h0 : Blk w b0 t0 c0) (h1 : Blk w b1 t1 c1) (h2 : Blk w b2 t2 c2) (hb : Touch L w0 w)
    (h : ∀ W, Blk W b0 t0 c0 → Blk W b1 t1 c1 → Blk W b2 t2 c2 → Touch L w0 W → Code.wp P c Q a W) : Code.wp P c Q a w := h w h0 h1 h2 hb
theorem wp_touch4 (h0 : Blk w b0 t0 c0) (h1 : Blk w b1 t1 c1) (h2 : Blk w b2 t2 c2) (h3 : Blk w b3 t3 c3) (hb : Touch L w0 w)
    (h : ∀ W, Blk W b0 t0 c0 → Blk W b1 t1 c1 → Blk W b2 t2 c2 → Blk W b3 t3 c3 → Touch L w0 W → Code.wp P c Q a W) : Code.wp P c Q a w := h w h0 h1 h2 h3 hb
end
section
variable {P : Program} {f : FuncId} {args : Array Value} {Q : Ending → World → Prop} {w w0 : World} {L : List Nat} {b0 b1 b2 b3 : Nat} {t0 t1 t2 t3 : TypeId} {c0 c1 c2 c3 : Array Value}
theorem calls_touch1 (h0 : Blk w b0 t0 c0) (hb : Touch L w0 w) (h : ∀ W, Blk W b0 t0 c0 → Touch L w0 W → Calls P f args W Q) : Calls P f args w Q := h w h0 hb
theorem calls_touch2 (h0 : Blk w b0 t0 c0) (h1 : Blk w b1 t1 c1) (hb : Touch L w0 w) (h : ∀ W, Blk W b0 t0 c0 → Blk W b1 t1 c1 → Touch L w0 W → Calls P f args W Q) : Calls P f args w Q := h w h0 h1 hb
theorem calls_touch3 (h0 : Blk w b0 t0 c0) (h1 : Blk w b1 t1 c1) (h2 : Blk w b2 t2 c2) (hb : Touch L w0 w)
    (h : ∀ W, Blk W b0 t0 c0 → Blk W b1 t1 c1 → Blk W b2 t2 c2 → Touch L w0 W → Calls P f args W Q) : Calls P f args w Q := h w h0 h1 h2 hb
theorem calls_touch4 (h0 : Blk w b0 t0 c0) (h1 : Blk w b1 t1 c1) (h2 : Blk w b2 t2 c2) (h3 : Blk w b3 t3 c3) (hb : Touch L w0 w)
    (h : ∀ W, Blk W b0 t0 c0 → Blk W b1 t1 c1 → Blk W b2 t2 c2 → Blk W b3 t3 c3 → Touch L w0 W → Calls P f args W Q) : Calls P f args w Q := h w h0 h1 h2 h3 hb
end
end Go.Proofs.Ytdfomahaplcgoaa
