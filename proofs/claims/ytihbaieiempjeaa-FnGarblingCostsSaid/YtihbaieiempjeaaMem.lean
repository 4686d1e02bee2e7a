/- More on memory: rows of the call's own behind stores, allocations and draws; what a region's loads read. No program is named here. -/
import Derived.Test.YtihbaieiempjeaaBase
import Derived.Maps.AppendAt
namespace Go.Proofs.Ytihbaieiempjeaa
open Go.RowKit

theorem own_set {w : World} {base e size n : Nat} {v : Value} {xs : List Value} (h : w.ownsRow base e size v n xs) (p : Addr) (u : Value) (hp : p.block < base) : (w.setCell p u).ownsRow base e size v n xs := by
  refine ⟨h.1, ?_⟩
  rcases h.2 with h2 | ⟨g, cap, cur, hv, hg, hh, r⟩
  · exact .inl h2
  · exact .inr ⟨g, cap, cur, hv, hg, (Below.heap_setCell w p u g (by omega)).trans hh, r⟩
theorem own_weak {w : World} {base base' e size n : Nat} {v : Value} {xs : List Value} (h : w.ownsRow base e size v n xs) (hle : base' ≤ base) : w.ownsRow base' e size v n xs := by
  refine ⟨h.1, ?_⟩
  rcases h.2 with h2 | ⟨g, cap, cur, hv, hg, r⟩
  · exact .inl h2
  · exact .inr ⟨g, cap, cur, hv, Nat.le_trans hle hg, r⟩
theorem cells_of_below {w w' : World} {A : Option Addr} {vs : List Value} (h : Cells w w.heap.size A vs) (hb : Below w.heap.size w w') : Cells w' w'.heap.size A vs := (h.below hb).more hb.size
theorem grown_alloc {w w' : World} {o : Obj} {row : Option Nat} (h : (w.alloc o).grownBy w' row) : w.grownBy w' row := by
  have hs : (w.alloc o).heap.size = w.heap.size + 1 := by simp
  exact ⟨h.os, h.tape, h.output, Nat.le_trans (by omega) h.size, fun i hi hne => (h.block i (by omega) hne).trans (Below.heap_alloc w o i hi)⟩
theorem grown_set {w w' : World} {p : Addr} {u : Value} {row : Option Nat} (h : w.grownBy w' row) (hp : w.heap.size ≤ p.block) : w.grownBy (w'.setCell p u) row := by
  refine ⟨h.os, h.tape, h.output, ?_, fun i hi hne => ?_⟩
  · simpa using h.size
  · exact (Below.heap_setCell w' p u i (by omega)).trans (h.block i hi hne)
theorem grown_trans {w w1 w2 : World} {row : Option Nat} (h1 : w.grownBy w1 row) (h2 : w1.grownBy w2 row) : w.grownBy w2 row :=
  ⟨h2.os.trans h1.os, h2.tape.trans h1.tape, h2.output.trans h1.output, Nat.le_trans h1.size h2.size, fun i hi hne => (h2.block i (Nat.lt_of_lt_of_le hi h1.size) hne).trans (h1.block i hi hne)⟩
theorem grown_below {w w1 w2 : World} {row : Option Nat} (h1 : w.grownBy w1 row) (h2 : Below w1.heap.size w1 w2) : w.grownBy w2 row :=
  ⟨h2.os.trans h1.os, h2.tape.trans h1.tape, h2.output.trans h1.output, Nat.le_trans h1.size h2.size, fun i hi hne => (h2.block i (Nat.lt_of_lt_of_le hi h1.size)).trans (h1.block i hi hne)⟩
theorem below_grown {w w1 w2 : World} {row : Option Nat} (h1 : Below w.heap.size w w1) (h2 : w1.grownBy w2 row) : w.grownBy w2 row :=
  ⟨h2.os.trans h1.os, h2.tape.trans h1.tape, h2.output.trans h1.output, Nat.le_trans h1.size h2.size, fun i hi hne => (h2.block i (Nat.lt_of_lt_of_le hi h1.size) hne).trans (h1.block i hi)⟩
/-! ### The world behind stores into blocks that are named -/
structure Touch (L : List Nat) (w w' : World) : Prop where
  os : w'.os = w.os
  tape : w'.tape = w.tape
  output : w'.output = w.output
  size : w.heap.size ≤ w'.heap.size
  block : ∀ i, i < w.heap.size → i ∉ L → w'.heap[i]? = w.heap[i]?
section
variable {L : List Nat} {w w' : World}
theorem Touch.refl (L : List Nat) (w : World) : Touch L w w := ⟨rfl, rfl, rfl, Nat.le_refl _, fun _ _ _ => rfl⟩
theorem Touch.drew (h : Touch L w w') : Touch L w w'.drew := ⟨h.os, h.tape, h.output, h.size, h.block⟩
theorem Touch.alloc (h : Touch L w w') (o : Obj) : Touch L w (w'.alloc o) :=
  ⟨h.os, h.tape, h.output, by have := h.size; simp; omega, fun i hi hn => (Below.heap_alloc w' o i (Nat.lt_of_lt_of_le hi h.size)).trans (h.block i hi hn)⟩
theorem Touch.set_ (h : Touch L w w') (p : Addr) (u : Value) (hp : p.block ∈ L) : Touch L w (w'.setCell p u) :=
  ⟨h.os, h.tape, h.output, by have := h.size; simpa using this, fun i hi hn => (Below.heap_setCell w' p u i (fun e => hn (e ▸ hp))).trans (h.block i hi hn)⟩
theorem Touch.set_new (h : Touch L w w') (p : Addr) (u : Value) (hp : w.heap.size ≤ p.block) : Touch L w (w'.setCell p u) :=
  ⟨h.os, h.tape, h.output, by have := h.size; simpa using this, fun i hi hn => (Below.heap_setCell w' p u i (by omega)).trans (h.block i hi hn)⟩
theorem Touch.below {w0 : World} (h : Touch L w w') (h0 : Below w0.heap.size w0 w) (hL : ∀ i ∈ L, w0.heap.size ≤ i) : Below w0.heap.size w0 w' :=
  ⟨h.os.trans h0.os, h.tape.trans h0.tape, h.output.trans h0.output, Nat.le_trans h0.size h.size, fun i hi => (h.block i (Nat.lt_of_lt_of_le hi h0.size) (fun hm => by have := hL i hm; omega)).trans (h0.block i hi)⟩
theorem Blk.touch {b : Nat} {t : TypeId} {cs : Array Value} (h : Touch L w w') (k : Blk w b t cs) (hb : b ∉ L) : Blk w' b t cs := (h.block b k.lt hb).trans k
theorem cells_touch {B : Nat} {A : Option Addr} {vs : List Value} (h : Touch L w w') (k : Cells w B A vs) (hB : B ≤ w.heap.size) (hL : ∀ i ∈ L, B ≤ i) : Cells w' B A vs := fun h0 => by
  obtain ⟨b, off, e, hb, hc⟩ := k h0
  exact ⟨b, off, e, hb, fun i v hv => (World.cell?_of_block (h.block b (by omega) (fun hm => by have := hL b hm; omega))).trans (hc i v hv)⟩
theorem own_touch {base e size n hi : Nat} {v : Value} {xs : List Value} (h : Touch L w w') (k : w.ownsRow base e size v n xs) (hhi : ∀ q, v.ownBlock = some q → q < hi) (hL : ∀ i ∈ L, i < base ∨ hi ≤ i) : w'.ownsRow base e size v n xs := by
  refine ⟨k.1, ?_⟩
  rcases k.2 with h2 | ⟨g, cap, cur, hv, hg, hh, r⟩
  · exact .inl h2
  · have hlt : g < w.heap.size := by
      rcases Nat.lt_or_ge g w.heap.size with h0 | h0
      · exact h0
      · rw [Array.getElem?_eq_none h0] at hh; cases hh
    have hq : g < hi := hhi g (by rw [hv]; rfl)
    exact .inr ⟨g, cap, cur, hv, hg, (h.block g hlt (fun hm => by have := hL g hm; omega)).trans hh, r⟩
end
section
variable {P : Program} {c : Code} {Q : Exit → Act → World → Prop} {a : Act} {w w0 : World} {L : List Nat} {b0 b1 b2 b3 b4 : Nat} {t0 t1 t2 t3 t4 : TypeId} {c0 c1 c2 c3 c4 : Array Value}
theorem wp_touch1 (h0 : Blk w b0 t0 c0) (hb : Touch L w0 w) (h : ∀ W, Blk W b0 t0 c0 → Touch L w0 W → Code.wp P c Q a W) : Code.wp P c Q a w := h w h0 hb
theorem wp_touch2 (h0 : Blk w b0 t0 c0) (h1 : Blk w b1 t1 c1) (hb : Touch L w0 w) (h : ∀ W, Blk W b0 t0 c0 → Blk W b1 t1 c1 → Touch L w0 W → Code.wp P c Q a W) : Code.wp P c Q a w := h w h0 h1 hb
theorem wp_touch3 (h0 : Blk w b0 t0 c0) (h1 : Blk w b1 t1 c1) (h2 : Blk w b2 t2 c2) (hb : Touch L w0 w)
    (h : ∀ W, Blk W b0 t0 c0 → Blk W b1 t1 c1 → Blk W b2 t2 c2 → Touch L w0 W → Code.wp P c Q a W) : Code.wp P c Q a w := h w h0 h1 h2 hb
theorem wp_touch4 (h0 : Blk w b0 t0 c0) (h1 : Blk w b1 t1 c1) (h2 : Blk w b2 t2 c2) (h3 : Blk w b3 t3 c3) (hb : Touch L w0 w)
    (h : ∀ W, Blk W b0 t0 c0 → Blk W b1 t1 c1 → Blk W b2 t2 c2 → Blk W b3 t3 c3 → Touch L w0 W → Code.wp P c Q a W) : Code.wp P c Q a w := h w h0 h1 h2 h3 hb
end
section
variable {P : Program} {f : FuncId} {args : Array Value} {Q : Ending → World → Prop} {w w0 : World} {L : List Nat} {b0 b1 b2 b3 : Nat} {t0 t1 t2 t3 : TypeId} {c0 c1 c2 c3 : Array Value}
theorem calls_touch1 (h0 : Blk w b0 t0 c0) (hb : Touch L w0 w) (h : ∀ W, Blk W b0 t0 c0 → Touch L w0 W → Calls P f args W Q) : Calls P f args w Q := h w h0 hb
theorem calls_touch2 (h0 : Blk w b0 t0 c0) (h1 : Blk w b1 t1 c1) (hb : Touch L w0 w) (h : ∀ W, Blk W b0 t0 c0 → Blk W b1 t1 c1 → Touch L w0 W → Calls P f args W Q) : Calls P f args w Q := h w h0 h1 hb
theorem calls_touch3 (h0 : Blk w b0 t0 c0) (h1 : Blk w b1 t1 c1) (h2 : Blk w b2 t2 c2) (hb : Touch L w0 w)
    (h : ∀ W, Blk W b0 t0 c0 → Blk W b1 t1 c1 → Blk W b2 t2 c2 → Touch L w0 W → Calls P f args W Q) : Calls P f args w Q := h w h0 h1 h2 hb
theorem calls_touch4 (h0 : Blk w b0 t0 c0) (h1 : Blk w b1 t1 c1) (h2 : Blk w b2 t2 c2) (h3 : Blk w b3 t3 c3) (hb : Touch L w0 w)
    (h : ∀ W, Blk W b0 t0 c0 → Blk W b1 t1 c1 → Blk W b2 t2 c2 → Blk W b3 t3 c3 → Touch L w0 W → Calls P f args W Q) : Calls P f args w Q := h w h0 h1 h2 h3 hb
end
/-! ### A row that grew by append: what stands apart from it -/
theorem own_lo {w : World} {base e size n : Nat} {v : Value} {xs : List Value} (h : w.ownsRow base e size v n xs) : ∀ q, v.ownBlock = some q → base ≤ q := fun q hq => (h.lt q hq).1
theorem grown_own {w w' : World} {lo lo' hi hi' e size n : Nat} {v : Value} {xs : List Value} {row : Option Nat} (h : w.ownsRow lo e size v n xs) (hv : ∀ q, v.ownBlock = some q → q < hi)
    (hl : ∀ q, row = some q → lo' ≤ q) (hh : ∀ q, row = some q → q < hi') (hg : w.grownBy w' row) (hd : hi ≤ lo' ∨ hi' ≤ lo) : w'.ownsRow lo e size v n xs := by
  refine h.kept hg ?_
  cases hq : v.ownBlock with
  | none => exact .inl rfl
  | some q =>
    refine .inr fun he => ?_
    have a1 := hv q hq
    have a2 := (h.lt q hq).1
    have a3 := hl q he.symm
    have a4 := hh q he.symm
    omega
theorem grown_cells {w w' : World} {B lo' : Nat} {A : Option Addr} {vs : List Value} {row : Option Nat} (h : Cells w B A vs) (hl : ∀ q, row = some q → lo' ≤ q) (hg : w.grownBy w' row) (hB : B ≤ w.heap.size) (hd : B ≤ lo') : Cells w' B A vs :=
  h.grown hg hB fun g he => by
    have := hl g he
    omega
theorem grown_blk {w w' : World} {b t lo' hi' : Nat} {cs : Array Value} {row : Option Nat} (h : Blk w b t cs) (hl : ∀ q, row = some q → lo' ≤ q) (hh : ∀ q, row = some q → q < hi') (hg : w.grownBy w' row) (hd : b < lo' ∨ hi' ≤ b) : Blk w' b t cs :=
  h.grown hg fun he => by
    have a1 := hl b he.symm
    have a2 := hh b he.symm
    omega
theorem grown_of {w0 w w' : World} {b lo' : Nat} {row : Option Nat} (hb : Below b w0 w) (hl : ∀ q, row = some q → lo' ≤ q) (hg : w.grownBy w' row) (h1 : b ≤ w.heap.size) (h2 : b ≤ lo') : Below b w0 w' :=
  hb.grown hg h1 fun k hk => by
    have := hl k hk
    omega
theorem cell_kept {w w' : World} {p : Addr} {v : Value} (h : w.cell? p = some v) (hb : Below w.heap.size w w') (hp : p.block < w.heap.size) : w'.cell? p = some v := (hb.cell hp).trans h
theorem Blk.drewN {w : World} {b : Nat} {t : TypeId} {cs : Array Value} {n : Nat} (h : Blk w b t cs) : Blk (w.drewN n) b t cs := h
theorem Touch.drewN {L : List Nat} {w w' : World} {n : Nat} (h : Touch L w w') : Touch L w (w'.drewN n) := ⟨h.os, h.tape, h.output, h.size, h.block⟩
theorem Touch.trans {L : List Nat} {w w1 w2 : World} (h1 : Touch L w w1) (h2 : Touch L w1 w2) : Touch L w w2 :=
  ⟨h2.os.trans h1.os, h2.tape.trans h1.tape, h2.output.trans h1.output, Nat.le_trans h1.size h2.size, fun i hi hn => (h2.block i (Nat.lt_of_lt_of_le hi h1.size) hn).trans (h1.block i hi hn)⟩
theorem Touch.cell {L : List Nat} {w w' : World} (h : Touch L w w') {p : Addr} {v : Value} (hc : w.cell? p = some v) (hp : p.block < w.heap.size) (hn : p.block ∉ L) : w'.cell? p = some v := (World.cell?_of_block (h.block _ hp hn)).trans hc
theorem own_in {w : World} {base e size n : Nat} {v : Value} {xs : List Value} (h : w.ownsRow base e size v n xs) : ∀ q, v.ownBlock = some q → base ≤ q ∧ q < w.heap.size := fun q hq => h.lt q hq
section
variable {w w' : World} {row : Option Nat}
theorem gr_blk {b t : Nat} {cs : Array Value} (hg : w.grownBy w' row) (k : Blk w b t cs) (hne : ∀ q, row = some q → q ≠ b) : Blk w' b t cs := k.grown hg fun he => hne b he.symm rfl
theorem gr_own {lo e size n : Nat} {v : Value} {xs : List Value} (hg : w.grownBy w' row) (k : w.ownsRow lo e size v n xs) (hne : ∀ q p, row = some q → v.ownBlock = some p → q ≠ p) : w'.ownsRow lo e size v n xs := by
  refine k.kept hg ?_
  cases hq : v.ownBlock with
  | none => exact .inl rfl
  | some q => exact .inr fun he => hne q q he.symm hq rfl
theorem gr_cells {B : Nat} {A : Option Addr} {vs : List Value} (hg : w.grownBy w' row) (k : Cells w B A vs) (hB : B ≤ w.heap.size) (hlo : ∀ q, row = some q → B ≤ q) : Cells w' B A vs := k.grown hg hB fun g he => hlo g he
theorem gr_below {w0 : World} {b : Nat} (hg : w.grownBy w' row) (hb : Below b w0 w) (h1 : b ≤ w.heap.size) (hlo : ∀ q, row = some q → b ≤ q) : Below b w0 w' := hb.grown hg h1 fun k hk => hlo k hk
theorem gr_cell {p : Addr} {v : Value} (hg : w.grownBy w' row) (h : w.cell? p = some v) (hp : p.block < w.heap.size) (hne : ∀ q, row = some q → q ≠ p.block) : w'.cell? p = some v :=
  (World.cell?_of_block (hg.block _ hp fun he => hne _ he.symm rfl)).trans h
theorem own_touch' {L : List Nat} {base e size n : Nat} {v : Value} {xs : List Value} (h : Touch L w w') (k : w.ownsRow base e size v n xs) (hL : ∀ q, v.ownBlock = some q → q ∉ L) : w'.ownsRow base e size v n xs := by
  refine ⟨k.1, ?_⟩
  rcases k.2 with h2 | ⟨g, cap, cur, hv, hg, hh, r⟩
  · exact .inl h2
  · have hlt : g < w.heap.size := by
      rcases Nat.lt_or_ge g w.heap.size with h0 | h0
      · exact h0
      · rw [Array.getElem?_eq_none h0] at hh; cases hh
    exact .inr ⟨g, cap, cur, hv, hg, (h.block g hlt (hL g (by rw [hv]; rfl))).trans hh, r⟩
end
theorem use_top2d {G : Prop} {X w1 : World} {c0 c1 : Array Value} {t0 t1 : TypeId} (hb : Below ((X.alloc (.cells c0 t0)).alloc (.cells c1 t1)).drew.heap.size ((X.alloc (.cells c0 t0)).alloc (.cells c1 t1)).drew w1)
    (h : X.heap.size < w1.heap.size → (∀ o, w1.cell? ⟨X.heap.size, o, none⟩ = c0[o]?) → (∀ o, w1.frozen? ⟨X.heap.size, o, none⟩ = false) → Blk w1 X.heap.size t0 c0 →
      X.heap.size + 1 < w1.heap.size → (∀ o, w1.cell? ⟨X.heap.size + 1, o, none⟩ = c1[o]?) → (∀ o, w1.frozen? ⟨X.heap.size + 1, o, none⟩ = false) → Blk w1 (X.heap.size + 1) t1 c1 → G) : G :=
  have q := bfact hb (b := X.heap.size) (Blk.drew (Blk.alloc (Blk.new rfl) _))
  have q' := bfact hb (b := X.heap.size + 1) (Blk.drew (Blk.new (by simp)))
  h q.1 q.2.1 q.2.2.1 q.2.2.2 q'.1 q'.2.1 q'.2.2.1 q'.2.2.2
theorem wpList_appi {P : Program} {w : World} {ops : Array Oper} {rest : List Oper} {o : Oper} {a : Act} {Q : Exit → Act → World → Prop} (hgd : o.guard = none) (s x : Operand) (t : TypeId)
    (ho : o.op = .call { callee := .builtin .append, args := #[s, x], argTypes := #[t, t] })
    (base e : Nat) (z : Value) (size bytes : Nat) (ht : P.underlying t = some (.slice e)) (hinfo : (P.info? e).map (fun i => (i.zero, i.size, i.bytes)) = some (some z, size, bytes)) (hzs : z.cells.size = size) (hsz : 0 < size)
    (v : Value) (n : Nat) (xs : List Value) (hs : a.eval s = v) (hown : w.ownsRow base e size v n xs)
    (ad : Addr) (m c : Nat) (news : List Value) (hx : a.eval x = .slice (some ad) m c) (hl : news.length = m * size) (hnews : ∀ j u, news[j]? = some u → w.cell? (ad.add j) = some u) (h1 : ∀ u ∈ news, u.oneCell' = true)
    (hbound : n + m ≤ 1000000000) (hbytes : bytes ≤ 1000) (hbase : base ≤ w.heap.size)
    (h : ∀ A c w', w'.ownsRow base e size (.slice A (n + m) c) (n + m) (xs ++ news) → w.grownBy w' v.ownBlock → (∀ q, (Value.slice A (n + m) c).ownBlock = some q → v.ownBlock = some q ∨ q = w.heap.size) → wpList P ops Q rest (a.put o.dst (.slice A (n + m) c)) w') : wpList P ops Q (o :: rest) a w := by
  obtain ⟨i, hi, hz0, hz1, hz2⟩ := info_parts hinfo
  have hmul : (n + m) * bytes ≤ 1000000000 * 1000 := Nat.mul_le_mul hbound hbytes
  refine wpList_append_own_at w hgd s x t ho base e i z size bytes ht hi hz0 hz1 hz2 hzs hsz v n xs hs hown ad m c news hx hl hnews h1 (by unfold maxLen; omega) (by omega) hbase ?_
  intro v' w' hown' hg' _ hl'
  obtain ⟨A, c', rfl⟩ := own_shape hown'
  exact h A c' w' hown' hg' fun q hq => by
    rcases hl' with h0 | h0
    · exact .inl (h0.symm.trans hq)
    · exact .inr (by rw [h0] at hq; injection hq with hq; exact hq.symm)
theorem own_here {b n c : Nat} : ∀ q, (Value.slice (some ⟨b, 0, none⟩) n c).ownBlock = some q → q = b := fun q hq => by
  have : some b = some q := hq
  injection this with h
  exact h.symm
/-- A row that is not empty: where it lies, and its cells. -/
theorem own_at {w : World} {base e size n c : Nat} {A : Option Addr} {xs : List Value} (h : w.ownsRow base e size (.slice A n c) n xs) (hn : 0 < n) :
    ∃ g, A = some ⟨g, 0, none⟩ ∧ base ≤ g ∧ g < w.heap.size ∧ ∀ i v, xs[i]? = some v → w.cell? ⟨g, i, none⟩ = some v := by
  obtain ⟨h1, h2⟩ := h
  rcases h2 with ⟨hv, rfl⟩ | ⟨g, cap, cur, hv, hg, hh, hn', hcap, hsz, htk⟩
  · injection hv with _ h3 _
    omega
  · have hA : A = some ⟨g, 0, none⟩ := by injection hv
    have hlt : g < w.heap.size := by
      rcases Nat.lt_or_ge g w.heap.size with h | h
      · exact h
      · rw [Array.getElem?_eq_none h] at hh; cases hh
    refine ⟨g, hA, hg, hlt, fun i v hv => ?_⟩
    have e1 : w.cell? ⟨g, i, none⟩ = cur[i]? := by simp [World.cell?, hh]
    rw [e1]
    subst htk
    rw [List.getElem?_take] at hv
    split at hv
    · simpa using hv
    · cases hv
theorem cell_far {w : World} {p q : Addr} {u v : Value} (h : w.cell? p = some v) (hq : q.block ≠ p.block) : (w.setCell q u).cell? p = some v := (World.cell?_of_block (Below.heap_setCell w q u p.block (fun e => hq e.symm))).trans h
theorem cell_drew {w : World} {p : Addr} {v : Value} (h : w.cell? p = some v) : w.drew.cell? p = some v := h
theorem cell_alloc {w : World} {p : Addr} {v : Value} {o : Obj} (h : w.cell? p = some v) (hp : p.block < w.heap.size) : (w.alloc o).cell? p = some v := (World.cell?_of_block (Below.heap_alloc w o _ hp)).trans h
theorem own_lit {w : World} {base e size b : Nat} (cs : Array Value) (n : Nat) (h : b = w.heap.size) (hb : base ≤ b) (hm : n ≤ maxLen) (hs : cs.size = n * size) :
    (w.alloc (.cells cs e)).ownsRow base e size (.slice (some ⟨b, 0, none⟩) n n) n cs.toList := by
  subst h
  exact World.ownsRow_lit w cs n hb hm hs
theorem many_new (w : World) (cs : List Value) (t : TypeId) : ∀ (j : Nat) (x : Value), cs[j]? = some x → (w.alloc (.cells cs.toArray t)).cell? ((⟨w.heap.size, 0, none⟩ : Addr).add j) = some x := by
  intro j x hx
  have hb : Blk (w.alloc (.cells cs.toArray t)) w.heap.size t cs.toArray := Blk.new rfl
  have h2 := hb.cell j
  have e : (⟨w.heap.size, 0, none⟩ : Addr).add j = ⟨w.heap.size, j, none⟩ := by simp [Addr.add]; omega
  rw [e, h2]
  simpa using hx
end Go.Proofs.Ytihbaieiempjeaa
