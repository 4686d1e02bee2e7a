/- General lemmas for the texts of this seat: what a call leaves of old memory, a slice's cells, a row's last step. No program is named here. -/
import Derived.WalkKit
import Derived.ProofKit
import Derived.OpenShut
import Derived.Carry
import Derived.Handy
import Derived.SizedLaws
import Derived.Deep.Slices
import Derived.Deep.Fields
import Derived.Deep.Draws
import Derived.Lib.SmallJoins
import Derived.Deep.QuietTactic
import Derived.BigQuiet
namespace Go.Proofs.Ytihbaieiempjeaa
open Go.RowKit Go.ChangeShapes Go.WideShapes

/-! ### What a contract leaves, in the walk's own words -/
theorem bfacts {W w1 : World} (hb : Below W.heap.size W w1) :
    (∀ n, n < W.heap.size → n < w1.heap.size) ∧ (∀ b o, b < W.heap.size → w1.cell? ⟨b, o, none⟩ = W.cell? ⟨b, o, none⟩) ∧ (∀ b o, b < W.heap.size → w1.frozen? ⟨b, o, none⟩ = W.frozen? ⟨b, o, none⟩) :=
  ⟨fun _ hn => Nat.lt_of_lt_of_le hn hb.size, fun b o h => hb.cell (p := ⟨b, o, none⟩) h, fun b o h => hb.frozen (p := ⟨b, o, none⟩) h⟩
/-- A block that is known whole: its cells, of one type, none of them frozen. -/
def Blk (w : World) (b : Nat) (t : TypeId) (cs : Array Value) : Prop := w.heap[b]? = some (.cells cs t (0, 0))
section
variable {w w' : World} {b : Nat} {t : TypeId} {cs : Array Value}
theorem Blk.lt (h : Blk w b t cs) : b < w.heap.size := by
  rcases Nat.lt_or_ge b w.heap.size with h0 | h0
  · exact h0
  · unfold Blk at h; rw [Array.getElem?_eq_none h0] at h; cases h
theorem Blk.cell (h : Blk w b t cs) (o : Nat) : w.cell? ⟨b, o, none⟩ = cs[o]? := by
  unfold Blk at h
  simp [World.cell?, h]
theorem Blk.frozen (h : Blk w b t cs) (o : Nat) : w.frozen? ⟨b, o, none⟩ = false := by
  unfold Blk at h
  simp [World.frozen?, h]
theorem Blk.new (h : b = w.heap.size) : Blk (w.alloc (.cells cs t)) b t cs := by
  subst h
  show (w.heap.push _)[w.heap.size]? = _
  simp
theorem Blk.drew (h : Blk w b t cs) : Blk w.drew b t cs := h
theorem Blk.alloc (h : Blk w b t cs) (o : Obj) : Blk (w.alloc o) b t cs := (Below.heap_alloc w o b h.lt).trans h
theorem Blk.set_ (h : Blk w b t cs) (i : Nat) (u : Value) : Blk (w.setCell ⟨b, i, none⟩ u) b t (cs.setIfInBounds i u) := by
  unfold Blk at h ⊢
  simp [World.setCell, Array.getElem?_modify, h]
theorem Blk.far {p : Addr} (hp : b ≠ p.block) (h : Blk w b t cs) (u : Value) : Blk (w.setCell p u) b t cs := (Below.heap_setCell w p u b hp).trans h
theorem Blk.below {B : Nat} (h : Blk w b t cs) (hb : Below B w w') (hB : b < B) : Blk w' b t cs := (hb.block b hB).trans h
theorem Blk.grown {row : Option Nat} (h : Blk w b t cs) (hg : w.grownBy w' row) (hne : some b ≠ row) : Blk w' b t cs := (hg.block b h.lt hne).trans h
theorem Blk.past {W : World} (hb : Below W.heap.size W w') (h : Blk W b t cs) : Blk w' b t cs := h.below hb h.lt
/-- A block of the caller's own behind a call, in the walk's own words. -/
theorem bfact {W w1 : World} (hb : Below W.heap.size W w1) {b : Nat} {t : TypeId} {cs : Array Value} (h : Blk W b t cs) :
    b < w1.heap.size ∧ (∀ o, w1.cell? ⟨b, o, none⟩ = cs[o]?) ∧ (∀ o, w1.frozen? ⟨b, o, none⟩ = false) ∧ Blk w1 b t cs :=
  have h1 := h.below hb h.lt
  ⟨h1.lt, h1.cell, h1.frozen, h1⟩
/-- The block that stands on top when a call begins. -/
theorem bfact_top {X w1 : World} (hb : Below (X.alloc (.cells cs t)).heap.size (X.alloc (.cells cs t)) w1) :
    X.heap.size < w1.heap.size ∧ (∀ o, w1.cell? ⟨X.heap.size, o, none⟩ = cs[o]?) ∧ (∀ o, w1.frozen? ⟨X.heap.size, o, none⟩ = false) ∧ Blk w1 X.heap.size t cs :=
  bfact hb (Blk.new rfl)
theorem bfact_topd {X w1 : World} (hb : Below (X.alloc (.cells cs t)).drew.heap.size (X.alloc (.cells cs t)).drew w1) :
    X.heap.size < w1.heap.size ∧ (∀ o, w1.cell? ⟨X.heap.size, o, none⟩ = cs[o]?) ∧ (∀ o, w1.frozen? ⟨X.heap.size, o, none⟩ = false) ∧ Blk w1 X.heap.size t cs :=
  bfact hb (Blk.drew (Blk.new rfl))
theorem use_top {G : Prop} {X w1 : World} (hb : Below (X.alloc (.cells cs t)).heap.size (X.alloc (.cells cs t)) w1)
    (h : X.heap.size < w1.heap.size → (∀ o, w1.cell? ⟨X.heap.size, o, none⟩ = cs[o]?) → (∀ o, w1.frozen? ⟨X.heap.size, o, none⟩ = false) → Blk w1 X.heap.size t cs → G) : G :=
  have q := bfact_top hb
  h q.1 q.2.1 q.2.2.1 q.2.2.2
theorem use_topd {G : Prop} {X w1 : World} (hb : Below (X.alloc (.cells cs t)).drew.heap.size (X.alloc (.cells cs t)).drew w1)
    (h : X.heap.size < w1.heap.size → (∀ o, w1.cell? ⟨X.heap.size, o, none⟩ = cs[o]?) → (∀ o, w1.frozen? ⟨X.heap.size, o, none⟩ = false) → Blk w1 X.heap.size t cs → G) : G :=
  have q := bfact_topd hb
  h q.1 q.2.1 q.2.2.1 q.2.2.2
theorem use_kept {G : Prop} {W w1 : World} (hb : Below W.heap.size W w1) (hk : Blk W b t cs)
    (h : b < w1.heap.size → (∀ o, w1.cell? ⟨b, o, none⟩ = cs[o]?) → (∀ o, w1.frozen? ⟨b, o, none⟩ = false) → Blk w1 b t cs → G) : G :=
  have q := bfact hb hk
  h q.1 q.2.1 q.2.2.1 q.2.2.2
theorem Blk.cast {cs' : Array Value} (h : Blk w b t cs) (e : cs = cs') : Blk w b t cs' := e ▸ h
end
theorem bcell {W w1 : World} (hb : Below W.heap.size W w1) :
    (∀ b o, b < W.heap.size → w1.cell? ⟨b, o, none⟩ = W.cell? ⟨b, o, none⟩) ∧ (∀ b o, b < W.heap.size → w1.frozen? ⟨b, o, none⟩ = W.frozen? ⟨b, o, none⟩) :=
  ⟨fun b o h => hb.cell (p := ⟨b, o, none⟩) h, fun b o h => hb.frozen (p := ⟨b, o, none⟩) h⟩
theorem below_drewN {B : Nat} {w w' : World} {n : Nat} (h : Below B w w') : Below B w (w'.drewN n) := ⟨h.os, h.tape, h.output, h.size, h.block⟩
theorem own_drewN {w : World} {base e size n k : Nat} {v : Value} {xs : List Value} (h : w.ownsRow base e size v n xs) : (w.drewN k).ownsRow base e size v n xs := h
theorem bodyPost_ret0 {P : Program} {fn : Func} {R : Ending → World → Prop} {tmps : Array Value} {w : World} {v : Value} (hr : (results fn tmps).run P w = .ok v w) (hR : R (.returned v) w) : bodyPost P fn R .ret ⟨tmps, []⟩ w :=
  bodyPost_ret hr rfl hR
theorem hid {p : Prop} (h : p) : Hid p := h
theorem ret_bool {a b : Bool} (h : a = b) : Ending.returned (.bool a) = .returned (.bool b) := by rw [h]
theorem ret_int {k : IntKind} {a b : Int} (h : a = b) : Ending.returned (.int k a) = .returned (.int k b) := by rw [h]

/-! ### The world under one name: what is known of it stands in the hypotheses -/
section
variable {P : Program} {c : Code} {Q : Exit → Act → World → Prop} {a : Act} {w w0 : World} {B b0 b1 b2 b3 : Nat} {t0 t1 t2 t3 : TypeId} {c0 c1 c2 c3 : Array Value}
theorem wp_forget0 (hb : Below B w0 w) (h : ∀ W, Below B w0 W → Code.wp P c Q a W) : Code.wp P c Q a w := h w hb
theorem wp_forget1 (h0 : Blk w b0 t0 c0) (hb : Below B w0 w) (h : ∀ W, Blk W b0 t0 c0 → Below B w0 W → Code.wp P c Q a W) : Code.wp P c Q a w := h w h0 hb
theorem wp_forget2 (h0 : Blk w b0 t0 c0) (h1 : Blk w b1 t1 c1) (hb : Below B w0 w) (h : ∀ W, Blk W b0 t0 c0 → Blk W b1 t1 c1 → Below B w0 W → Code.wp P c Q a W) : Code.wp P c Q a w := h w h0 h1 hb
theorem wp_forget3 (h0 : Blk w b0 t0 c0) (h1 : Blk w b1 t1 c1) (h2 : Blk w b2 t2 c2) (hb : Below B w0 w)
    (h : ∀ W, Blk W b0 t0 c0 → Blk W b1 t1 c1 → Blk W b2 t2 c2 → Below B w0 W → Code.wp P c Q a W) : Code.wp P c Q a w := h w h0 h1 h2 hb
theorem wp_forget4 (h0 : Blk w b0 t0 c0) (h1 : Blk w b1 t1 c1) (h2 : Blk w b2 t2 c2) (h3 : Blk w b3 t3 c3) (hb : Below B w0 w)
    (h : ∀ W, Blk W b0 t0 c0 → Blk W b1 t1 c1 → Blk W b2 t2 c2 → Blk W b3 t3 c3 → Below B w0 W → Code.wp P c Q a W) : Code.wp P c Q a w := h w h0 h1 h2 h3 hb
end
/-! ### A region that draws its order, whose operations read and call what leaves old memory alone: one walk in the text's order -/
structure Later (W : World) where
  val : World
  below : Below W.heap.size W val
instance laterNonempty (W : World) : Nonempty (Later W) := ⟨⟨W, Below.refl _ _⟩⟩
theorem wp_region_later {P : Program} {id : Nat} {Q : Exit → Act → World → Prop} {a : Act} {w : World} {l : List Oper} (hm : P.follows .mixedOrders = true) (hB : Region.lexB .any l.toArray = true)
    (h : wpQuiet P l.toArray (fun w' => ∃ x : Later w, w' = x.val) (fun a' => ∀ w', (∃ x : Later w, w' = x.val) → Q .normal a' w') l a) : (Code.region id l.toArray true).wp P Q a w :=
  wp_region_quiet (C := fun w' => ∃ x : Later w, w' = x.val) hm hB ⟨⟨w.drew, (Below.refl _ _).drew⟩, rfl⟩ (by simpa using h)
theorem Calls.later {P : Program} {f : FuncId} {args : Array Value} {W : World} {x : Later W} {v : Value} (h : Calls P f args x.val fun e w' => e = .returned v ∧ Below x.val.heap.size x.val w') :
    Calls P f args x.val fun e w'' => e = .returned v ∧ ∃ y : Later W, w'' = y.val :=
  h.mono fun _ w' ⟨he, hb⟩ => ⟨he, ⟨w', x.below.trans (hb.mono x.below.size)⟩, rfl⟩
theorem Calls.later_same {P : Program} {f : FuncId} {args : Array Value} {W : World} {x : Later W} {v : Value} (h : Calls P f args x.val fun e w' => e = .returned v ∧ x.val = w') :
    Calls P f args x.val fun e w'' => e = .returned v ∧ ∃ y : Later W, w'' = y.val :=
  h.mono fun _ _ ⟨he, hw⟩ => ⟨he, x, hw.symm⟩

/-! ### The cells of a slice: nothing is said of the address where there is no cell -/
def Cells (w : World) (B : Nat) (A : Option Addr) (vs : List Value) : Prop :=
  0 < vs.length → ∃ b off, A = some ⟨b, off, none⟩ ∧ b < B ∧ ∀ i v, vs[i]? = some v → w.cell? ⟨b, off + i, none⟩ = some v
theorem Cells.nil_ {w : World} {B : Nat} {A : Option Addr} : Cells w B A [] := fun h => absurd h (by simp)
theorem Cells.below {w w' : World} {B : Nat} {A : Option Addr} {vs : List Value} (h : Cells w B A vs) (hb : Below B w w') : Cells w' B A vs := fun h0 => by
  obtain ⟨b, off, e, hB, hc⟩ := h h0
  exact ⟨b, off, e, hB, fun i v hv => (hb.cell (p := ⟨b, off + i, none⟩) hB).trans (hc i v hv)⟩
theorem Cells.more {w : World} {B B' : Nat} {A : Option Addr} {vs : List Value} (h : Cells w B A vs) (hB : B ≤ B') : Cells w B' A vs := fun h0 => by
  obtain ⟨b, off, e, hb, hc⟩ := h h0
  exact ⟨b, off, e, by omega, hc⟩
theorem Cells.step {w w' : World} {A : Option Addr} {vs : List Value} (h : Cells w w.heap.size A vs) (hb : Below w.heap.size w w') : Cells w' w'.heap.size A vs :=
  (h.below hb).more hb.size
theorem Cells.grown {w w' : World} {B : Nat} {A : Option Addr} {vs : List Value} {row : Option Nat} (h : Cells w B A vs) (hg : w.grownBy w' row) (hB : B ≤ w.heap.size) (hr : ∀ g, row = some g → B ≤ g) : Cells w' B A vs := fun h0 => by
  obtain ⟨b, off, e, hb, hc⟩ := h h0
  exact ⟨b, off, e, hb, fun i v hv => (World.cell?_of_block (hg.block b (by omega) (fun e => by have := hr _ e.symm; omega))).trans (hc i v hv)⟩
theorem Cells.at_ {w : World} {B : Nat} {A : Option Addr} {vs : List Value} (h : Cells w B A vs) {i : Nat} {v : Value} (hv : vs[i]? = some v) :
    ∃ b off, A = some ⟨b, off, none⟩ ∧ b < B ∧ ∀ i v, vs[i]? = some v → w.cell? ⟨b, off + i, none⟩ = some v :=
  h (by have := (List.getElem?_eq_some_iff.1 hv).1; omega)
theorem Cells.of_own {w : World} {base e size n c : Nat} {A : Option Addr} {vs : List Value} (h : w.ownsRow base e size (.slice A n c) n vs) : Cells w w.heap.size A vs := fun h0 => by
  obtain ⟨h1, h2⟩ := h
  rcases h2 with ⟨hv, rfl⟩ | ⟨g, cap, cur, hv, hg, hh, hn, hcap, hsz, htk⟩
  · simp at h1; subst h1; simp at h0
  · have hA : A = some ⟨g, 0, none⟩ := by injection hv
    subst hA
    have hlt : g < w.heap.size := by
      rcases Nat.lt_or_ge g w.heap.size with h | h
      · exact h
      · rw [Array.getElem?_eq_none h] at hh; cases hh
    refine ⟨g, 0, rfl, hlt, fun i v hv => ?_⟩
    have hi := (List.getElem?_eq_some_iff.1 hv).1
    have e1 : w.cell? ⟨g, i, none⟩ = cur[i]? := by simp [World.cell?, hh]
    rw [Nat.zero_add, e1]
    subst htk
    rw [List.getElem?_take] at hv
    split at hv
    · simpa using hv
    · cases hv

/-! ### Rows of the call's own: append; numbers -/
def ints (xs : List Int) : List Value := xs.map (Value.int .i64)
theorem ints_length (xs : List Int) : (ints xs).length = xs.length := by simp [ints]
theorem ints_get {xs : List Int} {k : Nat} {x : Int} (h : xs[k]? = some x) : (ints xs)[k]? = some (.int .i64 x) := by simp [ints, h]
theorem ints_snoc (xs : List Int) (x : Int) : ints (xs ++ [x]) = ints xs ++ [.int .i64 x] := by simp [ints]
theorem ints_one (xs : List Int) : ∀ u ∈ ints xs, u.oneCell' = true := by
  intro u hu
  obtain ⟨_, _, rfl⟩ := List.mem_map.1 hu
  rfl
theorem one_one (x : Int) : ∀ u ∈ [Value.int .i64 x], u.oneCell' = true := by
  intro u hu
  simp at hu
  subst hu
  rfl
theorem own_shape {w : World} {base e size n : Nat} {v : Value} {xs : List Value} (h : w.ownsRow base e size v n xs) : ∃ A c, v = .slice A n c := by
  rcases h.2 with ⟨rfl, rfl⟩ | ⟨g, cap, _, rfl, _⟩
  · exact ⟨none, 0, rfl⟩
  · exact ⟨_, _, rfl⟩
theorem one_new (w : World) (u : Value) (t : TypeId) : ∀ (j : Nat) (x : Value), [u][j]? = some x → (w.alloc (.cells #[u] t)).cell? ((⟨w.heap.size, 0, none⟩ : Addr).add j) = some x := by
  intro j x hx
  match j, hx with
  | 0, hx =>
    simp at hx
    subst hx
    simp [Addr.add]
theorem below_app {B base e size n : Nat} {w wr w' : World} {o : Obj} {v : Value} {xs : List Value} (hB : Below B w wr) (hle : B ≤ wr.heap.size) (hown : wr.ownsRow base e size v n xs) (hbase : B ≤ base)
    (hg : (wr.alloc o).grownBy w' v.ownBlock) : Below B w w' :=
  (hB.alloc hle o).grown hg (by simp; omega) (fun k hk => by have := (hown.lt k hk).1; omega)
theorem below_row {B base e size n : Nat} {w X X' w' : World} {v : Value} {xs : List Value} (hB : Below B w X) (hle : B ≤ X.heap.size) (hown : X'.ownsRow base e size v n xs) (hbase : B ≤ base)
    (hg : X.grownBy w' v.ownBlock) : Below B w w' :=
  hB.grown hg hle (fun k hk => by have := (hown.lt k hk).1; omega)
theorem wpList_app {P : Program} (w : World) {ops : Array Oper} {rest : List Oper} {o : Oper} {a : Act} {Q : Exit → Act → World → Prop} (hgd : o.guard = none) (s x : Operand) (t : TypeId)
    (ho : o.op = .call { callee := .builtin .append, args := #[s, x], argTypes := #[t, t] })
    (base e : Nat) (z : Value) (size bytes : Nat) (ht : P.underlying t = some (.slice e)) (hinfo : (P.info? e).map (fun i => (i.zero, i.size, i.bytes)) = some (some z, size, bytes)) (hzs : z.cells.size = size) (hsz : 0 < size)
    (v : Value) (n : Nat) (xs : List Value) (hs : a.eval s = v) (hown : w.ownsRow base e size v n xs)
    (ad : Addr) (m c : Nat) (news : List Value) (hx : a.eval x = .slice (some ad) m c) (hl : news.length = m * size) (hnews : ∀ j u, news[j]? = some u → w.cell? (ad.add j) = some u) (h1 : ∀ u ∈ news, u.oneCell' = true)
    (hbound : n + m ≤ 1000000000) (hbytes : bytes ≤ 1000) (hbase : base ≤ w.heap.size)
    (h : ∀ A c w', w'.ownsRow base e size (.slice A (n + m) c) (n + m) (xs ++ news) → w.grownBy w' v.ownBlock → wpList P ops Q rest (a.put o.dst (.slice A (n + m) c)) w') : wpList P ops Q (o :: rest) a w := by
  obtain ⟨i, hi, hz0, hz1, hz2⟩ := info_parts hinfo
  have hmul : (n + m) * bytes ≤ 1000000000 * 1000 := Nat.mul_le_mul hbound hbytes
  refine wpList_append_own w hgd s x t ho base e i z size bytes ht hi hz0 hz1 hz2 hzs hsz v n xs hs hown ad m c news hx hl hnews h1 (by unfold maxLen; omega) (by omega) hbase ?_
  intro v' w' hown' hg' _
  obtain ⟨A, c', rfl⟩ := own_shape hown'
  exact h A c' w' hown' hg'
theorem step_app {P : Program} (w : World) {ops : Array Oper} {o : Oper} {a : Act} {K : Act → World → Prop} {Q : Exit → Act → World → Prop} {E : Prop} (hgd : o.guard = none) (s x : Operand) (t : TypeId)
    (ho : o.op = .call { callee := .builtin .append, args := #[s, x], argTypes := #[t, t] })
    (base e : Nat) (z : Value) (size bytes : Nat) (ht : P.underlying t = some (.slice e)) (hinfo : (P.info? e).map (fun i => (i.zero, i.size, i.bytes)) = some (some z, size, bytes)) (hzs : z.cells.size = size) (hsz : 0 < size)
    (v : Value) (n : Nat) (xs : List Value) (hs : a.eval s = v) (hown : w.ownsRow base e size v n xs)
    (ad : Addr) (m c : Nat) (news : List Value) (hx : a.eval x = .slice (some ad) m c) (hl : news.length = m * size) (hnews : ∀ j u, news[j]? = some u → w.cell? (ad.add j) = some u) (h1 : ∀ u ∈ news, u.oneCell' = true)
    (hbound : n + m ≤ 1000000000) (hbytes : bytes ≤ 1000) (hbase : base ≤ w.heap.size)
    (h : ∀ A c w', w'.ownsRow base e size (.slice A (n + m) c) (n + m) (xs ++ news) → w.grownBy w' v.ownBlock → K (a.put o.dst (.slice A (n + m) c)) w') :
    if Region.wanted o (yielded ops a.tmps) = true then Oper.wp P o a w K Q else E := by
  have hw : Region.wanted o (yielded ops a.tmps) = true := by simp [Region.wanted, hgd]
  obtain ⟨i, hi, hz0, hz1, hz2⟩ := info_parts hinfo
  have hmul : (n + m) * bytes ≤ 1000000000 * 1000 := Nat.mul_le_mul hbound hbytes
  rw [if_pos hw]
  refine wp_append_own w s x t ho base e i z size bytes ht hi hz0 hz1 hz2 hzs hsz v n xs hs hown ad m c news hx hl hnews h1 (by unfold maxLen; omega) (by omega) hbase ?_
  intro v' w' hown' hg' _
  obtain ⟨A, c', rfl⟩ := own_shape hown'
  exact h A c' w' hown' hg'

/-! ### Rows and arguments carried from call to call -/
theorem own_below {w w' : World} {base e size n : Nat} {v : Value} {xs : List Value} (h : w.ownsRow base e size v n xs) (hb : Below w.heap.size w w') : w'.ownsRow base e size v n xs := by
  refine ⟨h.1, ?_⟩
  rcases h.2 with h2 | ⟨g, cap, cur, hv, hg, hh, r⟩
  · exact .inl h2
  · have hlt : g < w.heap.size := by
      rcases Nat.lt_or_ge g w.heap.size with h0 | h0
      · exact h0
      · rw [Array.getElem?_eq_none h0] at hh; cases hh
    exact .inr ⟨g, cap, cur, hv, hg, (hb.block g hlt).trans hh, r⟩
theorem own_hi {w : World} {base e size n : Nat} {v : Value} {xs : List Value} (h : w.ownsRow base e size v n xs) : ∀ q, v.ownBlock = some q → q < w.heap.size := fun q hq => (h.lt q hq).2
theorem own_apart {w w' : World} {lo lo' hi hi' e size n e' size' n' : Nat} {v v' : Value} {xs xs' : List Value} (h : w.ownsRow lo e size v n xs) (hv : ∀ q, v.ownBlock = some q → q < hi)
    (h' : w'.ownsRow lo' e' size' v' n' xs') (hv' : ∀ q, v'.ownBlock = some q → q < hi') (hg : w.grownBy w' v'.ownBlock) (hd : hi ≤ lo' ∨ hi' ≤ lo) : w'.ownsRow lo e size v n xs := by
  refine h.kept hg ?_
  cases hq : v.ownBlock with
  | none => exact .inl rfl
  | some q =>
    refine .inr fun he => ?_
    have a1 := hv q hq
    have a2 := (h.lt q hq).1
    have a3 := hv' q he.symm
    have a4 := (h'.lt q he.symm).1
    omega
theorem cells_apart {w w' : World} {B lo' e' size' n' : Nat} {A : Option Addr} {v' : Value} {vs xs' : List Value} (h : Cells w B A vs) (h' : w'.ownsRow lo' e' size' v' n' xs') (hg : w.grownBy w' v'.ownBlock)
    (hB : B ≤ w.heap.size) (hd : B ≤ lo') : Cells w' B A vs :=
  h.grown hg hB fun g he => by
    have := (h'.lt g he).1
    omega
theorem cells_below {w w' : World} {B : Nat} {A : Option Addr} {vs : List Value} (h : Cells w B A vs) (hb : Below w.heap.size w w') (hB : B ≤ w.heap.size) : Cells w' B A vs := h.below (hb.mono hB)
theorem below_mark {w0 w w' : World} {b lo' e' size' n' : Nat} {v' : Value} {xs' : List Value} (hb : Below b w0 w) (h' : w'.ownsRow lo' e' size' v' n' xs') (hg : w.grownBy w' v'.ownBlock) (h1 : b ≤ w.heap.size) (h2 : b ≤ lo') : Below b w0 w' :=
  hb.grown hg h1 fun k hk => by
    have := (h'.lt k hk).1
    omega

theorem blk_apart {w w' : World} {b t lo' hi' e' size' n' : Nat} {cs : Array Value} {v' : Value} {xs' : List Value} (h : Blk w b t cs) (h' : w'.ownsRow lo' e' size' v' n' xs') (hv' : ∀ q, v'.ownBlock = some q → q < hi')
    (hg : w.grownBy w' v'.ownBlock) (hd : b < lo' ∨ hi' ≤ b) : Blk w' b t cs :=
  h.grown hg fun he => by
    have a1 := hv' b he.symm
    have a2 := (h'.lt b he.symm).1
    omega
section
variable {P : Program} {f : FuncId} {args : Array Value} {Q : Ending → World → Prop} {X W : World} {b0 b1 b2 b3 t0 t1 t2 t3 : Nat} {c0 c1 c2 c3 : Array Value}
theorem calls_forget0 (hX : Below W.heap.size W X) (h : ∀ X', Below W.heap.size W X' → Calls P f args X' Q) : Calls P f args X Q := h X hX
theorem calls_forget1 (h0 : Blk X b0 t0 c0) (hX : Below W.heap.size W X) (h : ∀ X', Blk X' b0 t0 c0 → Below W.heap.size W X' → Calls P f args X' Q) : Calls P f args X Q := h X h0 hX
theorem calls_forget2 (h0 : Blk X b0 t0 c0) (h1 : Blk X b1 t1 c1) (hX : Below W.heap.size W X) (h : ∀ X', Blk X' b0 t0 c0 → Blk X' b1 t1 c1 → Below W.heap.size W X' → Calls P f args X' Q) : Calls P f args X Q := h X h0 h1 hX
theorem calls_forget3 (h0 : Blk X b0 t0 c0) (h1 : Blk X b1 t1 c1) (h2 : Blk X b2 t2 c2) (hX : Below W.heap.size W X)
    (h : ∀ X', Blk X' b0 t0 c0 → Blk X' b1 t1 c1 → Blk X' b2 t2 c2 → Below W.heap.size W X' → Calls P f args X' Q) : Calls P f args X Q := h X h0 h1 h2 hX
end

/-! ### An argument that is a slice of numbers, nil or not -/
theorem view_intsF {H : Type} {enc : TypeId × Value → H} {P : Program} {W : World} {t e : TypeId} {v : Value} {fuel : Nat} {y : DataW H × List MemPlace}
    (ht : P.underlying t = some (.slice e)) (he : P.underlying e = some (.int .i64)) (hc : P.cellsOf e = 1)
    (hf : DataW.trod enc P W 0 (fun _ => true) true fuel t [v] = some y) (hlt : ∀ x ∈ y.2, x.block < W.heap.size) :
    ∃ A c xs, v = .slice A xs.length c ∧ Cells W W.heap.size A (ints xs) ∧ (∀ x ∈ xs, (Lit.int .i64 x).wf = true) ∧ xs.length ≤ maxLen := by
  rcases open_ints ht he hc hf with ⟨hcs, hx⟩ | ⟨a, len, cap, zs, hcs, _, hl, hm, hz, hx, hcell, hwz⟩
  · simp at hcs
    subst hcs
    exact ⟨none, 0, [], rfl, Cells.nil_, by simp, by simp⟩
  · simp at hcs
    subst hcs
    simp only [if_true] at hz
    have hlen : (zs.take len).length = len := by rw [List.length_take]; omega
    refine ⟨some a, cap, zs.take len, by rw [hlen], fun h0 => ?_, fun x hx => hwz x (List.mem_of_mem_take hx), by rw [hlen]; omega⟩
    rw [ints_length, hlen] at h0
    obtain ⟨b, off, spot⟩ := a
    have hspot : spot = none := by simpa [Addr.add] using World.cell?_spot (hcell 0 (by omega))
    subst hspot
    refine ⟨b, off, rfl, hlt (.cell b off) (by rw [hx]; exact MemPlace.mem_row.2 ⟨0, by omega, by simp⟩), fun i v hv => ?_⟩
    have hi : i < len := by
      have := (List.getElem?_eq_some_iff.1 hv).1
      rw [ints_length, hlen] at this
      exact this
    have hg : (zs.take len)[i]? = some (zs.getD i 0) := by
      rw [List.getElem?_take, if_pos hi, List.getD_eq_getElem?_getD, List.getElem?_eq_getElem (by omega)]
      rfl
    rw [ints_get hg] at hv
    injection hv with hv
    rw [← hv, ← add_plain]
    exact hcell i (by omega)
theorem view_ints {H : Type} {enc : TypeId × Value → H} {P : Program} {W : World} {r : Reach} {b0 : Nat} {t e : TypeId} {v : Value} {d : DataW H} {ps : List MemPlace}
    (ht : P.underlying t = some (.slice e)) (he : P.underlying e = some (.int .i64)) (hc : P.cellsOf e = 1) (hv : Value.okWide P W r b0 t v)
    (h : DataW.Trod enc P W 0 (fun _ => true) true t v d ps) (hlt : ∀ x ∈ ps, x.block < W.heap.size) :
    ∃ A c xs, v = .slice A xs.length c ∧ Cells W W.heap.size A (ints xs) ∧ (∀ x ∈ xs, (Lit.int .i64 x).wf = true) ∧ xs.length ≤ maxLen := by
  obtain ⟨a0, len, cap, rfl⟩ := okWide_slice ht hv
  obtain ⟨fuel, hf⟩ := h
  exact view_intsF ht he hc (by simpa [Value.cells] using hf) hlt

/-! ### The last step of a law's row: the answer is true, the arguments read as they did -/
section
variable {H : Type} {enc : TypeId × Value → H} {P : Program}
theorem trodAll_below (hl : laidOutB P = true) {W W' : World} (hb : Below W.heap.size W W') :
    ∀ (ts : List TypeId) (vs : List Value) (ds : List (DataW H)) (ps : List MemPlace), ts.all (fun t => P.readableRec t && decide (t < P.types.size)) = true →
      DataW.TrodAll enc P W 0 (fun _ => true) true ts vs ds ps → (∀ x ∈ ps, x.block < W.heap.size) →
      DataW.TrodAll enc P W' 0 (fun b => decide (b < W.heap.size)) true ts vs ds ps := by
  intro ts
  induction ts with
  | nil =>
    intro vs ds ps _ h _
    obtain ⟨rfl, rfl, rfl⟩ := trodAll_nil h
    exact trodAll_mk0
  | cons t ts ih =>
    intro vs ds ps hts h hlt
    simp only [List.all_cons, Bool.and_eq_true, decide_eq_true_eq] at hts
    obtain ⟨v, vs', d, ds', p, q, rfl, rfl, rfl, h0, h1⟩ := trodAll_cons h
    exact trodAll_cons_mk (Below.trod hl hts.1.1 hts.1.2 h0 hb fun x hx => hlt x (by simp [hx])) (ih vs' ds' q hts.2 h1 fun x hx => hlt x (by simp [hx]))
theorem law_post {f : Func} {s : ChangeSpec} {tb : TypeId} {W W' : World} {args : Array Value} {ds : List (DataW H)} {before : List MemPlace}
    (hvars : s.vars = []) (hl : laidOutB P = true) (hpar : f.params.toList.all (fun t => P.readableRec t && decide (t < P.types.size)) = true) (hrt : f.resultTypes = #[tb]) (htb : P.underlying tb = some .bool)
    (hW : DataW.Whole enc P f.params.toList s.vars false W args.toList ds [] before)
    (hr : (s.fn H (ds ++ [])).results = [.lit (.bool true)]) (ha : (s.fn H (ds ++ [])).args = ds) (hg : (s.fn H (ds ++ [])).vars = []) (hb : Below W.heap.size W W') :
    s.post enc P f false true false false W args (.bool true) W' := by
  have hW' := hW
  obtain ⟨p, q, hA, hV, rfl, hfz, hnd⟩ := hW
  rw [hvars] at hV
  obtain ⟨_, rfl⟩ := trodVars_none hV
  have hlt : ∀ x ∈ p, x.block < W.heap.size := fun x hx => hW'.lt x (by simp [hx])
  refine ⟨ds, [], _, [], p, [], hW', ?_, ?_, ?_, hb.frame _, fun h => by cases h⟩
  · rw [hr, hrt]
    exact trodAll_mk1 (shut_bool htb true)
  · rw [ha]
    exact trodAll_below hl hb _ _ _ _ hpar hA hlt
  · rw [hg, hvars]
    rfl
end
end Go.Proofs.Ytihbaieiempjeaa
