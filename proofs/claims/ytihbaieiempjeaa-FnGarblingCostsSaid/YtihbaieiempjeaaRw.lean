/- Rows of the call's own whose block is named: what appends to them leave. -/
import Derived.Test.YtihbaieiempjeaaWord
import Derived.Test.YtihbaieiempjeaaMem
import Derived.Test.YtihbaieiempjeaaBy
import Derived.Test.YtihbaieiempjeaaPg
import Derived.Test.YtihbaieiempjeaaCc
import Derived.Deep.DeepCutAuto
namespace Go.Proofs.Ytihbaieiempjeaa
open Go.RowKit

def Row (w : World) (g e size n c : Nat) (xs : List Value) : Prop := w.ownsRow 0 e size (.slice (some ⟨g, 0, none⟩) n c) n xs
section
variable {w w' : World} {g e size n c : Nat} {xs : List Value}
theorem Row.parts (h : Row w g e size n c xs) : xs.length = n * size ∧ ∃ cur, w.heap[g]? = some (.cells cur e (0, 0)) ∧ n ≤ c ∧ c ≤ maxLen ∧ cur.size = c * size ∧ cur.toList.take (n * size) = xs := by
  refine ⟨h.1, ?_⟩
  rcases h.2 with ⟨hv, _⟩ | ⟨g', cap, cur, hv, _, h1, h2, h3, h4, h5⟩
  · cases hv
  · injection hv with e1 _ e3
    injection e1 with e1
    injection e1 with e1
    subst e1 e3
    exact ⟨cur, h1, h2, h3, h4, h5⟩
theorem Row.lt (h : Row w g e size n c xs) : g < w.heap.size := (World.ownsRow.lt h g rfl).2
theorem Row.cap (h : Row w g e size n c xs) : n ≤ c := by
  obtain ⟨_, _, _, h, _⟩ := h.parts
  exact h
theorem Row.len (h : Row w g e size n c xs) : xs.length = n * size := h.1
theorem Row.below (h : Row w g e size n c xs) (hb : Below w.heap.size w w') : Row w' g e size n c xs := own_below h hb
theorem Row.grown {q : Nat} (h : Row w g e size n c xs) (hg : w.grownBy w' (some q)) (hne : g ≠ q) : Row w' g e size n c xs :=
  gr_own hg h fun a b ha hb => by
    injection ha with ha
    have : some g = some b := hb
    injection this with this
    omega
theorem Row.alloc (h : Row w g e size n c xs) (o : Obj) : Row (w.alloc o) g e size n c xs := World.ownsRow.alloc h o
theorem Row.cells (h : Row w g e size n c xs) : Cells w w.heap.size (some ⟨g, 0, none⟩) xs := Cells.of_own h
theorem Row.cell (h : Row w g e size n c xs) {k : Nat} {v : Value} (hk : xs[k]? = some v) : w.cell? ⟨g, k, none⟩ = some v := by
  obtain ⟨b, off, e, _, hc⟩ := h.cells (by have := (List.getElem?_eq_some_iff.1 hk).1; omega)
  injection e with e
  injection e with e1 e2
  subst e1 e2
  have := hc k v hk
  rwa [Nat.zero_add] at this
theorem Row.new (cs : Array Value) (hn : n ≤ maxLen) (hs : cs.size = n * size) (hg : g = w.heap.size) : Row (w.alloc (.cells cs e)) g e size n n cs.toList := by
  subst hg
  exact own_lit cs n rfl (Nat.zero_le _) hn hs
theorem Row.own {base : Nat} (h : Row w g e size n c xs) (hb : base ≤ g) : w.ownsRow base e size (.slice (some ⟨g, 0, none⟩) n c) n xs := by
  obtain ⟨h0, cur, h1, h2, h3, h4, h5⟩ := h.parts
  exact ⟨h0, .inr ⟨g, c, cur, rfl, hb, h1, h2, h3, h4, h5⟩⟩
end
theorem wpList_apps {P : Program} {w : World} {ops : Array Oper} {rest : List Oper} {o : Oper} {a : Act} {Q : Exit → Act → World → Prop} (hgd : o.guard = none) (s x : Operand) (t : TypeId)
    (ho : o.op = .call { callee := .builtin .append, args := #[s, x], argTypes := #[t, t] })
    (e : Nat) (z : Value) (size bytes : Nat) (ht : P.underlying t = some (.slice e)) (hinfo : (P.info? e).map (fun i => (i.zero, i.size, i.bytes)) = some (some z, size, bytes)) (hzs : z.cells.size = size) (hsz : 0 < size)
    {g n c : Nat} {xs : List Value} (hs : a.eval s = .slice (some ⟨g, 0, none⟩) n c) (hown : Row w g e size n c xs)
    (ad : Addr) (m k : Nat) (news : List Value) (hx : a.eval x = .slice (some ad) m k) (hl : news.length = m * size) (hnews : ∀ j u, news[j]? = some u → w.cell? (ad.add j) = some u) (h1 : ∀ u ∈ news, u.oneCell' = true)
    (hbound : n + m ≤ 1000000000) (hbytes : bytes ≤ 1000)
    (h : ∀ g' c' w', Row w' g' e size (n + m) c' (xs ++ news) → w.grownBy w' (some g) → (g' = g ∨ g' = w.heap.size) → wpList P ops Q rest (a.put o.dst (.slice (some ⟨g', 0, none⟩) (n + m) c')) w') : wpList P ops Q (o :: rest) a w := by
  obtain ⟨i, hi, hz0, hz1, hz2⟩ := info_parts hinfo
  have hmul : (n + m) * bytes ≤ 1000000000 * 1000 := Nat.mul_le_mul hbound hbytes
  refine wpList_append_own_at w hgd s x t ho 0 e i z size bytes ht hi hz0 hz1 hz2 hzs hsz _ n xs hs hown ad m k news hx hl hnews h1 (by unfold maxLen; omega) (by omega) (Nat.zero_le _) ?_
  intro v' w' hown' hg' hnil hbl
  rcases hown'.2 with ⟨hv, _⟩ | ⟨g', cap, cur, hv, _⟩
  · exact absurd (hnil.1 hv).1 (by simp)
  · subst hv
    refine h g' cap w' hown' hg' ?_
    rcases hbl with hb | hb
    · have hb : some g' = some g := hb
      injection hb with hb
      exact .inl hb
    · have hb : some g' = some w.heap.size := hb
      injection hb with hb
      exact .inr hb
theorem below_apps {B : Nat} {w0 w w' : World} {g : Nat} (h : Below B w0 w) (hg : w.grownBy w' (some g)) (h1 : B ≤ w.heap.size) (h2 : B ≤ g) : Below B w0 w' :=
  gr_below hg h h1 fun q hq => by injection hq with hq; omega
theorem cells_add {w : World} {b off : Nat} {xs : List Value} (hc : ∀ i v, xs[i]? = some v → w.cell? ⟨b, off + i, none⟩ = some v) : ∀ j u, xs[j]? = some u → w.cell? ((⟨b, off, none⟩ : Addr).add j) = some u := fun j u hu => by
  have e : (⟨b, off, none⟩ : Addr).add j = ⟨b, off + j, none⟩ := by simp [Addr.add]
  rw [e]
  exact hc j u hu
theorem ints_app (xs ys : List Int) : ints (xs ++ ys) = ints xs ++ ints ys := List.map_append
theorem infoSt : (Try.prog.info? 45).map (fun i => (i.zero, i.size, i.bytes)) = some (some (.agg #[.int .i64 0, .int .i64 0, .int .i64 0, .int .i64 0, .int .i64 0, .int .i64 0]), 6, 48) := by kernel_rfl
theorem infoGt : (Try.prog.info? 70).map (fun i => (i.zero, i.size, i.bytes)) = some (some (.agg #[.int .i64 0, .int .i64 0, .int .i64 0]), 3, 24) := by kernel_rfl
theorem infoI : (Try.prog.info? 3).map (fun i => (i.zero, i.size, i.bytes)) = some (some (.int .i64 0), 1, 8) := by kernel_rfl
abbrev RowS (w : World) (g n c : Nat) (L : List St) : Prop := Row w g 45 6 n c (ints (flatS L))
abbrev RowG (w : World) (g n c : Nat) (L : List Gt) : Prop := Row w g 70 3 n c (ints (flatG L))
abbrev RowI (w : World) (g n c : Nat) (L : List Int) : Prop := Row w g 3 1 n c (ints L)
section
variable {w : World} {ops : Array Oper} {rest : List Oper} {o : Oper} {a : Act} {Q : Exit → Act → World → Prop}
theorem app_st (hgd : o.guard = none) (s x : Operand) (ho : o.op = .call { callee := .builtin .append, args := #[s, x], argTypes := #[39, 39] })
    {g n c : Nat} {L : List St} (hs : a.eval s = .slice (some ⟨g, 0, none⟩) n c) (hown : RowS w g n c L) {b off m k : Nat} (M : List St) (hx : a.eval x = .slice (some ⟨b, off, none⟩) m k) (hl : M.length = m)
    (hc : ∀ j u, (ints (flatS M))[j]? = some u → w.cell? ⟨b, off + j, none⟩ = some u) (hb : n + m ≤ 1000000)
    (h : ∀ g' c' w', RowS w' g' (n + m) c' (L ++ M) → w.grownBy w' (some g) → (g' = g ∨ g' = w.heap.size) → wpList Try.prog ops Q rest (a.put o.dst (.slice (some ⟨g', 0, none⟩) (n + m) c')) w') : wpList Try.prog ops Q (o :: rest) a w :=
  wpList_apps hgd s x _ ho _ _ 6 48 Try.underlying39 infoSt rfl (by decide) hs hown ⟨b, off, none⟩ m k (ints (flatS M)) hx (by rw [ints_length, flatS_length, hl]) (cells_add hc) (ints_one _) (by omega) (by decide)
    fun g' c' w' h1 h2 h3 => h g' c' w' (by show Row _ _ _ _ _ _ _; rw [flatS_append, ints_app]; exact h1) h2 h3
theorem app_gt (hgd : o.guard = none) (s x : Operand) (ho : o.op = .call { callee := .builtin .append, args := #[s, x], argTypes := #[24, 24] })
    {g n c : Nat} {L : List Gt} (hs : a.eval s = .slice (some ⟨g, 0, none⟩) n c) (hown : RowG w g n c L) {b off m k : Nat} (M : List Gt) (hx : a.eval x = .slice (some ⟨b, off, none⟩) m k) (hl : M.length = m)
    (hc : ∀ j u, (ints (flatG M))[j]? = some u → w.cell? ⟨b, off + j, none⟩ = some u) (hb : n + m ≤ 1000000)
    (h : ∀ g' c' w', RowG w' g' (n + m) c' (L ++ M) → w.grownBy w' (some g) → (g' = g ∨ g' = w.heap.size) → wpList Try.prog ops Q rest (a.put o.dst (.slice (some ⟨g', 0, none⟩) (n + m) c')) w') : wpList Try.prog ops Q (o :: rest) a w :=
  wpList_apps hgd s x _ ho _ _ 3 24 Try.underlying24 infoGt rfl (by decide) hs hown ⟨b, off, none⟩ m k (ints (flatG M)) hx (by rw [ints_length, flatG_length, hl]) (cells_add hc) (ints_one _) (by omega) (by decide)
    fun g' c' w' h1 h2 h3 => h g' c' w' (by show Row _ _ _ _ _ _ _; rw [flatG_append, ints_app]; exact h1) h2 h3
theorem app_int (hgd : o.guard = none) (s x : Operand) (ho : o.op = .call { callee := .builtin .append, args := #[s, x], argTypes := #[25, 25] })
    {g n c : Nat} {L : List Int} (hs : a.eval s = .slice (some ⟨g, 0, none⟩) n c) (hown : RowI w g n c L) {b off m k : Nat} (M : List Int) (hx : a.eval x = .slice (some ⟨b, off, none⟩) m k) (hl : M.length = m)
    (hc : ∀ j u, (ints M)[j]? = some u → w.cell? ⟨b, off + j, none⟩ = some u) (hb : n + m ≤ 1000000)
    (h : ∀ g' c' w', RowI w' g' (n + m) c' (L ++ M) → w.grownBy w' (some g) → (g' = g ∨ g' = w.heap.size) → wpList Try.prog ops Q rest (a.put o.dst (.slice (some ⟨g', 0, none⟩) (n + m) c')) w') : wpList Try.prog ops Q (o :: rest) a w :=
  wpList_apps hgd s x _ ho _ _ 1 8 Try.underlying25 infoI rfl (by decide) hs hown ⟨b, off, none⟩ m k (ints M) hx (by rw [ints_length, hl, Nat.mul_one]) (cells_add hc) (ints_one _) (by omega) (by decide)
    fun g' c' w' h1 h2 h3 => h g' c' w' (by show Row _ _ _ _ _ _ _; rw [ints_app]; exact h1) h2 h3
end
/-- The cells of a block that stands new. -/
theorem top_cells (w : World) (cs : List Value) (t : TypeId) : ∀ (j : Nat) (u : Value), cs[j]? = some u → (w.alloc (.cells cs.toArray t)).cell? ⟨w.heap.size, 0 + j, none⟩ = some u := fun j u hu => by
  have hb : Blk (w.alloc (.cells cs.toArray t)) w.heap.size t cs.toArray := Blk.new rfl
  rw [Nat.zero_add, hb.cell j]
  simpa using hu
theorem row_cells {w : World} {g e size n c : Nat} {xs : List Value} (h : Row w g e size n c xs) : ∀ (j : Nat) (u : Value), xs[j]? = some u → w.cell? ⟨g, 0 + j, none⟩ = some u := fun j u hu => by
  rw [Nat.zero_add]
  exact h.cell hu
end Go.Proofs.Ytihbaieiempjeaa
