import Derived.Test.YtjknadnknainbaaGreatDoorBase
import Derived.Laws.MakeOwn
import Derived.Maps.OwnSet
/- Rows of structs of numbers, read as their cells one after another. No program is named here. -/
namespace Go.Proofs.YtjknadnknainbaaGreatDoor
open Go.RowKit

theorem made_all (z : Array Value) (v : Value) (m : Nat) (h : ∀ q, z[q % z.size]! = v) : (madeCells z m).toList = List.replicate m v := by
  rw [List.eq_replicate_iff]
  refine ⟨by simp [madeCells], fun x hx => ?_⟩
  simp [madeCells] at hx
  obtain ⟨q, _, rfl⟩ := hx
  simpa using h q
theorem made2 (n : Nat) : (madeCells #[Value.int IntKind.i64 0, Value.int IntKind.i64 0] (n * 2)).toList = List.replicate (n * 2) (.int .i64 0) := by
  refine made_all _ _ _ fun q => ?_
  have h : q % 2 = 0 ∨ q % 2 = 1 := by omega
  show #[Value.int IntKind.i64 0, Value.int IntKind.i64 0][q % 2]! = _
  rcases h with h | h <;> rw [h] <;> rfl
theorem made3 (n : Nat) : (madeCells #[Value.int IntKind.i64 0, Value.int IntKind.i64 0, Value.int IntKind.i64 0] (n * 3)).toList = List.replicate (n * 3) (.int .i64 0) := by
  refine made_all _ _ _ fun q => ?_
  have h : q % 3 = 0 ∨ q % 3 = 1 ∨ q % 3 = 2 := by omega
  show #[Value.int IntKind.i64 0, Value.int IntKind.i64 0, Value.int IntKind.i64 0][q % 3]! = _
  rcases h with h | h | h <;> rw [h] <;> rfl
theorem made4 (n : Nat) : (madeCells #[Value.int IntKind.i64 0, Value.int IntKind.i64 0, Value.int IntKind.i64 0, Value.int IntKind.i64 0] (n * 4)).toList = List.replicate (n * 4) (.int .i64 0) := by
  refine made_all _ _ _ fun q => ?_
  have h : q % 4 = 0 ∨ q % 4 = 1 ∨ q % 4 = 2 ∨ q % 4 = 3 := by omega
  show #[Value.int IntKind.i64 0, Value.int IntKind.i64 0, Value.int IntKind.i64 0, Value.int IntKind.i64 0][q % 4]! = _
  rcases h with h | h | h | h <;> rw [h] <;> rfl
end Go.Proofs.YtjknadnknainbaaGreatDoor
/- A map from numbers to booleans that the call itself has made: what it holds as a function. No program is named here. -/
namespace Go.Proofs.YtjknadnknainbaaGreatDoor
open Go.RowKit Go.Maps

theorem wpList_open {P : Program} {w : World} {ops : Array Oper} {rest : List Oper} {o : Oper} {a : Act} {Q : Exit → Act → World → Prop} (hw : Region.wanted o (yielded ops a.tmps) = true)
    (h : wpList P ops Q ({ o with guard := none } :: rest) a w) : wpList P ops Q (o :: rest) a w := by
  unfold wpList at h ⊢
  rw [if_pos hw]
  rw [if_pos (by simp [Region.wanted])] at h
  exact h
/-- Block b is a map of at most n entries, true at just those numbers where S is. -/
def Seen (P : Program) (k e : TypeId) (w : World) (b n : Nat) (S : Int → Bool) : Prop :=
  ∃ D : DataW Unit, w.ownsMap P k (plainElem P e) b n D ∧ IsMap D ∧ ∀ x : Int, D.atKey (.int .i64 x) (.lit (.bool false)) = .lit (.bool (S x))
section
variable {P : Program} {k e : TypeId} {w w' : World} {b n : Nat} {S : Int → Bool}
theorem Seen.made (h : b = w.heap.size) : Seen P k e (w.alloc (.map #[] 0)) b 0 (fun _ => false) := by
  subst h
  exact ⟨.map [], World.ownsMap_made _ _ _ _, isMap_empty, fun x => rfl⟩
theorem Seen.lt (h : Seen P k e w b n S) : b < w.heap.size := by
  obtain ⟨D, h, _⟩ := h
  exact h.lt
theorem Seen.alloc (h : Seen P k e w b n S) (o : Obj) : Seen P k e (w.alloc o) b n S := by
  obtain ⟨D, h1, h2⟩ := h
  exact ⟨D, h1.alloc o, h2⟩
theorem Seen.drew (h : Seen P k e w b n S) : Seen P k e w.drew b n S := h
theorem Seen.same (h : Seen P k e w b n S) (hb : w'.heap[b]? = w.heap[b]?) : Seen P k e w' b n S := by
  obtain ⟨D, ⟨es, clock, hh, F⟩, h2⟩ := h
  exact ⟨D, ⟨es, clock, hb.trans hh, F⟩, h2⟩
theorem Seen.set_ (h : Seen P k e w b n S) (p : Addr) (u : Value) (hp : b ≠ p.block) : Seen P k e (w.setCell p u) b n S := h.same (Below.heap_setCell w p u b hp)
theorem Seen.below (h : Seen P k e w b n S) (hb : Below w.heap.size w w') : Seen P k e w' b n S := h.same (hb.block b h.lt)
theorem plainElem_bool_inv {H : Type} (he : P.underlying e = some .bool) {v : Value} {z : DataW H × List MemPlace} (h : plainElem P e v = some z) : ∃ x, v = .bool x ∧ z = (.lit (.bool x), []) := by
  unfold plainElem at h
  rw [he] at h
  cases v <;> simp at h
  exact ⟨_, rfl, h.symm⟩
theorem wpList_lookup_seen {ops : Array Oper} {rest : List Oper} {o : Oper} {a : Act} {Q : Exit → Act → World → Prop}
    (hg : o.guard = none) (m x : Operand) (t : TypeId) (hop : o.op = Op.lookup t m x false)
    (ht : P.underlying t = some (.map k e)) (hk : P.underlying k = some (.int .i64)) (he : P.underlying e = some .bool) (hz : (zeroValue e).run P w = .ok (.bool false) w)
    (hm : a.eval m = .map (some b)) (hown : Seen P k e w b n S) (c : Int) (hx : a.eval x = .int .i64 c) (hwf : (Lit.int .i64 c).wf = true)
    (hK : wpList P ops Q rest (a.put o.dst (.bool (S c))) w) : wpList P ops Q (o :: rest) a w := by
  refine wpList_plain hg fun K' hK' => ?_
  obtain ⟨D, h1, h2, h3⟩ := hown
  obtain ⟨v, ps, hrun, hv⟩ := h1.lookup (int_keyed hk) ht hz (plainElem_bool he false) (keyOf_int_mk hk hwf)
  obtain ⟨s, rfl, hs⟩ := plainElem_bool_inv he hv
  rw [h3] at hs
  simp only [Prod.mk.injEq, DataW.lit.injEq, Lit.bool.injEq] at hs
  unfold Oper.wp
  simp [execOp, hop, hm, hx, hrun, Result.andThen]
  rw [hs.1] at hK
  exact hK' _ _ hK
theorem wpList_update_seen {ops : Array Oper} {rest : List Oper} {o : Oper} {a : Act} {Q : Exit → Act → World → Prop}
    (hg : o.guard = none) (m x v : Operand) (t : TypeId) (hop : o.op = Op.mapUpdate t m x v)
    (ht : P.underlying t = some (.map k e)) (hk : P.underlying k = some (.int .i64)) (he : P.underlying e = some .bool)
    (hm : a.eval m = .map (some b)) (hown : Seen P k e w b n S) (hn : n < maxLen) (c : Int) (hx : a.eval x = .int .i64 c) (hv : a.eval v = .bool true) (hwf : (Lit.int .i64 c).wf = true)
    (hK : ∀ w', Seen P k e w' b (n + 1) (fun y => S y || decide (y = c)) → w.grownBy w' (some b) → wpList P ops Q rest (a.put o.dst undef) w') : wpList P ops Q (o :: rest) a w := by
  obtain ⟨D, h1, h2, h3⟩ := hown
  refine wpList_mapUpdate_own (H := Unit) w hg m x v t hop k e (int_keyed hk) ht (plainElem P e) b n D hm h1 hn _ _ _ hx hv (keyOf_int_mk hk hwf) _ _ (plainElem_bool he true) ?_
  intro w' g1 g2
  refine hK w' ⟨_, g1, h2.put _ _, fun y => ?_⟩ g2
  show _ = DataW.lit (Lit.bool (S y || decide (y = c)))
  by_cases hy : y = c
  · subst hy
    rw [atKey_put_same h2 (by trivial), decide_eq_true rfl, Bool.or_true]
  · rw [atKey_put_other (fun e => hy (by injection e)), h3, decide_eq_false hy, Bool.or_false]
end
end Go.Proofs.YtjknadnknainbaaGreatDoor
/- A map from texts to numbers that the call itself has made: what it holds as a function. No program is named here. -/
namespace Go.Proofs.YtjknadnknainbaaGreatDoor
open Go.RowKit Go.Maps Go.WideMaps

theorem wpList_insert_as {P : Program} {w : World} {ops : Array Oper} {rest : List Oper} {o : Oper} {a : Act} {Q : Exit → Act → World → Prop} {t : TypeId} {m x v : Operand} (hop : o.op = Op.insert t m x v)
    (h : wpList P ops Q ({ o with op := Op.mapUpdate t m x v } :: rest) a w) : wpList P ops Q (o :: rest) a w := by
  obtain ⟨dst, op, type, pos, after, guard⟩ := o
  subst hop
  exact h
/-- Block b is a map of at most n entries: what it holds at each text, 0 where it holds nothing. -/
def Kmap (P : Program) (k e : TypeId) (w : World) (b n : Nat) (S : List UInt8 → Int) : Prop :=
  ∃ D : DataW Unit, w.ownsMap P k (plainElem P e) b n D ∧ IsMap D ∧ ∀ x : List UInt8, D.atKey (.string x) (.lit (.int .i64 0)) = .lit (.int .i64 (S x))
section
variable {P : Program} {k e : TypeId} {w w' : World} {b n : Nat} {S : List UInt8 → Int}
theorem Kmap.made (h : b = w.heap.size) : Kmap P k e (w.alloc (.map #[] 0)) b 0 (fun _ => 0) := by
  subst h
  exact ⟨.map [], World.ownsMap_made _ _ _ _, isMap_empty, fun x => rfl⟩
theorem Kmap.look (h : Kmap P k e w b n S) {t : TypeId} (ht : P.underlying t = some (.map k e)) (hk : P.underlying k = some .string) (he : P.underlying e = some (.int .i64)) (hz : (zeroValue e).run P w = .ok (.int .i64 0) w)
    (x : List UInt8) (hx : x.length ≤ maxLen) : (Instr.lookup t (.map (some b)) (.string ⟨x.toArray⟩) false).run P w = .ok (.int .i64 (S x)) w := by
  obtain ⟨D, h1, h2, h3⟩ := h
  obtain ⟨c, hrun, hat, _⟩ := h1.lookup_int (string_keyed hk) ht he hz (keyOf_string_mk (s := ⟨x.toArray⟩) hk (by show x.toArray.size ≤ maxLen; rw [List.size_toArray]; exact hx))
  have e1 : (ByteArray.mk x.toArray).data.toList = x := rfl
  rw [e1, h3 x] at hat
  simp only [DataW.lit.injEq, Lit.int.injEq, true_and] at hat
  rw [hrun, hat]
theorem wpList_insert_k {ops : Array Oper} {rest : List Oper} {o : Oper} {a : Act} {Q : Exit → Act → World → Prop}
    (hg : o.guard = none) (m x v : Operand) (t : TypeId) (hop : o.op = Op.insert t m x v)
    (ht : P.underlying t = some (.map k e)) (hk : P.underlying k = some .string) (he : P.underlying e = some (.int .i64))
    (hm : a.eval m = .map (some b)) (hown : Kmap P k e w b n S) (hn : n < maxLen) (c : List UInt8) (y : Int) (hx : a.eval x = .string ⟨c.toArray⟩) (hv : a.eval v = .int .i64 y) (hc : c.length ≤ maxLen) (hwf : (Lit.int .i64 y).wf = true)
    (hK : ∀ w', Kmap P k e w' b (n + 1) (fun z => if z = c then y else S z) → w.grownBy w' (some b) → wpList P ops Q rest (a.put o.dst undef) w') : wpList P ops Q (o :: rest) a w := by
  obtain ⟨D, h1, h2, h3⟩ := hown
  refine wpList_insert_as hop ?_
  refine wpList_mapUpdate_own (H := Unit) w (o := { o with op := Op.mapUpdate t m x v }) hg m x v t rfl k e (string_keyed hk) ht (plainElem P e) b n D hm h1 hn _ _ _ hx hv (keyOf_string_mk (s := ⟨c.toArray⟩) hk (by show c.toArray.size ≤ maxLen; rw [List.size_toArray]; exact hc)) _ _ (plainElem_int he hwf) ?_
  intro w' g1 g2
  refine hK w' ⟨_, g1, h2.put _ _, fun z => ?_⟩ g2
  have e1 : (ByteArray.mk c.toArray).data.toList = c := rfl
  rw [e1]
  by_cases hy : z = c
  · subst hy
    refine (atKey_put_same (k := .string z) h2 trivial _ _).trans ?_
    show _ = DataW.lit (.int .i64 (if z = z then y else S z))
    rw [if_pos rfl]
  · have hne : Lit.string z ≠ Lit.string c := fun e => hy (by injection e)
    refine (atKey_put_other hne _ _).trans ((h3 z).trans ?_)
    show _ = DataW.lit (.int .i64 (if z = c then y else S z))
    rw [if_neg hy]
end
end Go.Proofs.YtjknadnknainbaaGreatDoor
