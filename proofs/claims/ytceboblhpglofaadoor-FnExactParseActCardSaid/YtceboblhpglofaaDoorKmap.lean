/- A map from texts to numbers that the call itself has made: what it holds as a function. No program is named here. -/
import Derived.Test.YtceboblhpglofaaDoorBase
import Derived.Maps.OwnSet
namespace Go.Proofs.YtceboblhpglofaaDoor
open Go.RowKit Go.Maps Go.WideMaps

theorem wpList_insert_as {P : Program} {w : World} {ops : Array Oper} {rest : List Oper} {o : Oper} {a : Act} {Q : Exit → Act → World → Prop} {t : TypeId} {m x v : Operand} (hop : o.op = Op.insert t m x v)
    (h : wpList P ops Q ({ o with op := Op.mapUpdate t m x v } :: rest) a w) : wpList P ops Q (o :: rest) a w := by
  obtain ⟨dst, op, type, pos, after, guard⟩ := o
  subst hop
  exact h
/-- Block b is a map of at most n entries: what it holds at each text, 0 where it holds nothing. -/
def Kmap (P : Program) (k e : TypeId) (w : World) (b n : Nat) (S : List UInt8 → Int) : Prop :=
  ∃ D : DataW Unit, w.ownsMap P k (plainElem P e) b n D ∧ IsMap D ∧ ∀ x : List UInt8, D.atKey (.string x) (.lit (.int .i64 0)) = .lit (.int .i64 (S x))
section
variable {P : Program} {k e : TypeId} {w w' : World} {b n : Nat} {S : List UInt8 → Int}
theorem Kmap.made (h : b = w.heap.size) : Kmap P k e (w.alloc (.map #[] 0)) b 0 (fun _ => 0) := by
  subst h
  exact ⟨.map [], World.ownsMap_made _ _ _ _, isMap_empty, fun x => rfl⟩
theorem Kmap.look (h : Kmap P k e w b n S) {t : TypeId} (ht : P.underlying t = some (.map k e)) (hk : P.underlying k = some .string) (he : P.underlying e = some (.int .i64)) (hz : (zeroValue e).run P w = .ok (.int .i64 0) w)
    (x : List UInt8) (hx : x.length ≤ maxLen) : (Instr.lookup t (.map (some b)) (.string ⟨x.toArray⟩) false).run P w = .ok (.int .i64 (S x)) w := by
  obtain ⟨D, h1, h2, h3⟩ := h
  obtain ⟨c, hrun, hat, _⟩ := h1.lookup_int (string_keyed hk) ht he hz (keyOf_string_mk (s := ⟨x.toArray⟩) hk (by show x.toArray.size ≤ maxLen; rw [List.size_toArray]; exact hx))
  have e1 : (ByteArray.mk x.toArray).data.toList = x := rfl
  rw [e1, h3 x] at hat
  simp only [DataW.lit.injEq, Lit.int.injEq, true_and] at hat
  rw [hrun, hat]
theorem wpList_insert_k {ops : Array Oper} {rest : List Oper} {o : Oper} {a : Act} {Q : Exit → Act → World → Prop}
    (hg : o.guard = none) (m x v : Operand) (t : TypeId) (hop : o.op = Op.insert t m x v)
    (ht : P.underlying t = some (.map k e)) (hk : P.underlying k = some .string) (he : P.underlying e = some (.int .i64))
    (hm : a.eval m = .map (some b)) (hown : Kmap P k e w b n S) (hn : n < maxLen) (c : List UInt8) (y : Int) (hx : a.eval x = .string ⟨c.toArray⟩) (hv : a.eval v = .int .i64 y) (hc : c.length ≤ maxLen) (hwf : (Lit.int .i64 y).wf = true)
    (hK : ∀ w', Kmap P k e w' b (n + 1) (fun z => if z = c then y else S z) → w.grownBy w' (some b) → wpList P ops Q rest (a.put o.dst undef) w') : wpList P ops Q (o :: rest) a w := by
  obtain ⟨D, h1, h2, h3⟩ := hown
  refine wpList_insert_as hop ?_
  refine wpList_mapUpdate_own (H := Unit) w (o := { o with op := Op.mapUpdate t m x v }) hg m x v t rfl k e (string_keyed hk) ht (plainElem P e) b n D hm h1 hn _ _ _ hx hv (keyOf_string_mk (s := ⟨c.toArray⟩) hk (by show c.toArray.size ≤ maxLen; rw [List.size_toArray]; exact hc)) _ _ (plainElem_int he hwf) ?_
  intro w' g1 g2
  refine hK w' ⟨_, g1, h2.put _ _, fun z => ?_⟩ g2
  have e1 : (ByteArray.mk c.toArray).data.toList = c := rfl
  rw [e1]
  by_cases hy : z = c
  · subst hy
    refine (atKey_put_same (k := .string z) h2 trivial _ _).trans ?_
    show _ = DataW.lit (.int .i64 (if z = z then y else S z))
    rw [if_pos rfl]
  · have hne : Lit.string z ≠ Lit.string c := fun e => hy (by injection e)
    refine (atKey_put_other hne _ _).trans ((h3 z).trans ?_)
    show _ = DataW.lit (.int .i64 (if z = c then y else S z))
    rw [if_neg hy]
end
end Go.Proofs.YtceboblhpglofaaDoor
