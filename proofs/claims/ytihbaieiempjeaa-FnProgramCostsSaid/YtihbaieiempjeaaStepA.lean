/- An append of one wire inside a region that draws its order. -/
import Derived.Test.YtihbaieiempjeaaNib
import Derived.Deep.AppendLies
import Derived.Deep.RegionHeld3
namespace Go.Proofs.Ytihbaieiempjeaa
open Go.RowKit

theorem app_int_step {w : World} {ops : Array Oper} {o : Oper} {a : Act} {K : Act → World → Prop} {Q : Exit → Act → World → Prop} {E : Prop} (hgd : o.guard = none) (s x : Operand) (ho : o.op = .call { callee := .builtin .append, args := #[s, x], argTypes := #[25, 25] })
    {g n c : Nat} {L : List Int} (hs : a.eval s = .slice (some ⟨g, 0, none⟩) n c) (hown : RowI w g n c L) {b off m k : Nat} (M : List Int) (hx : a.eval x = .slice (some ⟨b, off, none⟩) m k) (hl : M.length = m)
    (hc : ∀ j u, (ints M)[j]? = some u → w.cell? ⟨b, off + j, none⟩ = some u) (hm : 0 < m) (hb : n + m ≤ 1000000)
    (h : ∀ g' c' w', RowI w' g' (n + m) c' (L ++ M) → w.grownBy w' (some g) → (g' = g ∨ g' = w.heap.size) → K (a.put o.dst (.slice (some ⟨g', 0, none⟩) (n + m) c')) w') :
    if Region.wanted o (yielded ops a.tmps) = true then Oper.wp Try.prog o a w K Q else E := by
  obtain ⟨i, hi, hz0, hz1, hz2⟩ := info_parts infoI
  refine step_append_lies w hgd s x _ ho 0 _ i _ 1 8 Try.underlying25 hi hz0 hz1 hz2 rfl (by decide) _ n (ints L) hs hown ⟨b, off, none⟩ m k (ints M) hx (by rw [ints_length, hl, Nat.mul_one]) (cells_add hc) (ints_one _) hm (by unfold maxLen; omega) (by omega) (Nat.zero_le _) _ rfl ?_
  intro g' c' w' h1 h2 h3 _
  refine h g' c' w' (by show Row _ _ _ _ _ _ _; rw [ints_app]; exact h1) h2 ?_
  rcases h3 with h3 | h3
  · injection h3 with h3
    exact .inl h3.symm
  · exact .inr h3
end Go.Proofs.Ytihbaieiempjeaa
