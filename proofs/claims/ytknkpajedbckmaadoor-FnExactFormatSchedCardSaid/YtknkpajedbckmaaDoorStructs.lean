/- Arguments that are slices of structs of numbers: their cells, one after another. No program is named here. -/
import Derived.Test.YtknkpajedbckmaaDoorBase
namespace Go.Proofs.YtknkpajedbckmaaDoor
open Go.RowKit Go.ChangeShapes Go.WideShapes Go.Deep

theorem list_of (n : Nat) (R : Nat → Int → Prop) (h : ∀ q, q < n → ∃ x, R q x) : ∃ xs : List Int, xs.length = n ∧ ∀ q x, xs[q]? = some x → R q x := by
  induction n with
  | zero => exact ⟨[], rfl, fun q x hq => by simp at hq⟩
  | succ n ih =>
    obtain ⟨xs, hl, hx⟩ := ih fun q hq => h q (by omega)
    obtain ⟨y, hy⟩ := h n (by omega)
    refine ⟨xs ++ [y], by simp [hl], fun q x hq => ?_⟩
    rw [List.getElem?_append] at hq
    split at hq
    · exact hx q x hq
    · have h1 := (List.getElem?_eq_some_iff.1 hq).1
      simp at h1
      have h2 : q = n := by omega
      subst h2
      rw [hl] at hq
      simp at hq
      exact hq ▸ hy
def isI64 (P : Program) (t : TypeId) : Bool := match P.underlying t with
  | some (.int .i64) => true
  | _ => false
theorem isI64_under {P : Program} {t : TypeId} (h : isI64 P t = true) : P.underlying t = some (.int .i64) := by
  unfold isI64 at h
  split at h
  · assumption
  · cases h
def allI64 (P : Program) (fs : Array Field) : Bool := fs.toList.all fun f => isI64 P f.type
theorem allI64_at {P : Program} {fs : Array Field} (h : allI64 P fs = true) {j : Nat} {f : Field} (hf : fs[j]? = some f) : P.underlying f.type = some (.int .i64) := by
  unfold allI64 at h
  rw [List.all_eq_true] at h
  refine isI64_under (h f ?_)
  have h1 := Array.mem_of_getElem? hf
  simpa using h1
section
variable {H : Type} {enc : TypeId × Value → H} {P : Program} {W : World}
theorem view_structsF {t e : TypeId} {v : Value} {fs : Array Field} {fuel F : Nat} {y : DataW H × List MemPlace} (ht : P.underlying t = some (.slice e)) (he : P.underlying e = some (.struct fs))
    (hone : oneCellFields P fs = true) (hint : allI64 P fs = true) (hF : fs.size = F) (hC : P.cellsOf e = F) (hF0 : 0 < F)
    (hf : DataW.trod enc P W 0 (fun _ => true) true fuel t [v] = some y) (hlt : ∀ x ∈ y.2, x.block < W.heap.size) :
    ∃ A c n xs, v = .slice A n c ∧ xs.length = n * F ∧ Cells W W.heap.size A (ints xs) ∧ n ≤ maxLen := by
  rcases open_slice ht hf with ⟨hcs, hx⟩ | ⟨a, len, cap, m, n, D, Pl, hcs, _, hl, hm, hmm, hx, hi⟩
  · simp at hcs
    subst hcs
    exact ⟨none, 0, 0, [], rfl, by simp, Cells.nil_, by simp⟩
  · simp at hcs
    subst hcs
    simp only [if_true] at hmm
    subst hmm
    have hcell : ∀ q, q < len * F → ∃ x, W.cell? (a.add q) = some (.int .i64 x) := by
      intro q hq
      have hqi : q / F < len := by
        rw [Nat.div_lt_iff_lt_mul hF0]; exact hq
      obtain ⟨cs', hc, ht'⟩ := hi (q / F) (by omega)
      rw [hC] at hc
      obtain ⟨ys, n', hn', hy, hlen, hyl, hff⟩ := DataW.trod_struct he ht'
      obtain ⟨_, hcl, hat⟩ := World.cells?_some hc
      have hj : q % F < F := Nat.mod_lt _ hF0
      obtain ⟨f, hfj⟩ : ∃ f, fs[q % F]? = some f := ⟨_, Array.getElem?_eq_getElem (by omega)⟩
      obtain ⟨ho, hk⟩ := hone_of hone (q % F) f hfj
      have h1 := hff (q % F) f hfj
      rw [ho, hk] at h1
      have hv : cs'[q % F]? = some (cs'[q % F]'(by omega)) := List.getElem?_eq_getElem (by omega)
      have hone' : (cs'.drop (q % F)).take 1 = [cs'[q % F]'(by omega)] := by
        rw [List.drop_eq_getElem_cons (by omega)]
        rfl
      rw [hone', List.getElem?_eq_getElem (by omega)] at h1
      obtain ⟨x, ex, _, _⟩ := DataW.trod_int (allI64_at hint hfj) h1
      have ex' : cs'[q % F]'(by omega) = .int .i64 x := by simpa using ex
      refine ⟨x, ?_⟩
      have h2 := hat (q % F) hj
      rw [hv, ex', Deep.add_add] at h2
      rw [← h2, show q / F * F + q % F = q from Nat.div_add_mod' q F]
    obtain ⟨xs, hxl, hxs⟩ := list_of (len * F) (fun q x => W.cell? (a.add q) = some (.int .i64 x)) hcell
    refine ⟨some a, m, len, xs, rfl, hxl, fun h0 => ?_, by omega⟩
    rw [ints_length, hxl] at h0
    obtain ⟨b, off, spot⟩ := a
    have hspot : spot = none := by
      obtain ⟨x, hx0⟩ := hcell 0 h0
      simpa [Addr.add] using World.cell?_spot hx0
    subst hspot
    have hlen0 : 0 < len := by
      rcases Nat.eq_zero_or_pos len with h | h
      · subst h; simp at h0
      · exact h
    have hle : len ≤ m * F := Nat.le_trans hl (Nat.le_mul_of_pos_right _ hF0)
    refine ⟨b, off, rfl, hlt (.cell b off) (by rw [hx, hC]; exact List.mem_append_left _ (MemPlace.mem_row.2 ⟨0, by omega, by simp⟩)), fun i v hv => ?_⟩
    simp only [ints, List.getElem?_map, Option.map_eq_some_iff] at hv
    obtain ⟨x, hx1, rfl⟩ := hv
    have h3 := hxs i x hx1
    rw [add_plain] at h3
    exact h3
theorem view_structs {r : Reach} {b0 : Nat} {t e : TypeId} {v : Value} {d : DataW H} {ps : List MemPlace} {fs : Array Field} {F : Nat} (ht : P.underlying t = some (.slice e)) (he : P.underlying e = some (.struct fs))
    (hone : oneCellFields P fs = true) (hint : allI64 P fs = true) (hF : fs.size = F) (hC : P.cellsOf e = F) (hF0 : 0 < F) (hv : Value.okWide P W r b0 t v)
    (h : DataW.Trod enc P W 0 (fun _ => true) true t v d ps) (hlt : ∀ x ∈ ps, x.block < W.heap.size) :
    ∃ A c n xs, v = .slice A n c ∧ xs.length = n * F ∧ Cells W W.heap.size A (ints xs) ∧ n ≤ maxLen := by
  obtain ⟨a0, len, cap, rfl⟩ := okWide_slice ht hv
  obtain ⟨fuel, hf⟩ := h
  exact view_structsF ht he hone hint hF hC hF0 (by simpa [Value.cells] using hf) hlt
end
end Go.Proofs.YtknkpajedbckmaaDoor
