/- Registers: a row of eight words. -/
import Derived.Test.YtihbaieiempjeaaMulI
namespace Go.Proofs.Ytihbaieiempjeaa
open Go.RowKit

theorem infoW : (Try.prog.info? 25).map (fun i => (i.zero, i.size, i.bytes)) = some (some (.slice none 0 0), 1, 24) := by kernel_rfl
/-- A row of eight words, each with room for four wires. -/
def Regs (w : World) (g c : Nat) (rs : List (List Int)) : Prop :=
  ∃ vals : List Value, Row w g 25 1 8 c vals ∧ ∀ (j : Nat) (ws : List Int), rs[j]? = some ws → ∃ b off k, vals[j]? = some (.slice (some ⟨b, off, none⟩) 4 k) ∧ 4 ≤ k ∧ Wd w (some ⟨b, off, none⟩) ws
section
variable {w w' : World} {g c : Nat} {rs : List (List Int)}
theorem Regs.at_ (h : Regs w g c rs) {j : Nat} {ws : List Int} (hj : rs[j]? = some ws) : ∃ b off k, w.cell? ⟨g, j, none⟩ = some (.slice (some ⟨b, off, none⟩) 4 k) ∧ 4 ≤ k ∧ Wd w (some ⟨b, off, none⟩) ws := by
  obtain ⟨vals, h1, h2⟩ := h
  obtain ⟨b, off, k, e, hk, hw⟩ := h2 j ws hj
  exact ⟨b, off, k, h1.cell e, hk, hw⟩
theorem Regs.lt (h : Regs w g c rs) : g < w.heap.size := by
  obtain ⟨vals, h1, _⟩ := h
  exact h1.lt
theorem Regs.cap (h : Regs w g c rs) : 8 ≤ c := by
  obtain ⟨vals, h1, _⟩ := h
  exact h1.cap
theorem Regs.below (h : Regs w g c rs) (hb : Below w.heap.size w w') : Regs w' g c rs := by
  obtain ⟨vals, h1, h2⟩ := h
  refine ⟨vals, h1.below hb, fun j ws hj => ?_⟩
  obtain ⟨b, off, k, e, hk, hw⟩ := h2 j ws hj
  exact ⟨b, off, k, e, hk, hw.below hb⟩
theorem Regs.stay {T lo : Nat} (h : Regs w g c rs) (hs : Stay T lo w w') (h1 : 3 ≠ T) (h2 : 25 ≠ T) : Regs w' g c rs := by
  obtain ⟨vals, q1, q2⟩ := h
  refine ⟨vals, hs.row q1 h2 (by decide), fun j ws hj => ?_⟩
  obtain ⟨b, off, k, e, hk, hw⟩ := q2 j ws hj
  exact ⟨b, off, k, e, hk, hw.stay hs h1⟩
theorem Regs.heap {X : World} (h : Regs w g c rs) (e : X.heap = w.heap) : Regs X g c rs := by
  obtain ⟨vals, q1, q2⟩ := h
  refine ⟨vals, by unfold Row World.ownsRow at q1 ⊢; rw [e]; exact q1, fun j ws hj => ?_⟩
  obtain ⟨b, off, k, e1, hk, hw⟩ := q2 j ws hj
  exact ⟨b, off, k, e1, hk, hw.heap e⟩
/-- Whatever is stored into another block leaves the registers. -/
theorem Wd.set_ {A : Option Addr} {xs : List Int} (h : Wd w A xs) {p : Addr} {u : Value} (hp : ∀ b off, A = some ⟨b, off, none⟩ → b ≠ p.block) : Wd (w.setCell p u) A xs := by
  obtain ⟨b, off, cs, m, e, hb, hc⟩ := h
  exact ⟨b, off, cs, m, e, (Below.heap_setCell w p u b (hp b off e)).trans hb, hc⟩
theorem Wd.not_ {A : Option Addr} {xs : List Int} (h : Wd w A xs) {b off q e s n k : Nat} {vs : List Value} (hA : A = some ⟨b, off, none⟩) (hr : Row w q e s n k vs) (hne : e ≠ 3) : b ≠ q := by
  obtain ⟨b', off', cs, m, e1, hb, _⟩ := h
  rw [hA] at e1
  injection e1 with e1
  injection e1 with e1
  subst e1
  rintro rfl
  obtain ⟨_, cur, h1, _⟩ := hr.parts
  rw [h1] at hb
  injection hb with hb
  injection hb with _ h2 _
  exact hne h2
/-- One register is set. -/
theorem Regs.set_ (h : Regs w g c rs) {j : Nat} (hj : j < rs.length) {b off k : Nat} {ws : List Int} (hk : 4 ≤ k) (hw : Wd w (some ⟨b, off, none⟩) ws) :
    Regs (w.setCell ⟨g, j, none⟩ (.slice (some ⟨b, off, none⟩) 4 k)) g c (rs.set j ws) ∧ w.grownBy (w.setCell ⟨g, j, none⟩ (.slice (some ⟨b, off, none⟩) 4 k)) (some g) := by
  obtain ⟨vals, q1, q2⟩ := h
  have r0 := World.ownsRow.stored (show w.ownsRow 0 25 1 (.slice (some ⟨g, 0, none⟩) 8 c) 8 vals from q1) j (.slice (some ⟨b, off, none⟩) 4 k)
  refine ⟨⟨vals.set j (.slice (some ⟨b, off, none⟩) 4 k), r0.1, fun i us hi => ?_⟩, r0.2⟩
  rw [List.getElem?_set] at hi
  by_cases e : j = i
  · subst e
    rw [if_pos rfl, if_pos hj] at hi
    injection hi with hi
    subst hi
    have hv : j < vals.length := by
      obtain ⟨b', off', k', e', _⟩ := q2 j _ (List.getElem?_eq_getElem hj)
      exact (List.getElem?_eq_some_iff.1 e').1
    refine ⟨b, off, k, by rw [List.getElem?_set, if_pos rfl, if_pos hv], hk, hw.set_ fun b' off' e' => ?_⟩
    injection e' with e'
    injection e' with e1 e2
    subst e1 e2
    exact hw.not_ rfl q1 (by decide)
  · rw [if_neg e] at hi
    obtain ⟨b', off', k', e', hk', hw'⟩ := q2 i us hi
    refine ⟨b', off', k', by rw [List.getElem?_set, if_neg e]; exact e', hk', hw'.set_ fun b'' off'' e'' => ?_⟩
    injection e'' with e''
    injection e'' with e1 e2
    subst e1 e2
    exact hw'.not_ rfl q1 (by decide)
/-- What appends to another row leaves. -/
theorem Regs.grown {q e s n k : Nat} {vs : List Value} (h : Regs w g c rs) (hg : w.grownBy w' (some q)) (hr : Row w q e s n k vs) (h1 : e ≠ 3) (h2 : e ≠ 25) : Regs w' g c rs := by
  obtain ⟨vals, q1, q2⟩ := h
  refine ⟨vals, q1.grown hg (fun hq => ?_), fun j ws hj => ?_⟩
  · subst hq
    obtain ⟨_, c1, k1, _⟩ := q1.parts
    obtain ⟨_, c2, k2, _⟩ := hr.parts
    rw [k1] at k2
    injection k2 with k2
    injection k2 with _ k2 _
    exact h2 k2.symm
  · obtain ⟨b', off', k', e', hk', hw'⟩ := q2 j ws hj
    exact ⟨b', off', k', e', hk', hw'.grown hg (hw'.not_ rfl hr h1)⟩
end
end Go.Proofs.Ytihbaieiempjeaa
