/- A circuit that is being built: a block that holds its slices, the row of its gates; what a step of the building leaves as it was. -/
import Derived.Test.YtihbaieiempjeaaCirc
import Derived.Maps.AppendAt
namespace Go.Proofs.Ytihbaieiempjeaa
open Go.RowKit

theorem own_ne {w : World} {b1 b2 e1 e2 s1 s2 n1 n2 : Nat} {v1 v2 : Value} {xs ys : List Value} (h1 : w.ownsRow b1 e1 s1 v1 n1 xs) (h2 : w.ownsRow b2 e2 s2 v2 n2 ys) (hne : e1 ≠ e2) :
    ∀ q p, v1.ownBlock = some q → v2.ownBlock = some p → q ≠ p := by
  intro q p hq hp e
  subst e
  rcases h1.2 with ⟨hv, _⟩ | ⟨g, cap, cur, hv, hg, hh, _⟩
  · rw [hv] at hq; cases hq
  · rcases h2.2 with ⟨hv2, _⟩ | ⟨g2, cap2, cur2, hv2, hg2, hh2, _⟩
    · rw [hv2] at hp; cases hp
    · rw [hv] at hq
      rw [hv2] at hp
      have e1' : g = q := Option.some.inj hq
      have e2' : g2 = q := Option.some.inj hp
      subst e1'
      subst e2'
      rw [hh] at hh2
      injection hh2 with hh2
      injection hh2 with _ h3 _
      exact hne h3
theorem own_off {w : World} {base e size n o t : Nat} {v : Value} {xs : List Value} {cs : Array Value} (h : w.ownsRow base e size v n xs) (k : Blk w o t cs) (hne : e ≠ t) : ∀ q, v.ownBlock = some q → base ≤ q ∧ q < w.heap.size ∧ q ≠ o := by
  intro q hq
  refine ⟨(h.lt q hq).1, (h.lt q hq).2, ?_⟩
  rintro rfl
  rcases h.2 with ⟨hv, _⟩ | ⟨g, cap, cur, hv, _, hh, _⟩
  · rw [hv] at hq
    cases hq
  · rw [hv] at hq
    have e1 : g = q := Option.some.inj hq
    subst e1
    unfold Blk at k
    rw [hh] at k
    injection k with k
    injection k with _ k _
    exact hne k
theorem own_setne {w : World} {base e size n : Nat} {v : Value} {xs : List Value} {p : Addr} {u : Value} (h : w.ownsRow base e size v n xs) (hne : ∀ q, v.ownBlock = some q → q ≠ p.block) : (w.setCell p u).ownsRow base e size v n xs := by
  refine ⟨h.1, ?_⟩
  rcases h.2 with ⟨hv, hn⟩ | ⟨g, cap, cur, hv, hg, hh, hr⟩
  · exact Or.inl ⟨hv, hn⟩
  · refine Or.inr ⟨g, cap, cur, hv, hg, ?_, hr⟩
    rw [Below.heap_setCell w p u g (hne g (by rw [hv]; rfl))]
    exact hh
theorem own_ne_obj {w : World} {base e size n o t : Nat} {v : Value} {xs : List Value} {cs : Array Value} (h : w.ownsRow base e size v n xs) (k : Blk w o t cs) (hne : e ≠ t) : ∀ q, v.ownBlock = some q → q ≠ o := fun q hq => (own_off h k hne q hq).2.2

abbrev TG : Nat := 70
def Other (T : Nat) (w : World) (i : Nat) : Prop := ∀ cs t m, w.heap[i]? = some (.cells cs t m) → t ≠ T ∧ t ≠ TG
/-- Old blocks below a place, and all blocks but those of the building's own types, stand as they stood. -/
structure Stay (T lo : Nat) (w w' : World) : Prop where
  os : w'.os = w.os
  tape : w'.tape = w.tape
  output : w'.output = w.output
  size : w.heap.size ≤ w'.heap.size
  block : ∀ i, i < w.heap.size → (i < lo ∨ Other T w i) → w'.heap[i]? = w.heap[i]?
section
variable {T lo : Nat} {w w1 w' : World}
theorem Stay.refl (T lo : Nat) (w : World) : Stay T lo w w := ⟨rfl, rfl, rfl, Nat.le_refl _, fun _ _ _ => rfl⟩
theorem Stay.trans (h1 : Stay T lo w w1) (h2 : Stay T lo w1 w') : Stay T lo w w' :=
  ⟨h2.os.trans h1.os, h2.tape.trans h1.tape, h2.output.trans h1.output, Nat.le_trans h1.size h2.size, fun i hi ho => by
    have e := h1.block i hi ho
    refine (h2.block i (Nat.lt_of_lt_of_le hi h1.size) ?_).trans e
    rcases ho with ho | ho
    · exact .inl ho
    · exact .inr fun cs t m hc => ho cs t m (e.symm.trans hc)⟩
theorem Stay.below (h : Stay T lo w w') (hl : lo ≤ w.heap.size) : Below lo w w' :=
  ⟨h.os, h.tape, h.output, h.size, fun i hi => h.block i (by omega) (.inl hi)⟩
theorem Stay.of_below (h : Below w.heap.size w w') : Stay T lo w w' := ⟨h.os, h.tape, h.output, h.size, fun i hi _ => h.block i hi⟩
theorem Stay.own (h : Stay T lo w w') {base e size n : Nat} {v : Value} {xs : List Value} (k : w.ownsRow base e size v n xs) (h1 : e ≠ T) (h2 : e ≠ TG) : w'.ownsRow base e size v n xs := by
  refine ⟨k.1, ?_⟩
  rcases k.2 with hv | ⟨g, cap, cur, hv, hg, hh, r⟩
  · exact .inl hv
  · have hlt : g < w.heap.size := by
      rcases Nat.lt_or_ge g w.heap.size with h0 | h0
      · exact h0
      · rw [Array.getElem?_eq_none h0] at hh; cases hh
    refine .inr ⟨g, cap, cur, hv, hg, (h.block g hlt (.inr fun cs t m hc => ?_)).trans hh, r⟩
    rw [hh] at hc
    injection hc with hc
    injection hc with _ e2 _
    subst e2
    exact ⟨h1, h2⟩
theorem Stay.row (h : Stay T lo w w') {g e size n c : Nat} {xs : List Value} (k : Row w g e size n c xs) (h1 : e ≠ T) (h2 : e ≠ TG) : Row w' g e size n c xs := h.own k h1 h2
theorem Stay.blk (h : Stay T lo w w') {b t : Nat} {cs : Array Value} (k : Blk w b t cs) (h1 : t ≠ T) (h2 : t ≠ TG) : Blk w' b t cs :=
  (h.block b k.lt (.inr fun cs' t' m hc => by
    unfold Blk at k
    rw [k] at hc
    injection hc with hc
    injection hc with _ e2 _
    subst e2
    exact ⟨h1, h2⟩)).trans k
end
def Bld (T : Nat) (w : World) (lo bp : Nat) (gs : List Gt) (O : Value) : Prop :=
  ∃ A c, Blk w bp T #[.slice A gs.length c, O] ∧ lo ≤ bp ∧ w.ownsRow lo TG 3 (.slice A gs.length c) gs.length (ints (flatG gs))
/-- A word: a slice of numbers whose block is known. -/
def Wd (w : World) (A : Option Addr) (xs : List Int) : Prop :=
  ∃ b off cs m, A = some ⟨b, off, none⟩ ∧ w.heap[b]? = some (.cells cs 3 m) ∧ ∀ (i : Nat) (v : Value), (ints xs)[i]? = some v → cs[off + i]? = some v
section
variable {T lo : Nat} {w w' : World} {A : Option Addr} {xs : List Int}
theorem Wd.lt {b off : Nat} (h : Wd w (some ⟨b, off, none⟩) xs) : b < w.heap.size := by
  obtain ⟨b', off', cs, m, e, hb, hc⟩ := h
  injection e with e
  injection e with e1 e2
  subst e1 e2
  rcases Nat.lt_or_ge b w.heap.size with h0 | h0
  · exact h0
  · rw [Array.getElem?_eq_none h0] at hb; cases hb
theorem Wd.at_ (h : Wd w A xs) : ∃ b off, A = some ⟨b, off, none⟩ := by
  obtain ⟨b, off, _, _, e, _⟩ := h
  exact ⟨b, off, e⟩
theorem Wd.cell {b off : Nat} (h : Wd w (some ⟨b, off, none⟩) xs) {i : Nat} {x : Int} (hx : xs[i]? = some x) : w.cell? ⟨b, off + i, none⟩ = some (.int .i64 x) := by
  obtain ⟨b', off', cs, m, e, hb, hc⟩ := h
  injection e with e
  injection e with e1 e2
  subst e1 e2
  have := hc i _ (ints_get hx)
  simp [World.cell?, hb, this]
theorem Wd.stay (h : Wd w A xs) (hs : Stay T lo w w') (h1 : 3 ≠ T) : Wd w' A xs := by
  obtain ⟨b, off, cs, m, e, hb, hc⟩ := h
  have hlt : b < w.heap.size := by
    rcases Nat.lt_or_ge b w.heap.size with h0 | h0
    · exact h0
    · rw [Array.getElem?_eq_none h0] at hb; cases hb
  refine ⟨b, off, cs, m, e, (hs.block b hlt (.inr fun cs' t m' hc' => ?_)).trans hb, hc⟩
  rw [hb] at hc'
  injection hc' with hc'
  injection hc' with _ e2 _
  subst e2
  exact ⟨h1, by decide⟩
theorem Wd.below (h : Wd w A xs) (hb : Below w.heap.size w w') : Wd w' A xs := by
  obtain ⟨b, off, cs, m, e, hh, hc⟩ := h
  have hlt : b < w.heap.size := by
    rcases Nat.lt_or_ge b w.heap.size with h0 | h0
    · exact h0
    · rw [Array.getElem?_eq_none h0] at hh; cases hh
  exact ⟨b, off, cs, m, e, (hb.block b hlt).trans hh, hc⟩
theorem Wd.of_row {g n c : Nat} (h : RowI w g n c xs) : Wd w (some ⟨g, 0, none⟩) xs := by
  obtain ⟨h0, cur, h1, h2, h3, h4, h5⟩ := Row.parts h
  refine ⟨g, 0, cur, (0, 0), rfl, h1, fun i v hv => ?_⟩
  rw [Nat.zero_add]
  rw [← h5, List.getElem?_take] at hv
  split at hv
  · simpa using hv
  · cases hv
/-- A part of a word that begins further on. -/
theorem Wd.drop {b off : Nat} (h : Wd w (some ⟨b, off, none⟩) xs) (k : Nat) : Wd w (some ⟨b, off + k, none⟩) (xs.drop k) := by
  obtain ⟨b', off', cs, m, e, hb, hc⟩ := h
  injection e with e
  injection e with e1 e2
  subst e1 e2
  refine ⟨b, off + k, cs, m, rfl, hb, fun i v hv => ?_⟩
  rw [Nat.add_assoc]
  refine hc (k + i) v ?_
  unfold ints at hv ⊢
  rw [List.getElem?_map, List.getElem?_drop] at hv
  rw [List.getElem?_map]
  exact hv
theorem Wd.cells (h : Wd w A xs) : Cells w w.heap.size A (ints xs) := fun _ => by
  obtain ⟨b, off, rfl⟩ := h.at_
  refine ⟨b, off, rfl, h.lt, fun i v hv => ?_⟩
  obtain ⟨x, hx, rfl⟩ : ∃ x, xs[i]? = some x ∧ Value.int .i64 x = v := by
    unfold ints at hv
    rw [List.getElem?_map] at hv
    cases hx : xs[i]? with
    | none => rw [hx] at hv; cases hv
    | some x => rw [hx] at hv; injection hv with hv; exact ⟨x, rfl, hv⟩
  exact h.cell hx
end
theorem int3_one (a b c : Int) : ∀ u ∈ [Value.int .i64 a, .int .i64 b, .int .i64 c], u.oneCell' = true := by
  intro u hu
  simp at hu
  rcases hu with rfl | rfl | rfl <;> rfl
/-- A gate is appended: the row behind it, the block that is stored into. -/
theorem bld_put {T lo bp : Nat} {w w1 : World} {gs : List Gt} {g : Gt} {O : Value} {A A' : Option Addr} {c c' : Nat} (hT : TG ≠ T) (hb : Blk w bp T #[.slice A gs.length c, O]) (hl : lo ≤ bp) (ho : w.ownsRow lo TG 3 (.slice A gs.length c) gs.length (ints (flatG gs)))
    (ho' : w1.ownsRow lo TG 3 (.slice A' (gs.length + 1) c') (gs.length + 1) (ints (flatG gs) ++ ints (threeG g))) (hg : w.grownBy w1 (Value.slice A gs.length c).ownBlock) :
    Blk w1 bp T #[.slice A gs.length c, O] ∧ Bld T (w1.setCell ⟨bp, 0, none⟩ (.slice A' (gs.length + 1) c')) lo bp (gs ++ [g]) O ∧ Stay T lo w (w1.setCell ⟨bp, 0, none⟩ (.slice A' (gs.length + 1) c')) := by
  have hb1 := gr_blk hg hb (own_ne_obj ho hb hT)
  have hlen : (gs ++ [g]).length = gs.length + 1 := by simp
  refine ⟨hb1, ⟨A', c', ?_, hl, ?_⟩, ⟨hg.os, hg.tape, hg.output, by have := hg.size; simpa using this, fun i hi hs => ?_⟩⟩
  · rw [hlen]
    exact hb1.set_ 0 _
  · rw [hlen, flatG_snoc, ints_app]
    exact own_setne ho' (own_ne_obj ho' hb1 hT)
  · have hi1 : i ≠ bp := by
      rcases hs with hs | hs
      · omega
      · rintro rfl
        exact (hs _ _ _ hb).1 rfl
    refine (Below.heap_setCell w1 _ _ i hi1).trans (hg.block i hi fun e => ?_)
    rcases hs with hs | hs
    · have := (ho.lt i e.symm).1
      omega
    · rcases ho.2 with ⟨hv, _⟩ | ⟨q, cap, cur, hv, _, hh, _⟩
      · rw [hv] at e
        cases e
      · rw [hv] at e
        have e : some i = some q := e
        injection e with e
        subst e
        exact (hs _ _ _ hh).2 rfl
end Go.Proofs.Ytihbaieiempjeaa
