/- A region that draws its order, whose operations only add to memory but for a forced tail of more than one operation. No program is named here. -/
import Derived.Test.YtceboblhpglofaaDoorGrow4
namespace Go.Proofs.YtceboblhpglofaaDoor
open Go.RowKit

/-- A chain of operations behind all others: its order is forced. -/
theorem tail_run {P : Program} {ops : Array Oper} {Q : Exit → Act → World → Prop} {n : Nat} (hc : Region.chainB .any ops n = true) (htopo : topoB ops = true) :
    ∀ (l2 : List Oper) (k : Nat) (listed : Array Bool) (a : Act) (w : World), n ≤ k → (∀ j, l2[j]? = ops[k + j]?) → listed.size = ops.size → (∀ i, i < k → listed.getD i true = true) →
      (∀ t, k ≤ t → t < ops.size → listed.getD t true = false) → wpList P ops Q l2 a w → wpAny P .any ops Q l2.length listed a w
  | [], k, listed, a, w, hnk, hl, hsz, hdone, hopen, h => by
    have hk : ops.size ≤ k := by
      rcases Nat.lt_or_ge k ops.size with h1 | h1
      · have := hl 0
        simp [h1] at this
      · exact h1
    refine ⟨?_, h⟩
    cases hr : Region.ready .any ops listed with
    | nil => rfl
    | cons t ts =>
      exfalso
      obtain ⟨hu, o, ho, _⟩ := mem_ready.1 (show t ∈ Region.ready .any ops listed by rw [hr]; simp)
      have hlt : t < ops.size := (Array.getElem?_eq_some_iff.1 ho).1
      rw [hdone t (by omega)] at hu
      cases hu
  | o :: l2, k, listed, a, w, hnk, hl, hsz, hdone, hopen, h => by
    have ho : ops[k]? = some o := by simpa using (hl 0).symm
    have hks : k < ops.size := (Array.getElem?_eq_some_iff.1 ho).1
    have hkr : k ∈ Region.ready .any ops listed := by
      refine mem_ready.2 ⟨hopen k (Nat.le_refl _) hks, o, ho, fun e he hb => ?_⟩
      exact getD_both' (hdone _ (topo_spec htopo ho e he hb)) (by rw [hsz]; have := topo_spec htopo ho e he hb; omega)
    refine ⟨fun h0 => (by rw [h0] at hkr; cases hkr), fun i hi => ?_⟩
    have hik : i = k := by
      obtain ⟨hu, oi, hoi, hall⟩ := mem_ready.1 hi
      have hilt : i < ops.size := (Array.getElem?_eq_some_iff.1 hoi).1
      rcases Nat.lt_trichotomy i k with h1 | h1 | h1
      · rw [hdone i h1] at hu
        cases hu
      · exact h1
      · exfalso
        have h2 := List.all_eq_true.1 hc i (List.mem_range.2 hilt)
        simp only [Bool.or_eq_true, decide_eq_true_eq] at h2
        rcases h2 with h2 | h2
        · omega
        · obtain ⟨o', ho', e, he, hb, hon⟩ := Region.waitsFor_spec h2
          have : o' = oi := Option.some.inj (ho'.symm.trans hoi)
          subst this
          have h3 := hall e he hb
          rw [hon, getD_both (hopen (i - 1) (by omega) (by omega))] at h3
          cases h3
    subst hik
    have hrest : ∀ a' w', wpList P ops Q l2 a' w' → wpAny P .any ops Q l2.length (listed.setIfInBounds i true) a' w' := fun a' w' h' =>
      tail_run hc htopo l2 (i + 1) _ a' w' (by omega) (fun j => by have := hl (j + 1); simpa [Nat.add_assoc, Nat.add_comm 1 j] using this) (by simp [hsz])
        (fun q hq => by
          by_cases hqi : q = i
          · subst hqi
            simp [hsz, hks]
          · rw [getD_set_ne true (fun e => hqi e.symm)]
            exact hdone q (by omega))
        (fun t ht hts => by
          rw [getD_set_ne true (by omega)]
          exact hopen t (by omega) hts) h'
    have hw : wpOp P ops Q i (wpList P ops Q l2) a w := by unfold wpOp; simp only [ho]; exact h
    exact wpOp_mono hrest hw
def growTailsB (ops : Array Oper) (n : Nat) : Bool := Region.noSelect ops && topoB ops && apartB ops n && decide (n < ops.size) && Region.sinkB .any ops n && Region.chainB .any ops n
theorem wp_grow_tails {P : Program} {spec : Nat → GSpec} {Q : Exit → Act → World → Prop} {a : Act} {w W : World} {id : Nat} {l : List Oper}
    (n : Nat) (hm : P.follows .mixedOrders = true) (hB : growTailsB l.toArray n = true) (hW : Onward W w.drew) (hstab : ∀ k F, spec k = .any F → ∀ v w w', F v w → Grows w w' → F v w')
    (h : gList P l.toArray (Onward W) Grows spec (fun fs a' => ∀ w', Onward W w' → (∀ j, fs j w') → wpList P l.toArray Q (l.drop n) a' w') 0 (l.take n) Facts.none a) : (Code.region id l.toArray true).wp P Q a w := by
  simp only [growTailsB, Bool.and_eq_true, decide_eq_true_eq] at hB
  obtain ⟨⟨⟨⟨⟨hsel, htopo⟩, hap⟩, hn⟩, hsink⟩, hchain⟩ := hB
  refine wp_region_any hm ?_
  have hnl : n < l.length := by simpa using hn
  have hns : n < l.toArray.size := hn
  have htl : (l.take n).length = n := by simp; omega
  have hdl : (l.drop n).length = l.toArray.size - n := by simp
  have h2 := gList_walk (n := 0) (l.take n) 0 Facts.none a (fun j hj => by
    rw [htl] at hj
    simp [hj]) h
  rw [htl] at h2
  have H := gAny (P := P) (g := l.toArray.size - n) (Q := Q) (n := n) (by omega) hsel htopo hap onward_step hstab (E := fun fs a' => ∀ w', Onward W w' → (∀ j, fs j w') → wpList P l.toArray Q (l.drop n) a' w')
    (fun listed fs a' w' inv hnil hC hfs hE => by
      have hT := hE w' hC hfs
      have hall : ∀ i, i < n → listed.getD i true = true := fun i hi => by
        cases hh : listed.getD i true with
        | true => rfl
        | false =>
          have := mem_heads.2 ⟨hi, hh⟩
          rw [hnil] at this
          cases this
      have := tail_run hchain htopo (l.drop n) n listed a' w' (Nat.le_refl _) (fun j => by simp [List.getElem?_drop]) inv.size hall (fun t h1 h2 => inv.tail t h1 h2) hT
      rwa [hdl] at this)
    (fun listed inv hne t ht => by
      rcases Nat.lt_or_ge t n with h | h
      · exact h
      · exfalso
        obtain ⟨i, hi⟩ : ∃ i, i ∈ heads n listed := by
          cases hh : heads n listed with
          | nil => exact absurd hh hne
          | cons k ks => exact ⟨k, by simp⟩
        have hi' := mem_heads.1 hi
        exact tail_waits hsink hchain hns inv (n - i) i rfl hi'.1 hi'.2 t h ht)
    n (Array.replicate l.toArray.size false) Facts.none a w.drew (inv_start _ _) (by rw [heads_all _ _ (by omega)]; simp) (by rw [heads_all _ _ (by omega)]; exact h2) hW (fun _ => trivial) (fun _ _ _ _ _ => trivial)
  rw [show n + (l.toArray.size - n) = l.toArray.size by omega] at H
  exact H
/-- What is said of the operations by their numbers; the others are found on the walk. -/
def specAt (l : List (Nat × GSpec)) (k : Nat) : GSpec := match l.lookup k with
  | some s => s
  | none => .det
theorem specAt_stab : ∀ {l : List (Nat × GSpec)}, (∀ p ∈ l, ∀ F, p.2 = .any F → ∀ v w w', F v w → Grows w w' → F v w') → ∀ k F, specAt l k = .any F → ∀ v w w', F v w → Grows w w' → F v w' := by
  intro l h k F hk
  unfold specAt at hk
  split at hk
  · rename_i G hG
    subst hk
    have : ∀ (l : List (Nat × GSpec)), l.lookup k = some (.any F) → ∃ p ∈ l, p.2 = .any F := by
      intro l
      induction l with
      | nil => intro h; cases h
      | cons p l ih =>
        intro h
        obtain ⟨a, b⟩ := p
        rw [List.lookup_cons] at h
        split at h
        · cases h
          exact ⟨_, List.mem_cons_self, rfl⟩
        · obtain ⟨p, hp, e⟩ := ih h
          exact ⟨p, List.mem_cons_of_mem _ hp, e⟩
    obtain ⟨p, hp, e⟩ := this l hG
    exact h p hp F e
  · cases hk
theorem gList_quietK {P : Program} {ops : Array Oper} {C : World → Prop} {R : World → World → Prop} {spec : Nat → GSpec} {E : Facts → Act → Prop} (m : Nat) {l : List Oper} {k : Nat} {fs : Facts} {a : Act} (hd : detsFrom spec k (l.take m)) (hm : m ≤ l.length)
    (h : wpQuiet P ops C (fun a' => gList P ops C R spec E (k + m) (l.drop m) fs a') (l.take m) a) : gList P ops C R spec E k l fs a := by
  have h1 := gList_quiet (l.take m) (l2 := l.drop m) hd (E := E) (R := R) (fs := fs) (a := a) (P := P) (ops := ops) (C := C) (by rw [List.length_take, Nat.min_eq_left hm]; exact h)
  rwa [List.take_append_drop] at h1
/-- A call whose value is known. -/
theorem grow_con {P : Program} {f : FuncId} {args : Array Value} {w : World} {c : Value} {o : Oper} {a : Act} (hr : (execOp a.eval o).run P w = .ok (.enter f args) w)
    (h : Calls P f args w fun e w'' => e = .returned c ∧ Below w.heap.size w w'') : growUpon P Grows (fun v _ => v = c) w ((execOp a.eval o).run P w) :=
  grow_call hr (h.mono fun _ _ ⟨he, hb⟩ => ⟨c, he, hb, rfl⟩)
end Go.Proofs.YtceboblhpglofaaDoor
