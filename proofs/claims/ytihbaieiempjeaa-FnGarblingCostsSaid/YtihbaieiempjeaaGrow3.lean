/- A region that draws its order and whose operations only add to memory: how it is used; the copy append([]T{}, xs...). No program is named here. -/
import Derived.Test.YtihbaieiempjeaaGrow2
import Derived.Test.YtihbaieiempjeaaMem
import Derived.Laws.OwnMore
namespace Go.Proofs.Ytihbaieiempjeaa
open Go.RowKit

def Grows (w w' : World) : Prop := Below w.heap.size w w'
/-- The worlds behind W that leave what W holds alone. -/
def Onward (W : World) (w' : World) : Prop := ∃ x : Later W, w' = x.val
theorem Onward.mk' {W w' : World} (h : Below W.heap.size W w') : Onward W w' := ⟨⟨w', h⟩, rfl⟩
theorem Onward.below {W w' : World} (h : Onward W w') : Below W.heap.size W w' := by
  obtain ⟨x, rfl⟩ := h
  exact x.below
theorem onward_step {W : World} : ∀ w w', Onward W w → Grows w w' → Onward W w' := fun _ _ h h' => Onward.mk' (h.below.trans (Below.mono h' h.below.size))
def growB (ops : Array Oper) : Bool := Region.noSelect ops && topoB ops && apartB ops ops.size
def growTailB (ops : Array Oper) (n : Nat) : Bool := Region.noSelect ops && topoB ops && apartB ops n && decide (n + 1 = ops.size) && Region.sinkB .any ops n && Region.chainB .any ops n
theorem heads_all (n m : Nat) (h : n ≤ m) : heads n (Array.replicate m false) = List.range' 0 n := by
  unfold heads
  rw [List.range_eq_range', List.filter_eq_self]
  intro i hi
  have := List.mem_range'_1.1 hi
  simp [show i < m by omega]
theorem inv_start (ops : Array Oper) (n : Nat) : HeadInv .any ops n (Array.replicate ops.size false) :=
  ⟨by simp, fun j oj _ hl => (by rw [getD_replicate_false] at hl; cases hl), fun t _ ht => getD_in (by simpa using ht) (getD_replicate_false _ _)⟩
section
variable {P : Program} {spec : Nat → GSpec} {Q : Exit → Act → World → Prop} {a : Act} {w W : World} {id : Nat} {l : List Oper}
theorem wp_grow (hm : P.follows .mixedOrders = true) (hB : growB l.toArray = true) (hW : Onward W w.drew) (hstab : ∀ k F, spec k = .any F → ∀ v w w', F v w → Grows w w' → F v w')
    (h : gList P l.toArray (Onward W) Grows spec (fun fs a' => ∀ w', Onward W w' → (∀ j, fs j w') → Q .normal a' w') 0 l Facts.none a) : (Code.region id l.toArray true).wp P Q a w := by
  simp only [growB, Bool.and_eq_true] at hB
  obtain ⟨⟨hsel, htopo⟩, hap⟩ := hB
  refine wp_region_any hm ?_
  have h2 := gList_walk (n := 0) l 0 Facts.none a (fun j hj => by simp) h
  have H := gAny (P := P) (g := 0) (Q := Q) (n := l.toArray.size) (Nat.le_refl _) hsel htopo hap onward_step hstab (E := fun fs a' => ∀ w', Onward W w' → (∀ j, fs j w') → Q .normal a' w')
    (fun listed fs a' w' inv hnil hC hfs hE => by
      refine ⟨?_, hE w' hC hfs⟩
      cases hr : Region.ready .any l.toArray listed with
      | nil => rfl
      | cons t ts =>
        have ht := (mem_ready.1 (show t ∈ Region.ready .any l.toArray listed by rw [hr]; simp))
        have hlt : t < l.toArray.size := by
          obtain ⟨_, o, ho, _⟩ := ht
          exact (Array.getElem?_eq_some_iff.1 ho).1
        have := mem_heads.2 ⟨hlt, ht.1⟩
        rw [hnil] at this
        cases this)
    (fun listed inv _ t ht => by
      obtain ⟨_, o, ho, _⟩ := mem_ready.1 ht
      exact (Array.getElem?_eq_some_iff.1 ho).1)
    l.length (Array.replicate l.toArray.size false) Facts.none a w.drew (inv_start _ _) (by rw [heads_all _ _ (Nat.le_refl _)]; simp) (by rw [heads_all _ _ (Nat.le_refl _)]; simpa using h2) hW (fun _ => trivial) (fun _ _ _ _ _ => trivial)
  simpa using H
theorem wp_grow_tail (n : Nat) (hm : P.follows .mixedOrders = true) (hB : growTailB l.toArray n = true) (hW : Onward W w.drew) (hstab : ∀ k F, spec k = .any F → ∀ v w w', F v w → Grows w w' → F v w')
    (h : gList P l.toArray (Onward W) Grows spec (fun fs a' => ∀ w', Onward W w' → (∀ j, fs j w') → wpList P l.toArray Q (l.drop n) a' w') 0 (l.take n) Facts.none a) : (Code.region id l.toArray true).wp P Q a w := by
  simp only [growTailB, Bool.and_eq_true, decide_eq_true_eq] at hB
  obtain ⟨⟨⟨⟨⟨hsel, htopo⟩, hap⟩, hn⟩, hsink⟩, hchain⟩ := hB
  refine wp_region_any hm ?_
  have hnl : n < l.length := by simp at hn; omega
  have hns : n < l.toArray.size := by omega
  have htl : (l.take n).length = n := by simp; omega
  have h2 := gList_walk (n := 0) (l.take n) 0 Facts.none a (fun j hj => by
    rw [htl] at hj
    simp [hj]) h
  rw [htl] at h2
  have H := gAny (P := P) (g := 1) (Q := Q) (n := n) (by omega) hsel htopo hap onward_step hstab (E := fun fs a' => ∀ w', Onward W w' → (∀ j, fs j w') → wpList P l.toArray Q (l.drop n) a' w')
    (fun listed fs a' w' inv hnil hC hfs hE => by
      have hT := hE w' hC hfs
      obtain ⟨t, ht⟩ : ∃ t, l[n]? = some t := ⟨_, List.getElem?_eq_getElem hnl⟩
      have hd : l.drop n = [t] := by
        rw [List.drop_eq_getElem_cons hnl]
        have e1 : l[n] = t := by rw [List.getElem?_eq_getElem hnl] at ht; injection ht
        have e2 : l.drop (n + 1) = [] := List.drop_eq_nil_of_le (by simp at hn; omega)
        rw [e1, e2]
      rw [hd] at hT
      have hall : ∀ i, i < n → listed.getD i true = true := fun i hi => by
        cases hh : listed.getD i true with
        | true => rfl
        | false =>
          have := mem_heads.2 ⟨hi, hh⟩
          rw [hnil] at this
          cases this
      have hnr : n ∈ Region.ready .any l.toArray listed := by
        refine mem_ready.2 ⟨inv.tail n (Nat.le_refl _) hns, t, by simpa using ht, fun e he hb => ?_⟩
        have hlt := topo_spec htopo (show l.toArray[n]? = some t by simpa using ht) e he hb
        exact getD_both' (hall _ hlt) (by rw [inv.size]; omega)
      refine ⟨fun h0 => (by rw [h0] at hnr; cases hnr), fun i hi => ?_⟩
      have hin : i = n := by
        obtain ⟨hu, o, ho, _⟩ := mem_ready.1 hi
        have hilt : i < l.toArray.size := (Array.getElem?_eq_some_iff.1 ho).1
        rcases Nat.lt_or_ge i n with h | h
        · rw [hall i h] at hu
          cases hu
        · omega
      subst hin
      have hfin : ∀ a'' w'', Q .normal a'' w'' → wpAny P .any l.toArray Q 0 (listed.setIfInBounds i true) a'' w'' := by
        intro a'' w'' hq
        refine ⟨?_, hq⟩
        cases hr : Region.ready .any l.toArray (listed.setIfInBounds i true) with
        | nil => rfl
        | cons q qs =>
          exfalso
          have hq' := (mem_ready.1 (show q ∈ Region.ready .any l.toArray (listed.setIfInBounds i true) by rw [hr]; simp))
          obtain ⟨hu, o, ho, _⟩ := hq'
          have hqlt : q < l.toArray.size := (Array.getElem?_eq_some_iff.1 ho).1
          by_cases hqi : q = i
          · subst hqi
            have : q < listed.size := by rw [inv.size]; exact hns
            simp [this] at hu
          · rw [getD_set_ne true (fun e => hqi e.symm), hall q (by omega)] at hu
            cases hu
      unfold wpOp
      have ho : l.toArray[i]? = some t := by simpa using ht
      simp only [ho]
      unfold wpList at hT
      split
      · rename_i hw
        rw [if_pos hw] at hT
        exact hT.imp (Oper.wp_mono fun a'' w'' hq => hfin a'' w'' hq) (fun h => h)
      · rename_i hw
        rw [if_neg hw] at hT
        exact hfin _ _ hT)
    (fun listed inv hne t ht => by
      rcases Nat.lt_or_ge t n with h | h
      · exact h
      · exfalso
        obtain ⟨i, hi⟩ : ∃ i, i ∈ heads n listed := by
          cases hh : heads n listed with
          | nil => exact absurd hh hne
          | cons k ks => exact ⟨k, by simp⟩
        have hi' := mem_heads.1 hi
        exact tail_waits hsink hchain hns inv (n - i) i rfl hi'.1 hi'.2 t h ht)
    n (Array.replicate l.toArray.size false) Facts.none a w.drew (inv_start _ _) (by rw [heads_all _ _ (by omega)]; simp) (by rw [heads_all _ _ (by omega)]; exact h2) hW (fun _ => trivial) (fun _ _ _ _ _ => trivial)
  rw [hn] at H
  exact H
end
end Go.Proofs.Ytihbaieiempjeaa
