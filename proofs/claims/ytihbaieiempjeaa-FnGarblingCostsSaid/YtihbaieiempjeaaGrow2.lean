/- A region that draws its order and whose operations only add to memory: the theorem. No program is named here. -/
import Derived.Test.YtihbaieiempjeaaGrow
namespace Go.Proofs.Ytihbaieiempjeaa
open Go.RowKit

def heads (n : Nat) (listed : Array Bool) : List Nat := (List.range n).filter fun i => !listed.getD i true
theorem mem_heads {n i : Nat} {listed : Array Bool} : i ∈ heads n listed ↔ i < n ∧ listed.getD i true = false := by
  unfold heads
  rw [List.mem_filter, List.mem_range]
  simp
theorem heads_sorted (n : Nat) (listed : Array Bool) : (heads n listed).Pairwise (· < ·) := List.Pairwise.filter _ List.pairwise_lt_range
theorem heads_set {n j : Nat} {listed : Array Bool} {s t : List Nat} (hsz : j < listed.size) (h : heads n listed = s ++ j :: t) : heads n (listed.setIfInBounds j true) = s ++ t := by
  have hs := heads_sorted n listed
  rw [h, List.pairwise_append] at hs
  obtain ⟨h1, h2, h3⟩ := hs
  rw [List.pairwise_cons] at h2
  have e : heads n (listed.setIfInBounds j true) = (heads n listed).filter fun i => decide (i ≠ j) := by
    unfold heads
    rw [List.filter_filter]
    refine List.filter_congr fun i _ => ?_
    by_cases hij : i = j
    · subst hij
      have : (listed.setIfInBounds i true).getD i true = true := by simp [hsz]
      rw [this]
      simp
    · rw [getD_set_ne true (fun e => hij e.symm)]
      simp [hij]
  rw [e, h, List.filter_append, List.filter_cons]
  have e1 : s.filter (fun i => decide (i ≠ j)) = s := List.filter_eq_self.2 fun i hi => by
    have := h3 i hi j (by simp)
    simp
    omega
  have e2 : t.filter (fun i => decide (i ≠ j)) = t := List.filter_eq_self.2 fun i hi => by
    have := h2.1 i hi
    simp
    omega
  rw [e1, e2]
  simp
theorem getD_both' {listed : Array Bool} {i : Nat} (h : listed.getD i true = true) (hi : i < listed.size) : listed.getD i false = true := by
  simp [hi] at h ⊢
  exact h
def topoB (ops : Array Oper) : Bool := (List.range ops.size).all fun k => match ops[k]? with
  | some o => o.after.all fun e => !Region.binds .any e || decide (e.on < k)
  | none => true
theorem topo_spec {ops : Array Oper} (h : topoB ops = true) {k : Nat} {o : Oper} (hk : ops[k]? = some o) : ∀ e ∈ o.after, Region.binds .any e = true → e.on < k := by
  intro e he hb
  have hlt : k < ops.size := (Array.getElem?_eq_some_iff.1 hk).1
  have h1 := List.all_eq_true.1 h k (List.mem_range.2 hlt)
  simp only [hk] at h1
  have h2 := Array.all_eq_true'.1 h1 e he
  simp only [hb, Bool.not_true, Bool.false_or, decide_eq_true_eq] at h2
  exact h2
def apartB (ops : Array Oper) (n : Nat) : Bool := (List.range n).all fun j => (List.range j).all fun i => waits ops j i || match ops[i]?, ops[j]? with
  | some oi, some oj => oi.apart ops oj
  | _, _ => true
theorem apart_of {ops : Array Oper} {n : Nat} (h : apartB ops n = true) {i j : Nat} (hij : i < j) (hj : j < n) (hw : waits ops j i = false) {oi oj : Oper} (hi : ops[i]? = some oi) (ho : ops[j]? = some oj) : oi.apart ops oj = true := by
  have h1 := List.all_eq_true.1 (List.all_eq_true.1 h j (List.mem_range.2 hj)) i (List.mem_range.2 hij)
  simpa [hw, hi, ho] using h1
section
variable {P : Program} {ops : Array Oper} {C : World → Prop} {R : World → World → Prop} {spec : Nat → GSpec} {Q : Exit → Act → World → Prop}
theorem waits_listed {listed : Array Bool} {j i : Nat} (hj : j ∈ Region.ready .any ops listed) (hi : listed.getD i true = false) : waits ops j i = false := by
  cases hw : waits ops j i
  · rfl
  · obtain ⟨oj, hoj, e, he, hb, hon⟩ := Region.waitsFor_spec hw
    obtain ⟨_, o, ho, hall⟩ := mem_ready.1 hj
    have : o = oj := Option.some.inj (ho.symm.trans hoj)
    subst this
    have h2 := hall e he hb
    rw [hon, getD_both hi] at h2
    cases h2
theorem gAny {n g : Nat} {E : Facts → Act → Prop} (hn : n ≤ ops.size) (hsel : Region.noSelect ops = true) (htopo : topoB ops = true) (hap : apartB ops n = true)
    (hCR : ∀ w w', C w → R w w' → C w') (hstab : ∀ k F, spec k = .any F → ∀ v w w', F v w → R w w' → F v w')
    (hend : ∀ listed fs a w, HeadInv .any ops n listed → heads n listed = [] → C w → (∀ j, fs j w) → E fs a → wpAny P .any ops Q g listed a w)
    (hsink : ∀ listed, HeadInv .any ops n listed → heads n listed ≠ [] → ∀ t ∈ Region.ready .any ops listed, t < n) :
    ∀ (m : Nat) (listed : Array Bool) (fs : Facts) (a : Act) (w : World), HeadInv .any ops n listed → (heads n listed).length = m → gWalk P ops C R spec E (heads n listed) fs a →
      C w → (∀ j, fs j w) → (∀ j w w', fs j w → R w w' → fs j w') → wpAny P .any ops Q (m + g) listed a w := by
  intro m
  induction m with
  | zero =>
    intro listed fs a w inv hl h hC hfs _
    have hnil : heads n listed = [] := List.length_eq_zero_iff.1 hl
    rw [hnil] at h
    rw [Nat.zero_add]
    exact hend listed fs a w inv hnil hC hfs h
  | succ m ih =>
    intro listed fs a w inv hl h hC hfs hst
    rw [show m + 1 + g = (m + g) + 1 by omega]
    have hne : heads n listed ≠ [] := by intro e; rw [e] at hl; simp at hl
    refine ⟨fun h0 => ?_, fun j hj => ?_⟩
    · exfalso
      obtain ⟨k, t, hkt⟩ : ∃ k t, heads n listed = k :: t := by
        cases hh : heads n listed with
        | nil => exact absurd hh hne
        | cons k t => exact ⟨k, t, rfl⟩
      have hk := mem_heads.1 (show k ∈ heads n listed by rw [hkt]; simp)
      have hks : k < ops.size := by omega
      have hmem : k ∈ Region.ready .any ops listed := by
        refine mem_ready.2 ⟨hk.2, _, Array.getElem?_eq_getElem hks, fun e he hb => ?_⟩
        have hlt := topo_spec htopo (Array.getElem?_eq_getElem hks) e he hb
        cases hl' : listed.getD e.on true with
        | true => exact getD_both' hl' (by rw [inv.size]; omega)
        | false =>
          have hin : e.on ∈ heads n listed := mem_heads.2 ⟨by omega, hl'⟩
          have hs := heads_sorted n listed
          rw [hkt] at hs hin
          rw [List.pairwise_cons] at hs
          simp only [List.mem_cons] at hin
          rcases hin with e1 | e1
          · omega
          · have := hs.1 _ e1
            omega
      rw [h0] at hmem
      cases hmem
    · have hjn := hsink listed inv hne j hj
      have hjl := (mem_ready.1 hj).1
      obtain ⟨s, t, hst'⟩ := List.append_of_mem (mem_heads.2 ⟨hjn, hjl⟩)
      obtain ⟨_, oj, hoj, _⟩ := mem_ready.1 hj
      have hsorted := heads_sorted n listed
      rw [hst', List.pairwise_append] at hsorted
      have hlt : ∀ i ∈ s, i < j := fun i hi => hsorted.2.2 i hi j (by simp)
      have hall : ∀ i ∈ s, i ≠ j ∧ waits ops j i = false ∧ waits ops i j = false ∧ ∀ oi, ops[i]? = some oi → oi.apart ops oj = true := by
        intro i hi
        have hij := hlt i hi
        have hil := (mem_heads.1 (show i ∈ heads n listed by rw [hst']; simp [hi])).2
        have hw := waits_listed hj hil
        refine ⟨by omega, hw, ?_, fun oi hoi => apart_of hap hij hjn hw hoi hoj⟩
        cases hw' : waits ops i j
        · rfl
        · obtain ⟨oi, hoi, e, he, hb, hon⟩ := Region.waitsFor_spec hw'
          have := topo_spec htopo hoi e he hb
          omega
      rw [hst'] at h
      have hdeps : depsHold ops j fs w := fun q _ => hfs q
      have hout := gPull hsel hoj hC s fs a hall hdeps h
      have hjs : j < listed.size := by rw [inv.size]; omega
      have hset := heads_set hjs hst'
      have inv' := inv.set hj hjn
      have hlen : (s ++ t).length = m := by
        rw [hst'] at hl
        simp at hl ⊢
        omega
      have go : ∀ (fs' : Facts) (a' : Act) (w' : World), gWalk P ops C R spec E (s ++ t) fs' a' → C w' → (∀ j, fs' j w') → (∀ j w w', fs' j w → R w w' → fs' j w') →
          wpAny P .any ops Q (m + g) (listed.setIfInBounds j true) a' w' := fun fs' a' w' h1 h2 h3 h4 =>
        ih _ fs' a' w' inv' (by rw [hset]; exact hlen) (by rw [hset]; exact h1) h2 h3 h4
      have keep : ∀ w', R w w' → ∀ q, fs q w' := fun w' hR q => hst q w w' (hfs q) hR
      unfold wpOp
      simp only [hoj]
      unfold gOut at hout
      split
      · rename_i hw
        rw [if_pos hw] at hout
        left
        unfold Oper.wp
        generalize (execOp a.eval oj).run P w = r at hout ⊢
        cases hs : spec j with
        | det =>
          simp only [hs] at hout
          obtain ⟨c, h1, h2⟩ := hout
          cases r with
          | ok nx w' =>
            cases nx <;> simp only [detUpon] at h1
            · obtain ⟨e1, e2⟩ := h1
              subst e1 e2
              exact go fs _ w' h2 hC hfs hst
            · obtain ⟨e1, e2⟩ := h1
              subst e1 e2
              exact go fs _ w' h2 hC hfs hst
          | halt x w' => simp only [detUpon] at h1
        | con c =>
          simp only [hs] at hout
          obtain ⟨h1, h2⟩ := hout
          cases r with
          | ok nx w' =>
            cases nx <;> simp only [growUpon] at h1
            case value u =>
              obtain ⟨hR, e⟩ := h1
              subst e
              exact go fs _ w' h2 (hCR _ _ hC hR) (keep w' hR) hst
            case skip =>
              obtain ⟨hR, e⟩ := h1
              subst e
              exact go fs _ w' h2 (hCR _ _ hC hR) (keep w' hR) hst
            case enter f args =>
              refine Calls.mono h1 fun e w'' he => ?_
              obtain ⟨v, rfl, hR, e⟩ := he
              subst e
              exact go fs _ w'' h2 (hCR _ _ hC hR) (keep w'' hR) hst
          | halt x w' => simp only [growUpon] at h1
        | any F =>
          simp only [hs] at hout
          obtain ⟨h1, h2⟩ := hout
          have upd : ∀ v w', R w w' → F v w' → (∀ q, (fs.upd j (F v)) q w') := fun v w' hR hF q => by
            by_cases hq : q = j
            · subst hq
              rw [Facts.upd_self]
              exact hF
            · rw [Facts.upd_ne _ (fun e => hq e.symm)]
              exact keep w' hR q
          have updS : ∀ v, ∀ q w w', (fs.upd j (F v)) q w → R w w' → (fs.upd j (F v)) q w' := fun v q w w' h3 hR => by
            by_cases hq : q = j
            · subst hq
              rw [Facts.upd_self] at *
              exact hstab _ F hs v w w' h3 hR
            · rw [Facts.upd_ne _ (fun e => hq e.symm)] at *
              exact hst q w w' h3 hR
          cases r with
          | ok nx w' =>
            cases nx <;> simp only [growUpon] at h1
            case value u =>
              exact go _ _ w' (h2 u) (hCR _ _ hC h1.1) (upd u w' h1.1 h1.2) (updS u)
            case skip =>
              exact go _ _ w' (h2 undef) (hCR _ _ hC h1.1) (upd undef w' h1.1 h1.2) (updS undef)
            case enter f args =>
              refine Calls.mono h1 fun e w'' he => ?_
              obtain ⟨v, rfl, hR, hF⟩ := he
              exact go _ _ w'' (h2 v) (hCR _ _ hC hR) (upd v w'' hR hF) (updS v)
          | halt x w' => simp only [growUpon] at h1
      · rename_i hw
        rw [if_neg hw] at hout
        exact go fs _ w hout hC hfs hst
theorem gList_walk {E : Facts → Act → Prop} {n : Nat} : ∀ (l : List Oper) (k : Nat) (fs : Facts) (a : Act), (∀ j, j < l.length → l[j]? = ops[k + j]?) →
    gList P ops C R spec E k l fs a → gWalk P ops C R spec E (List.range' k l.length) fs a
  | [], _, _, _, _, h => h
  | o :: l, k, fs, a, hl, h => by
    have h0 : ops[k]? = some o := by simpa using (hl 0 (by simp)).symm
    simp only [List.length_cons, List.range'_succ, gWalk, h0]
    unfold gList at h
    have mono : ∀ (K K' : Facts → Act → Prop), (∀ fs a, K fs a → K' fs a) → gStep P ops C R spec fs k o K a → gStep P ops C R spec fs k o K' a := by
      intro K K' hK hg
      unfold gStep at *
      split
      · rename_i hw
        rw [if_pos hw] at hg
        split
        · rename_i hs
          rw [hs] at hg
          obtain ⟨c, h1, h2⟩ := hg
          exact ⟨c, h1, hK _ _ h2⟩
        · rename_i c hs
          rw [hs] at hg
          exact ⟨hg.1, hK _ _ hg.2⟩
        · rename_i F hs
          rw [hs] at hg
          exact ⟨hg.1, fun v => hK _ _ (hg.2 v)⟩
      · rename_i hw
        rw [if_neg hw] at hg
        exact hK _ _ hg
    refine mono _ _ (fun fs' a' h' => gList_walk (n := n) l (k + 1) fs' a' (fun j hj => ?_) h') h
    have := hl (j + 1) (by simp; omega)
    simpa [Nat.add_assoc, Nat.add_comm 1 j] using this
end
end Go.Proofs.Ytihbaieiempjeaa
