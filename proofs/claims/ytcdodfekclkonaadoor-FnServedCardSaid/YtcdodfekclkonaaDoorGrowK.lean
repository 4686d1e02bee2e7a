/- A region that draws its order, one operation of which writes on in a row that an earlier one has made: as Grow, but each operation has its own relation between the worlds, and an operation may end an earlier one's fact. No program is named here. -/
import Derived.Test.YtcdodfekclkonaaDoorGrow4
namespace Go.Proofs.YtcdodfekclkonaaDoor
open Go.RowKit

def Facts.kill (fs : Facts) (kl : Nat → Nat → Bool) (k : Nat) : Facts := fun q => if kl k q = true then fun _ => True else fs q
theorem kill_no_of {ops : Array Oper} {kl : Nat → Nat → Bool} {i j q : Nat} (h : ∀ q, kl j q = true → waits ops i q = false) (hq : waits ops i q = true) : kl j q = false := by
  cases e : kl j q
  · rfl
  · rw [h q e] at hq
    cases hq
theorem Facts.kill_no (fs : Facts) {kl : Nat → Nat → Bool} {k q : Nat} (h : kl k q = false) : fs.kill kl k q = fs q := by
  unfold Facts.kill
  simp [h]
theorem Facts.kill_of {fs : Facts} {kl : Nat → Nat → Bool} {k q : Nat} {w : World} (h : fs q w) : fs.kill kl k q w := by
  unfold Facts.kill
  split
  · trivial
  · exact h
theorem Facts.kill_comm (fs : Facts) {kl : Nat → Nat → Bool} {i j : Nat} (h : i ≠ j) (h1 : kl i j = false) (h2 : kl j i = false) (f g : World → Prop) :
    (((fs.kill kl i).upd i f).kill kl j).upd j g = (((fs.kill kl j).upd j g).kill kl i).upd i f := by
  funext q
  unfold Facts.upd Facts.kill
  by_cases hq1 : q = j
  · subst hq1
    have e : ¬ q = i := fun e => h e.symm
    simp [e, h1]
  · by_cases hq2 : q = i
    · subst hq2
      simp [hq1, h2]
    · simp [hq1, hq2]
      by_cases a : kl i q = true <;> by_cases b : kl j q = true <;> simp [a, b]
section
variable (P : Program) (ops : Array Oper) (C : World → Prop) (R : Nat → World → World → Prop) (kl : Nat → Nat → Bool) (spec : Nat → GSpec)
def gStepK (fs : Facts) (k : Nat) (o : Oper) (K : Facts → Act → Prop) (a : Act) : Prop :=
  if Region.wanted o (yielded ops a.tmps) = true then
    match spec k with
    | .det => ∃ c, (∀ w, C w → detUpon w c ((execOp a.eval o).run P w)) ∧ K fs (a.put o.dst c)
    | .con c => (∀ w, C w → depsHold ops k fs w → growUpon P (R k) (fun v _ => v = c) w ((execOp a.eval o).run P w)) ∧ K fs (a.put o.dst c)
    | .any F => (∀ w, C w → depsHold ops k fs w → growUpon P (R k) F w ((execOp a.eval o).run P w)) ∧ ∀ v, K ((fs.kill kl k).upd k (F v)) (a.put o.dst v)
  else K fs (a.put o.dst undef)
/-- The same at one world. -/
def gOutK (fs : Facts) (k : Nat) (o : Oper) (K : Facts → Act → Prop) (a : Act) (w : World) : Prop :=
  if Region.wanted o (yielded ops a.tmps) = true then
    match spec k with
    | .det => ∃ c, detUpon w c ((execOp a.eval o).run P w) ∧ K fs (a.put o.dst c)
    | .con c => growUpon P (R k) (fun v _ => v = c) w ((execOp a.eval o).run P w) ∧ K fs (a.put o.dst c)
    | .any F => growUpon P (R k) F w ((execOp a.eval o).run P w) ∧ ∀ v, K ((fs.kill kl k).upd k (F v)) (a.put o.dst v)
  else K fs (a.put o.dst undef)
def gWalkK (E : Facts → Act → Prop) : List Nat → Facts → Act → Prop
  | [], fs, a => E fs a
  | k :: is, fs, a => match ops[k]? with
    | none => gWalkK E is fs a
    | some o => gStepK P ops C R kl spec fs k o (fun fs' a' => gWalkK E is fs' a') a
/-- The walk over the operations themselves. -/
def gListK (E : Facts → Act → Prop) : Nat → List Oper → Facts → Act → Prop
  | _, [], fs, a => E fs a
  | k, o :: l, fs, a => gStepK P ops C R kl spec fs k o (fun fs' a' => gListK E (k + 1) l fs' a') a
end
section
variable {P : Program} {ops : Array Oper} {C : World → Prop} {R : Nat → World → World → Prop} {kl : Nat → Nat → Bool} {spec : Nat → GSpec}
theorem gOutK_of_step {fs : Facts} {k : Nat} {o : Oper} {K : Facts → Act → Prop} {a : Act} {w : World} (hC : C w) (hd : depsHold ops k fs w) (h : gStepK P ops C R kl spec fs k o K a) : gOutK P ops R kl spec fs k o K a w := by
  unfold gStepK at h
  unfold gOutK
  split
  · rename_i hw
    rw [if_pos hw] at h
    split
    · rename_i hs
      rw [hs] at h
      obtain ⟨c, h1, h2⟩ := h
      exact ⟨c, h1 w hC, h2⟩
    · rename_i c hs
      rw [hs] at h
      exact ⟨h.1 w hC hd, h.2⟩
    · rename_i F hs
      rw [hs] at h
      exact ⟨h.1 w hC hd, h.2⟩
  · rename_i hw
    rw [if_neg hw] at h
    exact h
/-- One operation that may come up now, with others ahead of it in the text that it does not wait for. -/
theorem gPullK {E : Facts → Act → Prop} (hsel : Region.noSelect ops = true) {j : Nat} {oj : Oper} (hj : ops[j]? = some oj) {is2 : List Nat} {w : World} (hC : C w) :
    ∀ (is1 : List Nat) (fs : Facts) (a : Act), (∀ i ∈ is1, i ≠ j ∧ waits ops j i = false ∧ waits ops i j = false ∧ kl i j = false ∧ kl j i = false ∧ (∀ q, kl j q = true → waits ops i q = false) ∧ ∀ oi, ops[i]? = some oi → oi.apart ops oj = true) →
      depsHold ops j fs w → gWalkK P ops C R kl spec E (is1 ++ j :: is2) fs a → gOutK P ops R kl spec fs j oj (fun fs' a' => gWalkK P ops C R kl spec E (is1 ++ is2) fs' a') a w := by
  intro is1
  induction is1 with
  | nil =>
    intro fs a _ hd h
    simp only [List.nil_append, gWalkK, hj] at h ⊢
    exact gOutK_of_step hC hd h
  | cons i is1 ih =>
    intro fs a hall hd h
    obtain ⟨hij, hji, hijw, hk1, hk2, hk3, hap⟩ := hall i (by simp)
    have hall' := fun k (hk : k ∈ is1) => hall k (by simp [hk])
    simp only [List.cons_append, gWalkK] at h ⊢
    cases hi : ops[i]? with
    | none =>
      simp only [hi] at h ⊢
      exact ih fs a hall' hd h
    | some oi =>
      simp only [hi] at h ⊢
      obtain ⟨h1, h2, h3⟩ := Oper.apart_spec (hap oi hi)
      have hsi := fun cs b => Region.noSelect_spec hsel i oi cs b hi
      have hsj := fun cs b => Region.noSelect_spec hsel j oj cs b hj
      have ei : ∀ (a : Act) (v : Value), execOp (a.put oj.dst v).eval oi = execOp a.eval oi := fun a v => execOp_put (ops := ops) oi hsi a oj.dst v h3
      have wi : ∀ (a : Act) (v : Value), Region.wanted oi (yielded ops (a.put oj.dst v).tmps) = Region.wanted oi (yielded ops a.tmps) := fun a v => wanted_put oi a oj.dst v h3
      have ej : ∀ (a : Act) (v : Value), execOp (a.put oi.dst v).eval oj = execOp a.eval oj := fun a v => execOp_put (ops := ops) oj hsj a oi.dst v h1
      have wj : ∀ (a : Act) (v : Value), Region.wanted oj (yielded ops (a.put oi.dst v).tmps) = Region.wanted oj (yielded ops a.tmps) := fun a v => wanted_put oj a oi.dst v h1
      have comm : ∀ (a : Act) (u v : Value), (a.put oi.dst u).put oj.dst v = (a.put oj.dst v).put oi.dst u := fun a u v => Act.put_comm a u v h2
      have dkeep : ∀ (fs : Facts) (f : World → Prop) (w : World), depsHold ops i ((fs.kill kl j).upd j f) w → depsHold ops i fs w := fun fs f w hh q hq => by
        have := hh q hq
        rw [Facts.upd_ne _ (fun e => by rw [e] at hijw; rw [hijw] at hq; cases hq)] at this
        rwa [Facts.kill_no _ (kill_no_of hk3 hq)] at this
      have dj : ∀ (f : World → Prop), depsHold ops j ((fs.kill kl i).upd i f) w := fun f q hq => by
        rw [Facts.upd_ne _ (fun e => by rw [e] at hji; rw [hji] at hq; cases hq)]
        exact Facts.kill_of (hd q hq)
      -- a step of i behind j
      have fold : ∀ (fs : Facts) (v : Value), gStepK P ops C R kl spec fs i oi (fun fs' a' => gWalkK P ops C R kl spec E (is1 ++ is2) fs' a') (a.put oj.dst v) =
          (if Region.wanted oi (yielded ops a.tmps) = true then
            match spec i with
            | .det => ∃ c, (∀ w, C w → detUpon w c ((execOp a.eval oi).run P w)) ∧ gWalkK P ops C R kl spec E (is1 ++ is2) fs ((a.put oi.dst c).put oj.dst v)
            | .con c => (∀ w, C w → depsHold ops i fs w → growUpon P (R i) (fun v _ => v = c) w ((execOp a.eval oi).run P w)) ∧ gWalkK P ops C R kl spec E (is1 ++ is2) fs ((a.put oi.dst c).put oj.dst v)
            | .any F => (∀ w, C w → depsHold ops i fs w → growUpon P (R i) F w ((execOp a.eval oi).run P w)) ∧ ∀ u, gWalkK P ops C R kl spec E (is1 ++ is2) ((fs.kill kl i).upd i (F u)) ((a.put oi.dst u).put oj.dst v)
          else gWalkK P ops C R kl spec E (is1 ++ is2) fs ((a.put oi.dst undef).put oj.dst v)) := by
        intro fs v
        unfold gStepK
        rw [wi]
        simp only [ei, comm]
      unfold gStepK at h
      by_cases hwi : Region.wanted oi (yielded ops a.tmps) = true
      · rw [if_pos hwi] at h
        simp only [gOutK, fold, if_pos hwi]
        cases hs : spec i with
        | det =>
          simp only [hs] at h ⊢
          obtain ⟨c, hc, h⟩ := h
          have h := ih fs _ hall' hd h
          unfold gOutK at h
          rw [wj] at h
          simp only [ej] at h
          split
          · rename_i hwj
            rw [if_pos hwj] at h
            cases hsj' : spec j with
            | det =>
              simp only [hsj'] at h ⊢
              obtain ⟨c', g1, g2⟩ := h
              exact ⟨c', g1, c, hc, g2⟩
            | con c' =>
              simp only [hsj'] at h ⊢
              exact ⟨h.1, c, hc, h.2⟩
            | any F =>
              simp only [hsj'] at h ⊢
              exact ⟨h.1, fun v => ⟨c, hc, h.2 v⟩⟩
          · rename_i hwj
            rw [if_neg hwj] at h
            exact ⟨c, hc, h⟩
        | con c =>
          simp only [hs] at h ⊢
          obtain ⟨hc, h⟩ := h
          have h := ih fs _ hall' hd h
          unfold gOutK at h
          rw [wj] at h
          simp only [ej] at h
          split
          · rename_i hwj
            rw [if_pos hwj] at h
            cases hsj' : spec j with
            | det =>
              simp only [hsj'] at h ⊢
              obtain ⟨c', g1, g2⟩ := h
              exact ⟨c', g1, hc, g2⟩
            | con c' =>
              simp only [hsj'] at h ⊢
              exact ⟨h.1, hc, h.2⟩
            | any F =>
              simp only [hsj'] at h ⊢
              exact ⟨h.1, fun v => ⟨fun w hw hd => hc w hw (dkeep _ _ _ hd), h.2 v⟩⟩
          · rename_i hwj
            rw [if_neg hwj] at h
            exact ⟨hc, h⟩
        | any F =>
          simp only [hs] at h ⊢
          obtain ⟨hc, h⟩ := h
          have h := fun u => ih ((fs.kill kl i).upd i (F u)) _ hall' (dj _) (h u)
          simp only [gOutK, wj, ej] at h
          split
          · rename_i hwj
            simp only [if_pos hwj] at h
            cases hsj' : spec j with
            | det =>
              simp only [hsj'] at h ⊢
              obtain ⟨c', g1, _⟩ := h undef
              refine ⟨c', g1, hc, fun u => ?_⟩
              obtain ⟨c2, k1, k2⟩ := h u
              rw [detUpon_same g1 k1]
              exact k2
            | con c' =>
              simp only [hsj'] at h ⊢
              exact ⟨(h undef).1, hc, fun u => (h u).2⟩
            | any F' =>
              simp only [hsj'] at h ⊢
              refine ⟨(h undef).1, fun v => ⟨fun w hw hd => hc w hw (dkeep _ _ _ hd), fun u => ?_⟩⟩
              have := (h u).2 v
              rwa [Facts.kill_comm _ hij hk1 hk2] at this
          · rename_i hwj
            simp only [if_neg hwj] at h
            exact ⟨hc, h⟩
      · rw [if_neg hwi] at h
        simp only [gOutK, fold, if_neg hwi]
        have h := ih fs _ hall' hd h
        unfold gOutK at h
        rw [wj] at h
        simp only [ej] at h
        split
        · rename_i hwj
          rw [if_pos hwj] at h
          exact h
        · rename_i hwj
          rw [if_neg hwj] at h
          exact h
end
def killB (ops : Array Oper) (kl : Nat → Nat → Bool) (n : Nat) : Bool := (List.range n).all fun j => (List.range j).all fun i => waits ops j i || (!kl i j && !kl j i && (List.range ops.size).all fun q => !kl j q || !waits ops i q)
theorem kill_spec {ops : Array Oper} {kl : Nat → Nat → Bool} {n i j : Nat} (htopo : topoB ops = true) (h : killB ops kl n = true) (hij : i < j) (hj : j < n) (hn : n ≤ ops.size) (hw : waits ops j i = false) : kl i j = false ∧ kl j i = false ∧ ∀ q, kl j q = true → waits ops i q = false := by
  have h1 := List.all_eq_true.1 (List.all_eq_true.1 h j (List.mem_range.2 hj)) i (List.mem_range.2 hij)
  rw [hw, Bool.false_or, Bool.and_eq_true, Bool.and_eq_true] at h1
  refine ⟨by simpa using h1.1.1, by simpa using h1.1.2, fun q hq => ?_⟩
  by_cases hqs : q < ops.size
  · have h2 := List.all_eq_true.1 h1.2 q (List.mem_range.2 hqs)
    rw [hq] at h2
    simpa using h2
  · cases hw' : waits ops i q
    · rfl
    · obtain ⟨oi, hoi, e, he, hb, hon⟩ := Region.waitsFor_spec hw'
      have := topo_spec htopo hoi e he hb
      omega
section
variable {P : Program} {ops : Array Oper} {C : World → Prop} {R : Nat → World → World → Prop} {kl : Nat → Nat → Bool} {spec : Nat → GSpec} {Q : Exit → Act → World → Prop}
theorem gAnyK {n g : Nat} {E : Facts → Act → Prop} (hn : n ≤ ops.size) (hsel : Region.noSelect ops = true) (htopo : topoB ops = true) (hap : apartB ops n = true)
    (hkl : killB ops kl n = true) (hCR : ∀ k w w', C w → R k w w' → C w') (hstab : ∀ q F, spec q = .any F → ∀ k, kl k q = false → ∀ v w w', F v w → R k w w' → F v w') (hnk : ∀ k q, (∀ F, spec k ≠ .any F) → kl k q = false)
    (hend : ∀ listed fs a w, HeadInv .any ops n listed → heads n listed = [] → C w → (∀ j, fs j w) → E fs a → wpAny P .any ops Q g listed a w)
    (hsink : ∀ listed, HeadInv .any ops n listed → heads n listed ≠ [] → ∀ t ∈ Region.ready .any ops listed, t < n) :
    ∀ (m : Nat) (listed : Array Bool) (fs : Facts) (a : Act) (w : World), HeadInv .any ops n listed → (heads n listed).length = m → gWalkK P ops C R kl spec E (heads n listed) fs a →
      C w → (∀ j, fs j w) → (∀ k q, kl k q = false → ∀ w w', fs q w → R k w w' → fs q w') → wpAny P .any ops Q (m + g) listed a w := by
  intro m
  induction m with
  | zero =>
    intro listed fs a w inv hl h hC hfs _
    have hnil : heads n listed = [] := List.length_eq_zero_iff.1 hl
    rw [hnil] at h
    rw [Nat.zero_add]
    exact hend listed fs a w inv hnil hC hfs h
  | succ m ih =>
    intro listed fs a w inv hl h hC hfs hst
    rw [show m + 1 + g = (m + g) + 1 by omega]
    have hne : heads n listed ≠ [] := by intro e; rw [e] at hl; simp at hl
    refine ⟨fun h0 => ?_, fun j hj => ?_⟩
    · exfalso
      obtain ⟨k, t, hkt⟩ : ∃ k t, heads n listed = k :: t := by
        cases hh : heads n listed with
        | nil => exact absurd hh hne
        | cons k t => exact ⟨k, t, rfl⟩
      have hk := mem_heads.1 (show k ∈ heads n listed by rw [hkt]; simp)
      have hks : k < ops.size := by omega
      have hmem : k ∈ Region.ready .any ops listed := by
        refine mem_ready.2 ⟨hk.2, _, Array.getElem?_eq_getElem hks, fun e he hb => ?_⟩
        have hlt := topo_spec htopo (Array.getElem?_eq_getElem hks) e he hb
        cases hl' : listed.getD e.on true with
        | true => exact getD_both' hl' (by rw [inv.size]; omega)
        | false =>
          have hin : e.on ∈ heads n listed := mem_heads.2 ⟨by omega, hl'⟩
          have hs := heads_sorted n listed
          rw [hkt] at hs hin
          rw [List.pairwise_cons] at hs
          simp only [List.mem_cons] at hin
          rcases hin with e1 | e1
          · omega
          · have := hs.1 _ e1
            omega
      rw [h0] at hmem
      cases hmem
    · have hjn := hsink listed inv hne j hj
      have hjl := (mem_ready.1 hj).1
      obtain ⟨s, t, hst'⟩ := List.append_of_mem (mem_heads.2 ⟨hjn, hjl⟩)
      obtain ⟨_, oj, hoj, _⟩ := mem_ready.1 hj
      have hsorted := heads_sorted n listed
      rw [hst', List.pairwise_append] at hsorted
      have hlt : ∀ i ∈ s, i < j := fun i hi => hsorted.2.2 i hi j (by simp)
      have hall : ∀ i ∈ s, i ≠ j ∧ waits ops j i = false ∧ waits ops i j = false ∧ kl i j = false ∧ kl j i = false ∧ (∀ q, kl j q = true → waits ops i q = false) ∧ ∀ oi, ops[i]? = some oi → oi.apart ops oj = true := by
        intro i hi
        have hij := hlt i hi
        have hil := (mem_heads.1 (show i ∈ heads n listed by rw [hst']; simp [hi])).2
        have hw := waits_listed hj hil
        obtain ⟨k1, k2, k3⟩ := kill_spec htopo hkl hij hjn hn hw
        refine ⟨by omega, hw, ?_, k1, k2, k3, fun oi hoi => apart_of hap hij hjn hw hoi hoj⟩
        cases hw' : waits ops i j
        · rfl
        · obtain ⟨oi, hoi, e, he, hb, hon⟩ := Region.waitsFor_spec hw'
          have := topo_spec htopo hoi e he hb
          omega
      rw [hst'] at h
      have hdeps : depsHold ops j fs w := fun q _ => hfs q
      have hout := gPullK hsel hoj hC s fs a hall hdeps h
      have hjs : j < listed.size := by rw [inv.size]; omega
      have hset := heads_set hjs hst'
      have inv' := inv.set hj hjn
      have hlen : (s ++ t).length = m := by
        rw [hst'] at hl
        simp at hl ⊢
        omega
      have go : ∀ (fs' : Facts) (a' : Act) (w' : World), gWalkK P ops C R kl spec E (s ++ t) fs' a' → C w' → (∀ j, fs' j w') → (∀ k q, kl k q = false → ∀ w w', fs' q w → R k w w' → fs' q w') →
          wpAny P .any ops Q (m + g) (listed.setIfInBounds j true) a' w' := fun fs' a' w' h1 h2 h3 h4 =>
        ih _ fs' a' w' inv' (by rw [hset]; exact hlen) (by rw [hset]; exact h1) h2 h3 h4
      have keep : (∀ q, kl j q = false) → ∀ w', R j w w' → ∀ q, fs q w' := fun hno w' hR q => hst j q (hno q) w w' (hfs q) hR
      unfold wpOp
      simp only [hoj]
      unfold gOutK at hout
      split
      · rename_i hw
        rw [if_pos hw] at hout
        left
        unfold Oper.wp
        generalize (execOp a.eval oj).run P w = r at hout ⊢
        cases hs : spec j with
        | det =>
          simp only [hs] at hout
          obtain ⟨c, h1, h2⟩ := hout
          cases r with
          | ok nx w' =>
            cases nx <;> simp only [detUpon] at h1
            · obtain ⟨e1, e2⟩ := h1
              subst e1 e2
              exact go fs _ w' h2 hC hfs hst
            · obtain ⟨e1, e2⟩ := h1
              subst e1 e2
              exact go fs _ w' h2 hC hfs hst
          | halt x w' => simp only [detUpon] at h1
        | con c =>
          have hno : ∀ q, kl j q = false := fun q => hnk j q fun F h => by rw [hs] at h; cases h
          simp only [hs] at hout
          obtain ⟨h1, h2⟩ := hout
          cases r with
          | ok nx w' =>
            cases nx <;> simp only [growUpon] at h1
            case value u =>
              obtain ⟨hR, e⟩ := h1
              subst e
              exact go fs _ w' h2 (hCR _ _ _ hC hR) (keep hno w' hR) hst
            case skip =>
              obtain ⟨hR, e⟩ := h1
              subst e
              exact go fs _ w' h2 (hCR _ _ _ hC hR) (keep hno w' hR) hst
            case enter f args =>
              refine Calls.mono h1 fun e w'' he => ?_
              obtain ⟨v, rfl, hR, e⟩ := he
              subst e
              exact go fs _ w'' h2 (hCR _ _ _ hC hR) (keep hno w'' hR) hst
          | halt x w' => simp only [growUpon] at h1
        | any F =>
          simp only [hs] at hout
          obtain ⟨h1, h2⟩ := hout
          have upd : ∀ v w', R j w w' → F v w' → (∀ q, ((fs.kill kl j).upd j (F v)) q w') := fun v w' hR hF q => by
            by_cases hq : q = j
            · subst hq
              rw [Facts.upd_self]
              exact hF
            · rw [Facts.upd_ne _ (fun e => hq e.symm)]
              cases hk : kl j q
              · rw [Facts.kill_no _ hk]
                exact hst j q hk w w' (hfs q) hR
              · unfold Facts.kill
                rw [if_pos hk]
                trivial
          have updS : ∀ v, ∀ k q, kl k q = false → ∀ w w', ((fs.kill kl j).upd j (F v)) q w → R k w w' → ((fs.kill kl j).upd j (F v)) q w' := fun v k q hkq w w' h3 hR => by
            by_cases hq : q = j
            · subst hq
              rw [Facts.upd_self] at *
              exact hstab _ F hs k hkq v w w' h3 hR
            · rw [Facts.upd_ne _ (fun e => hq e.symm)] at *
              cases hk : kl j q
              · rw [Facts.kill_no _ hk] at *
                exact hst k q hkq w w' h3 hR
              · unfold Facts.kill
                rw [if_pos hk]
                trivial
          cases r with
          | ok nx w' =>
            cases nx <;> simp only [growUpon] at h1
            case value u =>
              exact go _ _ w' (h2 u) (hCR _ _ _ hC h1.1) (upd u w' h1.1 h1.2) (updS u)
            case skip =>
              exact go _ _ w' (h2 undef) (hCR _ _ _ hC h1.1) (upd undef w' h1.1 h1.2) (updS undef)
            case enter f args =>
              refine Calls.mono h1 fun e w'' he => ?_
              obtain ⟨v, rfl, hR, hF⟩ := he
              exact go _ _ w'' (h2 v) (hCR _ _ _ hC hR) (upd v w'' hR hF) (updS v)
          | halt x w' => simp only [growUpon] at h1
      · rename_i hw
        rw [if_neg hw] at hout
        exact go fs _ w hout hC hfs hst
theorem gList_walkK {E : Facts → Act → Prop} {n : Nat} : ∀ (l : List Oper) (k : Nat) (fs : Facts) (a : Act), (∀ j, j < l.length → l[j]? = ops[k + j]?) →
    gListK P ops C R kl spec E k l fs a → gWalkK P ops C R kl spec E (List.range' k l.length) fs a
  | [], _, _, _, _, h => h
  | o :: l, k, fs, a, hl, h => by
    have h0 : ops[k]? = some o := by simpa using (hl 0 (by simp)).symm
    simp only [List.length_cons, List.range'_succ, gWalkK, h0]
    unfold gListK at h
    have mono : ∀ (K K' : Facts → Act → Prop), (∀ fs a, K fs a → K' fs a) → gStepK P ops C R kl spec fs k o K a → gStepK P ops C R kl spec fs k o K' a := by
      intro K K' hK hg
      unfold gStepK at *
      split
      · rename_i hw
        rw [if_pos hw] at hg
        split
        · rename_i hs
          rw [hs] at hg
          obtain ⟨c, h1, h2⟩ := hg
          exact ⟨c, h1, hK _ _ h2⟩
        · rename_i c hs
          rw [hs] at hg
          exact ⟨hg.1, hK _ _ hg.2⟩
        · rename_i F hs
          rw [hs] at hg
          exact ⟨hg.1, fun v => hK _ _ (hg.2 v)⟩
      · rename_i hw
        rw [if_neg hw] at hg
        exact hK _ _ hg
    refine mono _ _ (fun fs' a' h' => gList_walkK (n := n) l (k + 1) fs' a' (fun j hj => ?_) h') h
    have := hl (j + 1) (by simp; omega)
    simpa [Nat.add_assoc, Nat.add_comm 1 j] using this
end
section
variable {P : Program} {R : Nat → World → World → Prop} {kl : Nat → Nat → Bool} {spec : Nat → GSpec} {Q : Exit → Act → World → Prop} {a : Act} {w W : World} {id : Nat} {l : List Oper}
theorem wp_grow_tailK (n : Nat) (hm : P.follows .mixedOrders = true) (hB : growTailB l.toArray n = true) (hW : Onward W w.drew) (hkl : killB l.toArray kl n = true) (hR : ∀ k w w', Onward W w → R k w w' → Onward W w') (hstab : ∀ q F, spec q = .any F → ∀ k, kl k q = false → ∀ v w w', F v w → R k w w' → F v w') (hnk : ∀ k q, (∀ F, spec k ≠ .any F) → kl k q = false)
    (h : gListK P l.toArray (Onward W) R kl spec (fun fs a' => ∀ w', Onward W w' → (∀ j, fs j w') → wpList P l.toArray Q (l.drop n) a' w') 0 (l.take n) Facts.none a) : (Code.region id l.toArray true).wp P Q a w := by
  simp only [growTailB, Bool.and_eq_true, decide_eq_true_eq] at hB
  obtain ⟨⟨⟨⟨⟨hsel, htopo⟩, hap⟩, hn⟩, hsink⟩, hchain⟩ := hB
  refine wp_region_any hm ?_
  have hnl : n < l.length := by simp at hn; omega
  have hns : n < l.toArray.size := by omega
  have htl : (l.take n).length = n := by simp; omega
  have h2 := gList_walkK (n := 0) (l.take n) 0 Facts.none a (fun j hj => by
    rw [htl] at hj
    simp [hj]) h
  rw [htl] at h2
  have H := gAnyK (P := P) (g := 1) (Q := Q) (n := n) (by omega) hsel htopo hap hkl hR hstab hnk (E := fun fs a' => ∀ w', Onward W w' → (∀ j, fs j w') → wpList P l.toArray Q (l.drop n) a' w')
    (fun listed fs a' w' inv hnil hC hfs hE => by
      have hT := hE w' hC hfs
      obtain ⟨t, ht⟩ : ∃ t, l[n]? = some t := ⟨_, List.getElem?_eq_getElem hnl⟩
      have hd : l.drop n = [t] := by
        rw [List.drop_eq_getElem_cons hnl]
        have e1 : l[n] = t := by rw [List.getElem?_eq_getElem hnl] at ht; injection ht
        have e2 : l.drop (n + 1) = [] := List.drop_eq_nil_of_le (by simp at hn; omega)
        rw [e1, e2]
      rw [hd] at hT
      have hall : ∀ i, i < n → listed.getD i true = true := fun i hi => by
        cases hh : listed.getD i true with
        | true => rfl
        | false =>
          have := mem_heads.2 ⟨hi, hh⟩
          rw [hnil] at this
          cases this
      have hnr : n ∈ Region.ready .any l.toArray listed := by
        refine mem_ready.2 ⟨inv.tail n (Nat.le_refl _) hns, t, by simpa using ht, fun e he hb => ?_⟩
        have hlt := topo_spec htopo (show l.toArray[n]? = some t by simpa using ht) e he hb
        exact getD_both' (hall _ hlt) (by rw [inv.size]; omega)
      refine ⟨fun h0 => (by rw [h0] at hnr; cases hnr), fun i hi => ?_⟩
      have hin : i = n := by
        obtain ⟨hu, o, ho, _⟩ := mem_ready.1 hi
        have hilt : i < l.toArray.size := (Array.getElem?_eq_some_iff.1 ho).1
        rcases Nat.lt_or_ge i n with h | h
        · rw [hall i h] at hu
          cases hu
        · omega
      subst hin
      have hfin : ∀ a'' w'', Q .normal a'' w'' → wpAny P .any l.toArray Q 0 (listed.setIfInBounds i true) a'' w'' := by
        intro a'' w'' hq
        refine ⟨?_, hq⟩
        cases hr : Region.ready .any l.toArray (listed.setIfInBounds i true) with
        | nil => rfl
        | cons q qs =>
          exfalso
          have hq' := (mem_ready.1 (show q ∈ Region.ready .any l.toArray (listed.setIfInBounds i true) by rw [hr]; simp))
          obtain ⟨hu, o, ho, _⟩ := hq'
          have hqlt : q < l.toArray.size := (Array.getElem?_eq_some_iff.1 ho).1
          by_cases hqi : q = i
          · subst hqi
            have : q < listed.size := by rw [inv.size]; exact hns
            simp [this] at hu
          · rw [getD_set_ne true (fun e => hqi e.symm), hall q (by omega)] at hu
            cases hu
      unfold wpOp
      have ho : l.toArray[i]? = some t := by simpa using ht
      simp only [ho]
      unfold wpList at hT
      split
      · rename_i hw
        rw [if_pos hw] at hT
        exact hT.imp (Oper.wp_mono fun a'' w'' hq => hfin a'' w'' hq) (fun h => h)
      · rename_i hw
        rw [if_neg hw] at hT
        exact hfin _ _ hT)
    (fun listed inv hne t ht => by
      rcases Nat.lt_or_ge t n with h | h
      · exact h
      · exfalso
        obtain ⟨i, hi⟩ : ∃ i, i ∈ heads n listed := by
          cases hh : heads n listed with
          | nil => exact absurd hh hne
          | cons k ks => exact ⟨k, by simp⟩
        have hi' := mem_heads.1 hi
        exact tail_waits hsink hchain hns inv (n - i) i rfl hi'.1 hi'.2 t h ht)
    n (Array.replicate l.toArray.size false) Facts.none a w.drew (inv_start _ _) (by rw [heads_all _ _ (by omega)]; simp) (by rw [heads_all _ _ (by omega)]; exact h2) hW (fun _ => trivial) (fun _ _ _ _ _ _ _ => trivial)
  rw [hn] at H
  exact H
end
end Go.Proofs.YtcdodfekclkonaaDoor
