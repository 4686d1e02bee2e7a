import Derived.Test.YtjknadnknainbaaGreatDoorBase
import Derived.StillTail
import Derived.Test.YtjknadnknainbaaGreatDoorMem
import Derived.Laws.OwnMore
import Derived.BigQuiet
/- A region that draws its order and whose operations only add to memory: one walk in the text's order serves every order, and what each operation made is known by a fact of its own. No program is named here. -/
namespace Go.Proofs.YtjknadnknainbaaGreatDoor
open Go.RowKit

/-- What is said of an operation's value: it is found on the walk (its world is the world that it got); it is this one; it has this fact, which later worlds keep. -/
inductive GSpec where
  | det
  | con (c : Value)
  | any (F : Value → World → Prop)
def Facts := Nat → World → Prop
def Facts.none : Facts := fun _ _ => True
def Facts.upd (fs : Facts) (k : Nat) (f : World → Prop) : Facts := fun j => if j = k then f else fs j
theorem Facts.upd_comm (fs : Facts) {i j : Nat} (h : i ≠ j) (f g : World → Prop) : (fs.upd i f).upd j g = (fs.upd j g).upd i f := by
  funext q
  unfold Facts.upd
  by_cases h1 : q = j
  · by_cases h2 : q = i
    · omega
    · simp [h1, Ne.symm h]
  · by_cases h2 : q = i
    · simp [h2, h]
    · simp [h1, h2]
theorem Facts.upd_ne (fs : Facts) {i j : Nat} (h : i ≠ j) (f : World → Prop) : fs.upd i f j = fs j := by
  unfold Facts.upd
  simp [Ne.symm h]
theorem Facts.upd_self (fs : Facts) (i : Nat) (f : World → Prop) : fs.upd i f i = f := by
  unfold Facts.upd
  simp
def waits (ops : Array Oper) (j i : Nat) : Bool := Region.waitsFor .any ops j i
def detUpon (w : World) (v : Value) : Result Next → Prop
  | .ok (.value u) w' => w' = w ∧ u = v
  | .ok .skip w' => w' = w ∧ v = undef
  | _ => False
def growUpon (P : Program) (R : World → World → Prop) (F : Value → World → Prop) (w : World) : Result Next → Prop
  | .ok (.value u) w' => R w w' ∧ F u w'
  | .ok .skip w' => R w w' ∧ F undef w'
  | .ok (.enter f args) w' => Calls P f args w' (fun e w'' => ∃ v, e = .returned v ∧ R w w'' ∧ F v w'')
  | _ => False
def depsHold (ops : Array Oper) (k : Nat) (fs : Facts) (w : World) : Prop := ∀ j, waits ops k j = true → fs j w
section
variable (P : Program) (ops : Array Oper) (C : World → Prop) (R : World → World → Prop) (spec : Nat → GSpec)
def gStep (fs : Facts) (k : Nat) (o : Oper) (K : Facts → Act → Prop) (a : Act) : Prop :=
  if Region.wanted o (yielded ops a.tmps) = true then
    match spec k with
    | .det => ∃ c, (∀ w, C w → detUpon w c ((execOp a.eval o).run P w)) ∧ K fs (a.put o.dst c)
    | .con c => (∀ w, C w → depsHold ops k fs w → growUpon P R (fun v _ => v = c) w ((execOp a.eval o).run P w)) ∧ K fs (a.put o.dst c)
    | .any F => (∀ w, C w → depsHold ops k fs w → growUpon P R F w ((execOp a.eval o).run P w)) ∧ ∀ v, K (fs.upd k (F v)) (a.put o.dst v)
  else K fs (a.put o.dst undef)
/-- The same at one world. -/
def gOut (fs : Facts) (k : Nat) (o : Oper) (K : Facts → Act → Prop) (a : Act) (w : World) : Prop :=
  if Region.wanted o (yielded ops a.tmps) = true then
    match spec k with
    | .det => ∃ c, detUpon w c ((execOp a.eval o).run P w) ∧ K fs (a.put o.dst c)
    | .con c => growUpon P R (fun v _ => v = c) w ((execOp a.eval o).run P w) ∧ K fs (a.put o.dst c)
    | .any F => growUpon P R F w ((execOp a.eval o).run P w) ∧ ∀ v, K (fs.upd k (F v)) (a.put o.dst v)
  else K fs (a.put o.dst undef)
def gWalk (E : Facts → Act → Prop) : List Nat → Facts → Act → Prop
  | [], fs, a => E fs a
  | k :: is, fs, a => match ops[k]? with
    | none => gWalk E is fs a
    | some o => gStep P ops C R spec fs k o (fun fs' a' => gWalk E is fs' a') a
/-- The walk over the operations themselves. -/
def gList (E : Facts → Act → Prop) : Nat → List Oper → Facts → Act → Prop
  | _, [], fs, a => E fs a
  | k, o :: l, fs, a => gStep P ops C R spec fs k o (fun fs' a' => gList E (k + 1) l fs' a') a
end
section
variable {P : Program} {ops : Array Oper} {C : World → Prop} {R : World → World → Prop} {spec : Nat → GSpec}
theorem detUpon_same {w : World} {v u : Value} {r : Result Next} (h : detUpon w v r) (h' : detUpon w u r) : v = u := by
  cases r with
  | ok n w' =>
    cases n <;> simp only [detUpon] at h h'
    · exact h.2.symm.trans h'.2
    · exact h.2.trans h'.2.symm
  | halt x w' => simp only [detUpon] at h
theorem gOut_of_step {fs : Facts} {k : Nat} {o : Oper} {K : Facts → Act → Prop} {a : Act} {w : World} (hC : C w) (hd : depsHold ops k fs w) (h : gStep P ops C R spec fs k o K a) : gOut P ops R spec fs k o K a w := by
  unfold gStep at h
  unfold gOut
  split
  · rename_i hw
    rw [if_pos hw] at h
    split
    · rename_i hs
      rw [hs] at h
      obtain ⟨c, h1, h2⟩ := h
      exact ⟨c, h1 w hC, h2⟩
    · rename_i c hs
      rw [hs] at h
      exact ⟨h.1 w hC hd, h.2⟩
    · rename_i F hs
      rw [hs] at h
      exact ⟨h.1 w hC hd, h.2⟩
  · rename_i hw
    rw [if_neg hw] at h
    exact h
/-- One operation that may come up now, with others ahead of it in the text that it does not wait for. -/
theorem gPull {E : Facts → Act → Prop} (hsel : Region.noSelect ops = true) {j : Nat} {oj : Oper} (hj : ops[j]? = some oj) {is2 : List Nat} {w : World} (hC : C w) :
    ∀ (is1 : List Nat) (fs : Facts) (a : Act), (∀ i ∈ is1, i ≠ j ∧ waits ops j i = false ∧ waits ops i j = false ∧ ∀ oi, ops[i]? = some oi → oi.apart ops oj = true) →
      depsHold ops j fs w → gWalk P ops C R spec E (is1 ++ j :: is2) fs a → gOut P ops R spec fs j oj (fun fs' a' => gWalk P ops C R spec E (is1 ++ is2) fs' a') a w := by
  intro is1
  induction is1 with
  | nil =>
    intro fs a _ hd h
    simp only [List.nil_append, gWalk, hj] at h ⊢
    exact gOut_of_step hC hd h
  | cons i is1 ih =>
    intro fs a hall hd h
    obtain ⟨hij, hji, hijw, hap⟩ := hall i (by simp)
    have hall' := fun k (hk : k ∈ is1) => hall k (by simp [hk])
    simp only [List.cons_append, gWalk] at h ⊢
    cases hi : ops[i]? with
    | none =>
      simp only [hi] at h ⊢
      exact ih fs a hall' hd h
    | some oi =>
      simp only [hi] at h ⊢
      obtain ⟨h1, h2, h3⟩ := Oper.apart_spec (hap oi hi)
      have hsi := fun cs b => Region.noSelect_spec hsel i oi cs b hi
      have hsj := fun cs b => Region.noSelect_spec hsel j oj cs b hj
      have ei : ∀ (a : Act) (v : Value), execOp (a.put oj.dst v).eval oi = execOp a.eval oi := fun a v => execOp_put (ops := ops) oi hsi a oj.dst v h3
      have wi : ∀ (a : Act) (v : Value), Region.wanted oi (yielded ops (a.put oj.dst v).tmps) = Region.wanted oi (yielded ops a.tmps) := fun a v => wanted_put oi a oj.dst v h3
      have ej : ∀ (a : Act) (v : Value), execOp (a.put oi.dst v).eval oj = execOp a.eval oj := fun a v => execOp_put (ops := ops) oj hsj a oi.dst v h1
      have wj : ∀ (a : Act) (v : Value), Region.wanted oj (yielded ops (a.put oi.dst v).tmps) = Region.wanted oj (yielded ops a.tmps) := fun a v => wanted_put oj a oi.dst v h1
      have comm : ∀ (a : Act) (u v : Value), (a.put oi.dst u).put oj.dst v = (a.put oj.dst v).put oi.dst u := fun a u v => Act.put_comm a u v h2
      have dkeep : ∀ (fs : Facts) (f : World → Prop) (w : World), depsHold ops i (fs.upd j f) w → depsHold ops i fs w := fun fs f w hh q hq => by
        have := hh q hq
        rwa [Facts.upd_ne _ (fun e => by rw [e] at hijw; rw [hijw] at hq; cases hq)] at this
      have dj : ∀ (f : World → Prop), depsHold ops j (fs.upd i f) w := fun f q hq => by
        rw [Facts.upd_ne _ (fun e => by rw [e] at hji; rw [hji] at hq; cases hq)]
        exact hd q hq
      -- a step of i behind j
      have fold : ∀ (fs : Facts) (v : Value), gStep P ops C R spec fs i oi (fun fs' a' => gWalk P ops C R spec E (is1 ++ is2) fs' a') (a.put oj.dst v) =
          (if Region.wanted oi (yielded ops a.tmps) = true then
            match spec i with
            | .det => ∃ c, (∀ w, C w → detUpon w c ((execOp a.eval oi).run P w)) ∧ gWalk P ops C R spec E (is1 ++ is2) fs ((a.put oi.dst c).put oj.dst v)
            | .con c => (∀ w, C w → depsHold ops i fs w → growUpon P R (fun v _ => v = c) w ((execOp a.eval oi).run P w)) ∧ gWalk P ops C R spec E (is1 ++ is2) fs ((a.put oi.dst c).put oj.dst v)
            | .any F => (∀ w, C w → depsHold ops i fs w → growUpon P R F w ((execOp a.eval oi).run P w)) ∧ ∀ u, gWalk P ops C R spec E (is1 ++ is2) (fs.upd i (F u)) ((a.put oi.dst u).put oj.dst v)
          else gWalk P ops C R spec E (is1 ++ is2) fs ((a.put oi.dst undef).put oj.dst v)) := by
        intro fs v
        unfold gStep
        rw [wi]
        simp only [ei, comm]
      unfold gStep at h
      by_cases hwi : Region.wanted oi (yielded ops a.tmps) = true
      · rw [if_pos hwi] at h
        simp only [gOut, fold, if_pos hwi]
        cases hs : spec i with
        | det =>
          simp only [hs] at h ⊢
          obtain ⟨c, hc, h⟩ := h
          have h := ih fs _ hall' hd h
          unfold gOut at h
          rw [wj] at h
          simp only [ej] at h
          split
          · rename_i hwj
            rw [if_pos hwj] at h
            cases hsj' : spec j with
            | det =>
              simp only [hsj'] at h ⊢
              obtain ⟨c', g1, g2⟩ := h
              exact ⟨c', g1, c, hc, g2⟩
            | con c' =>
              simp only [hsj'] at h ⊢
              exact ⟨h.1, c, hc, h.2⟩
            | any F =>
              simp only [hsj'] at h ⊢
              exact ⟨h.1, fun v => ⟨c, hc, h.2 v⟩⟩
          · rename_i hwj
            rw [if_neg hwj] at h
            exact ⟨c, hc, h⟩
        | con c =>
          simp only [hs] at h ⊢
          obtain ⟨hc, h⟩ := h
          have h := ih fs _ hall' hd h
          unfold gOut at h
          rw [wj] at h
          simp only [ej] at h
          split
          · rename_i hwj
            rw [if_pos hwj] at h
            cases hsj' : spec j with
            | det =>
              simp only [hsj'] at h ⊢
              obtain ⟨c', g1, g2⟩ := h
              exact ⟨c', g1, hc, g2⟩
            | con c' =>
              simp only [hsj'] at h ⊢
              exact ⟨h.1, hc, h.2⟩
            | any F =>
              simp only [hsj'] at h ⊢
              exact ⟨h.1, fun v => ⟨fun w hw hd => hc w hw (dkeep _ _ _ hd), h.2 v⟩⟩
          · rename_i hwj
            rw [if_neg hwj] at h
            exact ⟨hc, h⟩
        | any F =>
          simp only [hs] at h ⊢
          obtain ⟨hc, h⟩ := h
          have h := fun u => ih (fs.upd i (F u)) _ hall' (dj _) (h u)
          simp only [gOut, wj, ej] at h
          split
          · rename_i hwj
            simp only [if_pos hwj] at h
            cases hsj' : spec j with
            | det =>
              simp only [hsj'] at h ⊢
              obtain ⟨c', g1, _⟩ := h undef
              refine ⟨c', g1, hc, fun u => ?_⟩
              obtain ⟨c2, k1, k2⟩ := h u
              rw [detUpon_same g1 k1]
              exact k2
            | con c' =>
              simp only [hsj'] at h ⊢
              exact ⟨(h undef).1, hc, fun u => (h u).2⟩
            | any F' =>
              simp only [hsj'] at h ⊢
              refine ⟨(h undef).1, fun v => ⟨fun w hw hd => hc w hw (dkeep _ _ _ hd), fun u => ?_⟩⟩
              have := (h u).2 v
              rwa [Facts.upd_comm _ hij] at this
          · rename_i hwj
            simp only [if_neg hwj] at h
            exact ⟨hc, h⟩
      · rw [if_neg hwi] at h
        simp only [gOut, fold, if_neg hwi]
        have h := ih fs _ hall' hd h
        unfold gOut at h
        rw [wj] at h
        simp only [ej] at h
        split
        · rename_i hwj
          rw [if_pos hwj] at h
          exact h
        · rename_i hwj
          rw [if_neg hwj] at h
          exact h
end
end Go.Proofs.YtjknadnknainbaaGreatDoor
/- A region that draws its order and whose operations only add to memory: the theorem. No program is named here. -/
namespace Go.Proofs.YtjknadnknainbaaGreatDoor
open Go.RowKit

def heads (n : Nat) (listed : Array Bool) : List Nat := (List.range n).filter fun i => !listed.getD i true
theorem mem_heads {n i : Nat} {listed : Array Bool} : i ∈ heads n listed ↔ i < n ∧ listed.getD i true = false := by
  unfold heads
  rw [List.mem_filter, List.mem_range]
  simp
theorem heads_sorted (n : Nat) (listed : Array Bool) : (heads n listed).Pairwise (· < ·) := List.Pairwise.filter _ List.pairwise_lt_range
theorem heads_set {n j : Nat} {listed : Array Bool} {s t : List Nat} (hsz : j < listed.size) (h : heads n listed = s ++ j :: t) : heads n (listed.setIfInBounds j true) = s ++ t := by
  have hs := heads_sorted n listed
  rw [h, List.pairwise_append] at hs
  obtain ⟨h1, h2, h3⟩ := hs
  rw [List.pairwise_cons] at h2
  have e : heads n (listed.setIfInBounds j true) = (heads n listed).filter fun i => decide (i ≠ j) := by
    unfold heads
    rw [List.filter_filter]
    refine List.filter_congr fun i _ => ?_
    by_cases hij : i = j
    · subst hij
      have : (listed.setIfInBounds i true).getD i true = true := by simp [hsz]
      rw [this]
      simp
    · rw [getD_set_ne true (fun e => hij e.symm)]
      simp [hij]
  rw [e, h, List.filter_append, List.filter_cons]
  have e1 : s.filter (fun i => decide (i ≠ j)) = s := List.filter_eq_self.2 fun i hi => by
    have := h3 i hi j (by simp)
    simp
    omega
  have e2 : t.filter (fun i => decide (i ≠ j)) = t := List.filter_eq_self.2 fun i hi => by
    have := h2.1 i hi
    simp
    omega
  rw [e1, e2]
  simp
theorem getD_both' {listed : Array Bool} {i : Nat} (h : listed.getD i true = true) (hi : i < listed.size) : listed.getD i false = true := by
  simp [hi] at h ⊢
  exact h
def topoB (ops : Array Oper) : Bool := (List.range ops.size).all fun k => match ops[k]? with
  | some o => o.after.all fun e => !Region.binds .any e || decide (e.on < k)
  | none => true
theorem topo_spec {ops : Array Oper} (h : topoB ops = true) {k : Nat} {o : Oper} (hk : ops[k]? = some o) : ∀ e ∈ o.after, Region.binds .any e = true → e.on < k := by
  intro e he hb
  have hlt : k < ops.size := (Array.getElem?_eq_some_iff.1 hk).1
  have h1 := List.all_eq_true.1 h k (List.mem_range.2 hlt)
  simp only [hk] at h1
  have h2 := Array.all_eq_true'.1 h1 e he
  simp only [hb, Bool.not_true, Bool.false_or, decide_eq_true_eq] at h2
  exact h2
def apartB (ops : Array Oper) (n : Nat) : Bool := (List.range n).all fun j => (List.range j).all fun i => waits ops j i || match ops[i]?, ops[j]? with
  | some oi, some oj => oi.apart ops oj
  | _, _ => true
theorem apart_of {ops : Array Oper} {n : Nat} (h : apartB ops n = true) {i j : Nat} (hij : i < j) (hj : j < n) (hw : waits ops j i = false) {oi oj : Oper} (hi : ops[i]? = some oi) (ho : ops[j]? = some oj) : oi.apart ops oj = true := by
  have h1 := List.all_eq_true.1 (List.all_eq_true.1 h j (List.mem_range.2 hj)) i (List.mem_range.2 hij)
  simpa [hw, hi, ho] using h1
section
variable {P : Program} {ops : Array Oper} {C : World → Prop} {R : World → World → Prop} {spec : Nat → GSpec} {Q : Exit → Act → World → Prop}
theorem waits_listed {listed : Array Bool} {j i : Nat} (hj : j ∈ Region.ready .any ops listed) (hi : listed.getD i true = false) : waits ops j i = false := by
  cases hw : waits ops j i
  · rfl
  · obtain ⟨oj, hoj, e, he, hb, hon⟩ := Region.waitsFor_spec hw
    obtain ⟨_, o, ho, hall⟩ := mem_ready.1 hj
    have : o = oj := Option.some.inj (ho.symm.trans hoj)
    subst this
    have h2 := hall e he hb
    rw [hon, getD_both hi] at h2
    cases h2
theorem gAny {n g : Nat} {E : Facts → Act → Prop} (hn : n ≤ ops.size) (hsel : Region.noSelect ops = true) (htopo : topoB ops = true) (hap : apartB ops n = true)
    (hCR : ∀ w w', C w → R w w' → C w') (hstab : ∀ k F, spec k = .any F → ∀ v w w', F v w → R w w' → F v w')
    (hend : ∀ listed fs a w, HeadInv .any ops n listed → heads n listed = [] → C w → (∀ j, fs j w) → E fs a → wpAny P .any ops Q g listed a w)
    (hsink : ∀ listed, HeadInv .any ops n listed → heads n listed ≠ [] → ∀ t ∈ Region.ready .any ops listed, t < n) :
    ∀ (m : Nat) (listed : Array Bool) (fs : Facts) (a : Act) (w : World), HeadInv .any ops n listed → (heads n listed).length = m → gWalk P ops C R spec E (heads n listed) fs a →
      C w → (∀ j, fs j w) → (∀ j w w', fs j w → R w w' → fs j w') → wpAny P .any ops Q (m + g) listed a w := by
  intro m
  induction m with
  | zero =>
    intro listed fs a w inv hl h hC hfs _
    have hnil : heads n listed = [] := List.length_eq_zero_iff.1 hl
    rw [hnil] at h
    rw [Nat.zero_add]
    exact hend listed fs a w inv hnil hC hfs h
  | succ m ih =>
    intro listed fs a w inv hl h hC hfs hst
    rw [show m + 1 + g = (m + g) + 1 by omega]
    have hne : heads n listed ≠ [] := by intro e; rw [e] at hl; simp at hl
    refine ⟨fun h0 => ?_, fun j hj => ?_⟩
    · exfalso
      obtain ⟨k, t, hkt⟩ : ∃ k t, heads n listed = k :: t := by
        cases hh : heads n listed with
        | nil => exact absurd hh hne
        | cons k t => exact ⟨k, t, rfl⟩
      have hk := mem_heads.1 (show k ∈ heads n listed by rw [hkt]; simp)
      have hks : k < ops.size := by omega
      have hmem : k ∈ Region.ready .any ops listed := by
        refine mem_ready.2 ⟨hk.2, _, Array.getElem?_eq_getElem hks, fun e he hb => ?_⟩
        have hlt := topo_spec htopo (Array.getElem?_eq_getElem hks) e he hb
        cases hl' : listed.getD e.on true with
        | true => exact getD_both' hl' (by rw [inv.size]; omega)
        | false =>
          have hin : e.on ∈ heads n listed := mem_heads.2 ⟨by omega, hl'⟩
          have hs := heads_sorted n listed
          rw [hkt] at hs hin
          rw [List.pairwise_cons] at hs
          simp only [List.mem_cons] at hin
          rcases hin with e1 | e1
          · omega
          · have := hs.1 _ e1
            omega
      rw [h0] at hmem
      cases hmem
    · have hjn := hsink listed inv hne j hj
      have hjl := (mem_ready.1 hj).1
      obtain ⟨s, t, hst'⟩ := List.append_of_mem (mem_heads.2 ⟨hjn, hjl⟩)
      obtain ⟨_, oj, hoj, _⟩ := mem_ready.1 hj
      have hsorted := heads_sorted n listed
      rw [hst', List.pairwise_append] at hsorted
      have hlt : ∀ i ∈ s, i < j := fun i hi => hsorted.2.2 i hi j (by simp)
      have hall : ∀ i ∈ s, i ≠ j ∧ waits ops j i = false ∧ waits ops i j = false ∧ ∀ oi, ops[i]? = some oi → oi.apart ops oj = true := by
        intro i hi
        have hij := hlt i hi
        have hil := (mem_heads.1 (show i ∈ heads n listed by rw [hst']; simp [hi])).2
        have hw := waits_listed hj hil
        refine ⟨by omega, hw, ?_, fun oi hoi => apart_of hap hij hjn hw hoi hoj⟩
        cases hw' : waits ops i j
        · rfl
        · obtain ⟨oi, hoi, e, he, hb, hon⟩ := Region.waitsFor_spec hw'
          have := topo_spec htopo hoi e he hb
          omega
      rw [hst'] at h
      have hdeps : depsHold ops j fs w := fun q _ => hfs q
      have hout := gPull hsel hoj hC s fs a hall hdeps h
      have hjs : j < listed.size := by rw [inv.size]; omega
      have hset := heads_set hjs hst'
      have inv' := inv.set hj hjn
      have hlen : (s ++ t).length = m := by
        rw [hst'] at hl
        simp at hl ⊢
        omega
      have go : ∀ (fs' : Facts) (a' : Act) (w' : World), gWalk P ops C R spec E (s ++ t) fs' a' → C w' → (∀ j, fs' j w') → (∀ j w w', fs' j w → R w w' → fs' j w') →
          wpAny P .any ops Q (m + g) (listed.setIfInBounds j true) a' w' := fun fs' a' w' h1 h2 h3 h4 =>
        ih _ fs' a' w' inv' (by rw [hset]; exact hlen) (by rw [hset]; exact h1) h2 h3 h4
      have keep : ∀ w', R w w' → ∀ q, fs q w' := fun w' hR q => hst q w w' (hfs q) hR
      unfold wpOp
      simp only [hoj]
      unfold gOut at hout
      split
      · rename_i hw
        rw [if_pos hw] at hout
        left
        unfold Oper.wp
        generalize (execOp a.eval oj).run P w = r at hout ⊢
        cases hs : spec j with
        | det =>
          simp only [hs] at hout
          obtain ⟨c, h1, h2⟩ := hout
          cases r with
          | ok nx w' =>
            cases nx <;> simp only [detUpon] at h1
            · obtain ⟨e1, e2⟩ := h1
              subst e1 e2
              exact go fs _ w' h2 hC hfs hst
            · obtain ⟨e1, e2⟩ := h1
              subst e1 e2
              exact go fs _ w' h2 hC hfs hst
          | halt x w' => simp only [detUpon] at h1
        | con c =>
          simp only [hs] at hout
          obtain ⟨h1, h2⟩ := hout
          cases r with
          | ok nx w' =>
            cases nx <;> simp only [growUpon] at h1
            case value u =>
              obtain ⟨hR, e⟩ := h1
              subst e
              exact go fs _ w' h2 (hCR _ _ hC hR) (keep w' hR) hst
            case skip =>
              obtain ⟨hR, e⟩ := h1
              subst e
              exact go fs _ w' h2 (hCR _ _ hC hR) (keep w' hR) hst
            case enter f args =>
              refine Calls.mono h1 fun e w'' he => ?_
              obtain ⟨v, rfl, hR, e⟩ := he
              subst e
              exact go fs _ w'' h2 (hCR _ _ hC hR) (keep w'' hR) hst
          | halt x w' => simp only [growUpon] at h1
        | any F =>
          simp only [hs] at hout
          obtain ⟨h1, h2⟩ := hout
          have upd : ∀ v w', R w w' → F v w' → (∀ q, (fs.upd j (F v)) q w') := fun v w' hR hF q => by
            by_cases hq : q = j
            · subst hq
              rw [Facts.upd_self]
              exact hF
            · rw [Facts.upd_ne _ (fun e => hq e.symm)]
              exact keep w' hR q
          have updS : ∀ v, ∀ q w w', (fs.upd j (F v)) q w → R w w' → (fs.upd j (F v)) q w' := fun v q w w' h3 hR => by
            by_cases hq : q = j
            · subst hq
              rw [Facts.upd_self] at *
              exact hstab _ F hs v w w' h3 hR
            · rw [Facts.upd_ne _ (fun e => hq e.symm)] at *
              exact hst q w w' h3 hR
          cases r with
          | ok nx w' =>
            cases nx <;> simp only [growUpon] at h1
            case value u =>
              exact go _ _ w' (h2 u) (hCR _ _ hC h1.1) (upd u w' h1.1 h1.2) (updS u)
            case skip =>
              exact go _ _ w' (h2 undef) (hCR _ _ hC h1.1) (upd undef w' h1.1 h1.2) (updS undef)
            case enter f args =>
              refine Calls.mono h1 fun e w'' he => ?_
              obtain ⟨v, rfl, hR, hF⟩ := he
              exact go _ _ w'' (h2 v) (hCR _ _ hC hR) (upd v w'' hR hF) (updS v)
          | halt x w' => simp only [growUpon] at h1
      · rename_i hw
        rw [if_neg hw] at hout
        exact go fs _ w hout hC hfs hst
theorem gList_walk {E : Facts → Act → Prop} {n : Nat} : ∀ (l : List Oper) (k : Nat) (fs : Facts) (a : Act), (∀ j, j < l.length → l[j]? = ops[k + j]?) →
    gList P ops C R spec E k l fs a → gWalk P ops C R spec E (List.range' k l.length) fs a
  | [], _, _, _, _, h => h
  | o :: l, k, fs, a, hl, h => by
    have h0 : ops[k]? = some o := by simpa using (hl 0 (by simp)).symm
    simp only [List.length_cons, List.range'_succ, gWalk, h0]
    unfold gList at h
    have mono : ∀ (K K' : Facts → Act → Prop), (∀ fs a, K fs a → K' fs a) → gStep P ops C R spec fs k o K a → gStep P ops C R spec fs k o K' a := by
      intro K K' hK hg
      unfold gStep at *
      split
      · rename_i hw
        rw [if_pos hw] at hg
        split
        · rename_i hs
          rw [hs] at hg
          obtain ⟨c, h1, h2⟩ := hg
          exact ⟨c, h1, hK _ _ h2⟩
        · rename_i c hs
          rw [hs] at hg
          exact ⟨hg.1, hK _ _ hg.2⟩
        · rename_i F hs
          rw [hs] at hg
          exact ⟨hg.1, fun v => hK _ _ (hg.2 v)⟩
      · rename_i hw
        rw [if_neg hw] at hg
        exact hK _ _ hg
    refine mono _ _ (fun fs' a' h' => gList_walk (n := n) l (k + 1) fs' a' (fun j hj => ?_) h') h
    have := hl (j + 1) (by simp; omega)
    simpa [Nat.add_assoc, Nat.add_comm 1 j] using this
end
end Go.Proofs.YtjknadnknainbaaGreatDoor
/- A region that draws its order and whose operations only add to memory: how it is used; the copy append([]T{}, xs...). No program is named here. -/
namespace Go.Proofs.YtjknadnknainbaaGreatDoor
open Go.RowKit

def Grows (w w' : World) : Prop := Below w.heap.size w w'
/-- The worlds behind W that leave what W holds alone. -/
def Onward (W : World) (w' : World) : Prop := ∃ x : Later W, w' = x.val
theorem Onward.mk' {W w' : World} (h : Below W.heap.size W w') : Onward W w' := ⟨⟨w', h⟩, rfl⟩
theorem Onward.below {W w' : World} (h : Onward W w') : Below W.heap.size W w' := by
  obtain ⟨x, rfl⟩ := h
  exact x.below
theorem onward_step {W : World} : ∀ w w', Onward W w → Grows w w' → Onward W w' := fun _ _ h h' => Onward.mk' (h.below.trans (Below.mono h' h.below.size))
def growB (ops : Array Oper) : Bool := Region.noSelect ops && topoB ops && apartB ops ops.size
def growTailB (ops : Array Oper) (n : Nat) : Bool := Region.noSelect ops && topoB ops && apartB ops n && decide (n + 1 = ops.size) && Region.sinkB .any ops n && Region.chainB .any ops n
theorem heads_all (n m : Nat) (h : n ≤ m) : heads n (Array.replicate m false) = List.range' 0 n := by
  unfold heads
  rw [List.range_eq_range', List.filter_eq_self]
  intro i hi
  have := List.mem_range'_1.1 hi
  simp [show i < m by omega]
theorem inv_start (ops : Array Oper) (n : Nat) : HeadInv .any ops n (Array.replicate ops.size false) :=
  ⟨by simp, fun j oj _ hl => (by rw [getD_replicate_false] at hl; cases hl), fun t _ ht => getD_in (by simpa using ht) (getD_replicate_false _ _)⟩
section
variable {P : Program} {spec : Nat → GSpec} {Q : Exit → Act → World → Prop} {a : Act} {w W : World} {id : Nat} {l : List Oper}
theorem wp_grow (hm : P.follows .mixedOrders = true) (hB : growB l.toArray = true) (hW : Onward W w.drew) (hstab : ∀ k F, spec k = .any F → ∀ v w w', F v w → Grows w w' → F v w')
    (h : gList P l.toArray (Onward W) Grows spec (fun fs a' => ∀ w', Onward W w' → (∀ j, fs j w') → Q .normal a' w') 0 l Facts.none a) : (Code.region id l.toArray true).wp P Q a w := by
  simp only [growB, Bool.and_eq_true] at hB
  obtain ⟨⟨hsel, htopo⟩, hap⟩ := hB
  refine wp_region_any hm ?_
  have h2 := gList_walk (n := 0) l 0 Facts.none a (fun j hj => by simp) h
  have H := gAny (P := P) (g := 0) (Q := Q) (n := l.toArray.size) (Nat.le_refl _) hsel htopo hap onward_step hstab (E := fun fs a' => ∀ w', Onward W w' → (∀ j, fs j w') → Q .normal a' w')
    (fun listed fs a' w' inv hnil hC hfs hE => by
      refine ⟨?_, hE w' hC hfs⟩
      cases hr : Region.ready .any l.toArray listed with
      | nil => rfl
      | cons t ts =>
        have ht := (mem_ready.1 (show t ∈ Region.ready .any l.toArray listed by rw [hr]; simp))
        have hlt : t < l.toArray.size := by
          obtain ⟨_, o, ho, _⟩ := ht
          exact (Array.getElem?_eq_some_iff.1 ho).1
        have := mem_heads.2 ⟨hlt, ht.1⟩
        rw [hnil] at this
        cases this)
    (fun listed inv _ t ht => by
      obtain ⟨_, o, ho, _⟩ := mem_ready.1 ht
      exact (Array.getElem?_eq_some_iff.1 ho).1)
    l.length (Array.replicate l.toArray.size false) Facts.none a w.drew (inv_start _ _) (by rw [heads_all _ _ (Nat.le_refl _)]; simp) (by rw [heads_all _ _ (Nat.le_refl _)]; simpa using h2) hW (fun _ => trivial) (fun _ _ _ _ _ => trivial)
  simpa using H
theorem wp_grow_tail (n : Nat) (hm : P.follows .mixedOrders = true) (hB : growTailB l.toArray n = true) (hW : Onward W w.drew) (hstab : ∀ k F, spec k = .any F → ∀ v w w', F v w → Grows w w' → F v w')
    (h : gList P l.toArray (Onward W) Grows spec (fun fs a' => ∀ w', Onward W w' → (∀ j, fs j w') → wpList P l.toArray Q (l.drop n) a' w') 0 (l.take n) Facts.none a) : (Code.region id l.toArray true).wp P Q a w := by
  simp only [growTailB, Bool.and_eq_true, decide_eq_true_eq] at hB
  obtain ⟨⟨⟨⟨⟨hsel, htopo⟩, hap⟩, hn⟩, hsink⟩, hchain⟩ := hB
  refine wp_region_any hm ?_
  have hnl : n < l.length := by simp at hn; omega
  have hns : n < l.toArray.size := by omega
  have htl : (l.take n).length = n := by simp; omega
  have h2 := gList_walk (n := 0) (l.take n) 0 Facts.none a (fun j hj => by
    rw [htl] at hj
    simp [hj]) h
  rw [htl] at h2
  have H := gAny (P := P) (g := 1) (Q := Q) (n := n) (by omega) hsel htopo hap onward_step hstab (E := fun fs a' => ∀ w', Onward W w' → (∀ j, fs j w') → wpList P l.toArray Q (l.drop n) a' w')
    (fun listed fs a' w' inv hnil hC hfs hE => by
      have hT := hE w' hC hfs
      obtain ⟨t, ht⟩ : ∃ t, l[n]? = some t := ⟨_, List.getElem?_eq_getElem hnl⟩
      have hd : l.drop n = [t] := by
        rw [List.drop_eq_getElem_cons hnl]
        have e1 : l[n] = t := by rw [List.getElem?_eq_getElem hnl] at ht; injection ht
        have e2 : l.drop (n + 1) = [] := List.drop_eq_nil_of_le (by simp at hn; omega)
        rw [e1, e2]
      rw [hd] at hT
      have hall : ∀ i, i < n → listed.getD i true = true := fun i hi => by
        cases hh : listed.getD i true with
        | true => rfl
        | false =>
          have := mem_heads.2 ⟨hi, hh⟩
          rw [hnil] at this
          cases this
      have hnr : n ∈ Region.ready .any l.toArray listed := by
        refine mem_ready.2 ⟨inv.tail n (Nat.le_refl _) hns, t, by simpa using ht, fun e he hb => ?_⟩
        have hlt := topo_spec htopo (show l.toArray[n]? = some t by simpa using ht) e he hb
        exact getD_both' (hall _ hlt) (by rw [inv.size]; omega)
      refine ⟨fun h0 => (by rw [h0] at hnr; cases hnr), fun i hi => ?_⟩
      have hin : i = n := by
        obtain ⟨hu, o, ho, _⟩ := mem_ready.1 hi
        have hilt : i < l.toArray.size := (Array.getElem?_eq_some_iff.1 ho).1
        rcases Nat.lt_or_ge i n with h | h
        · rw [hall i h] at hu
          cases hu
        · omega
      subst hin
      have hfin : ∀ a'' w'', Q .normal a'' w'' → wpAny P .any l.toArray Q 0 (listed.setIfInBounds i true) a'' w'' := by
        intro a'' w'' hq
        refine ⟨?_, hq⟩
        cases hr : Region.ready .any l.toArray (listed.setIfInBounds i true) with
        | nil => rfl
        | cons q qs =>
          exfalso
          have hq' := (mem_ready.1 (show q ∈ Region.ready .any l.toArray (listed.setIfInBounds i true) by rw [hr]; simp))
          obtain ⟨hu, o, ho, _⟩ := hq'
          have hqlt : q < l.toArray.size := (Array.getElem?_eq_some_iff.1 ho).1
          by_cases hqi : q = i
          · subst hqi
            have : q < listed.size := by rw [inv.size]; exact hns
            simp [this] at hu
          · rw [getD_set_ne true (fun e => hqi e.symm), hall q (by omega)] at hu
            cases hu
      unfold wpOp
      have ho : l.toArray[i]? = some t := by simpa using ht
      simp only [ho]
      unfold wpList at hT
      split
      · rename_i hw
        rw [if_pos hw] at hT
        exact hT.imp (Oper.wp_mono fun a'' w'' hq => hfin a'' w'' hq) (fun h => h)
      · rename_i hw
        rw [if_neg hw] at hT
        exact hfin _ _ hT)
    (fun listed inv hne t ht => by
      rcases Nat.lt_or_ge t n with h | h
      · exact h
      · exfalso
        obtain ⟨i, hi⟩ : ∃ i, i ∈ heads n listed := by
          cases hh : heads n listed with
          | nil => exact absurd hh hne
          | cons k ks => exact ⟨k, by simp⟩
        have hi' := mem_heads.1 hi
        exact tail_waits hsink hchain hns inv (n - i) i rfl hi'.1 hi'.2 t h ht)
    n (Array.replicate l.toArray.size false) Facts.none a w.drew (inv_start _ _) (by rw [heads_all _ _ (by omega)]; simp) (by rw [heads_all _ _ (by omega)]; exact h2) hW (fun _ => trivial) (fun _ _ _ _ _ => trivial)
  rw [hn] at H
  exact H
end
end Go.Proofs.YtjknadnknainbaaGreatDoor
/- The steps of a walk over a region that adds to memory: what is found on the walk, a fact, a value; the copy append([]T{}, xs...). No program is named here. -/
namespace Go.Proofs.YtjknadnknainbaaGreatDoor
open Go.RowKit

def plainOp : Op → Bool
  | .move _ | .assign _ | .pick .. | .load .. | .fieldAddr .. | .indexAddr .. | .binOp .. | .unOp .. | .convert .. | .build .. | .extract .. | .slice .. | .index .. | .field .. => true
  | _ => false
theorem plain_noEnter {P : Program} {ρ : Operand → Value} {o : Oper} (h : plainOp o.op = true) (w : World) (f : FuncId) (args : Array Value) (w' : World) : (execOp ρ o).run P w ≠ .ok (.enter f args) w' := by
  have key : ∀ {α : Type} (s : Sem α) (g : α → Value), (do pure (Next.value (g (← s))) : Sem Next).run P w ≠ .ok (.enter f args) w' := fun s g => by
    simp only [Sem.run_bind, Sem.run_pure]
    cases s.run P w with
    | ok v w1 => simp [Result.andThen]
    | halt x w1 => simp [Result.andThen]
  obtain ⟨dst, op, type, pos, after, guard⟩ := o
  cases op <;> simp only [plainOp, Bool.false_eq_true] at h <;> simp only [execOp]
  case move x => simp
  case assign x => simp
  case pick c x y => exact key (asBool (ρ c)) fun b => if b then ρ x else ρ y
  all_goals exact key _ id
theorem det_of_quiet {P : Program} {C : World → Prop} {w : World} {v : Value} {r : Result Next} (h : Oper.quietUpon P C w v r) (hn : ∀ f args w', r ≠ .ok (.enter f args) w') : detUpon w v r := by
  cases r with
  | ok n w' =>
    cases n <;> simp only [Oper.quietUpon] at h
    · exact h
    · exact h
    · exact absurd rfl (hn _ _ _)
  | halt x w' => simp only [Oper.quietUpon] at h
def detsFrom (spec : Nat → GSpec) : Nat → List Oper → Prop
  | _, [] => True
  | k, o :: l => spec k = .det ∧ plainOp o.op = true ∧ detsFrom spec (k + 1) l
section
variable {P : Program} {ops : Array Oper} {C : World → Prop} {R : World → World → Prop} {spec : Nat → GSpec} {E : Facts → Act → Prop}
/-- A stretch of operations that only read: the walk of a quiet region serves. -/
theorem gList_quiet : ∀ (l1 : List Oper) {l2 : List Oper} {k : Nat} {fs : Facts} {a : Act}, detsFrom spec k l1 →
    wpQuiet P ops C (fun a' => gList P ops C R spec E (k + l1.length) l2 fs a') l1 a → gList P ops C R spec E k (l1 ++ l2) fs a
  | [], l2, k, fs, a, _, h => by simpa [wpQuiet] using h
  | o :: l1, l2, k, fs, a, hd, h => by
    obtain ⟨hs, hp, hd'⟩ := hd
    simp only [List.cons_append, gList, gStep, hs]
    unfold wpQuiet at h
    have e : ∀ x : Act → Prop, (k + (o :: l1).length) = (k + 1) + l1.length := fun _ => by simp; omega
    rw [e (fun _ => True)] at h
    split
    · rename_i hw
      rw [if_pos hw] at h
      obtain ⟨c, h1, h2⟩ := h
      exact ⟨c, fun w hC => det_of_quiet (h1 w hC) (plain_noEnter hp w), gList_quiet l1 hd' h2⟩
    · rename_i hw
      rw [if_neg hw] at h
      exact gList_quiet l1 hd' h
theorem gList_any {k : Nat} {o : Oper} {l : List Oper} {fs : Facts} {a : Act} (F : Value → World → Prop) (hs : spec k = .any F) (hg : o.guard = none)
    (h1 : ∀ w, C w → depsHold ops k fs w → growUpon P R F w ((execOp a.eval o).run P w)) (h2 : ∀ v, gList P ops C R spec E (k + 1) l (fs.upd k (F v)) (a.put o.dst v)) : gList P ops C R spec E k (o :: l) fs a := by
  have hw : Region.wanted o (yielded ops a.tmps) = true := by simp [Region.wanted, hg]
  simp only [gList, gStep, hs, if_pos hw]
  exact ⟨h1, h2⟩
theorem gList_con {k : Nat} {o : Oper} {l : List Oper} {fs : Facts} {a : Act} (c : Value) (hs : spec k = .con c) (hg : o.guard = none)
    (h1 : ∀ w, C w → depsHold ops k fs w → growUpon P R (fun v _ => v = c) w ((execOp a.eval o).run P w)) (h2 : gList P ops C R spec E (k + 1) l fs (a.put o.dst c)) : gList P ops C R spec E k (o :: l) fs a := by
  have hw : Region.wanted o (yielded ops a.tmps) = true := by simp [Region.wanted, hg]
  simp only [gList, gStep, hs, if_pos hw]
  exact ⟨h1, h2⟩
/-- A call, by its contract. -/
theorem grow_call {f : FuncId} {args : Array Value} {w : World} {F : Value → World → Prop} {o : Oper} {a : Act} (hr : (execOp a.eval o).run P w = .ok (.enter f args) w)
    (h : Calls P f args w fun e w'' => ∃ v, e = .returned v ∧ R w w'' ∧ F v w'') : growUpon P R F w ((execOp a.eval o).run P w) := by
  rw [hr]
  exact h
end
/-- What a copied slice is: a row of its own, with these cells. -/
def RowOf (base e size n : Nat) (xs : List Value) (v : Value) (w : World) : Prop := ∃ A c, v = .slice A n c ∧ w.ownsRow base e size (.slice A n c) n xs
theorem RowOf.stable {base e size n : Nat} {xs : List Value} : ∀ v w w', RowOf base e size n xs v w → Grows w w' → RowOf base e size n xs v w' := by
  rintro v w w' ⟨A, c, rfl, h⟩ hg
  exact ⟨A, c, rfl, own_below h hg⟩
/-- An empty literal. -/
def LitOf (base e size : Nat) (v : Value) (w : World) : Prop := ∃ g, v = .slice (some ⟨g, 0, none⟩) 0 0 ∧ w.ownsRow base e size (.slice (some ⟨g, 0, none⟩) 0 0) 0 []
theorem LitOf.stable {base e size : Nat} : ∀ v w w', LitOf base e size v w → Grows w w' → LitOf base e size v w' := by
  rintro v w w' ⟨g, rfl, h⟩ hg
  exact ⟨g, rfl, own_below h hg⟩
theorem lit_made {w : World} {base e size : Nat} (hb : base ≤ w.heap.size) : LitOf base e size (.slice (some ⟨w.heap.size, 0, none⟩) 0 0) (w.alloc (.cells #[] e)) :=
  ⟨w.heap.size, rfl, own_lit #[] 0 rfl hb (Nat.zero_le _) (by simp)⟩
theorem run_copy {P : Program} {w : World} {base t ty e : Nat} {z : Value} {size bytes : Nat} (ht : P.underlying t = some (.slice e)) (hinfo : (P.info? e).map (fun i => (i.zero, i.size, i.bytes)) = some (some z, size, bytes))
    (hzs : z.cells.size = size) (hsz : 0 < size) {s : Value} (hs : LitOf base e size s w) {A : Option Addr} {n c B : Nat} {xs : List Value} (hl : xs.length = n * size) (hc : Cells w B A xs) (hnil : A = none → c = 0)
    (h1 : ∀ u ∈ xs, u.oneCell' = true) (hn : n ≤ 1000000000) (hbytes : bytes ≤ 1000) (hbase : base ≤ w.heap.size) :
    ∃ v w', (Builtin.append_ #[t, t] ty #[s, .slice A n c]).run P w = .ok v w' ∧ Grows w w' ∧ RowOf base e size n xs v w' := by
  obtain ⟨i, hi, hz0, hz1, hz2⟩ := info_parts hinfo
  obtain ⟨g, rfl, hown⟩ := hs
  by_cases h0 : n = 0
  · subst h0
    have hxs : xs = [] := List.length_eq_zero_iff.1 (by omega)
    subst hxs
    refine ⟨.slice (some ⟨g, 0, none⟩) 0 0, w, ?_, Below.refl _ _, ⟨_, _, rfl, hown⟩⟩
    cases A with
    | none =>
      have := hnil rfl
      subst this
      simp [Builtin.append_, run_underlying ht, sizeOf, typeInfo, hi, Builtin.lenOf, Builtin.firstCells, storeCells]
    | some a =>
      have hf := run_firstCells_some (P := P) w i.size 0 a 0 c [] (by simp) (by simp)
      simp [Builtin.append_, run_underlying ht, sizeOf, typeInfo, hi, Builtin.lenOf, hf, storeCells]
  · have hx0 : 0 < xs.length := by rw [hl]; exact Nat.mul_pos (by omega) hsz
    obtain ⟨b, off, rfl, hb, hcl⟩ := hc hx0
    have hmul : (0 + n) * bytes ≤ 1000000000 * 1000 := Nat.mul_le_mul (by omega) hbytes
    have hcl' : ∀ j u, xs[j]? = some u → w.cell? ((⟨b, off, none⟩ : Addr).add j) = some u := fun j u hu => by
      have e : (⟨b, off, none⟩ : Addr).add j = ⟨b, off + j, none⟩ := by simp [Addr.add]
      rw [e]
      exact hcl j u hu
    obtain ⟨v', w', hr, ho, _, _⟩ := run_append_own (P := P) w base t ty e i z size bytes ht hi hz0 hz1 hz2 hzs hsz _ 0 [] hown ⟨b, off, none⟩ n c xs hl hcl' h1 (by unfold maxLen; omega) (by omega) hbase
    have hg := run_append_grow (P := P) (w := w) t ty e i z ht hi hz0 ⟨g, 0, none⟩ 0 0 [] (by simp) (by simp) ⟨b, off, none⟩ n c xs (by rw [hz1]; exact hl) hcl' (by omega) (by omega) (growslice_fits (by omega) (by rw [hz2]; omega))
    rw [hr] at hg
    injection hg with e1 e2
    refine ⟨v', w', hr, ?_, ?_⟩
    · rw [e2]
      exact (Below.refl _ _).drew.alloc (Nat.le_refl _) _
    · obtain ⟨A', c', rfl⟩ := own_shape ho
      rw [Nat.zero_add, List.nil_append] at ho
      rw [Nat.zero_add]
      exact ⟨A', c', rfl, ho⟩
end Go.Proofs.YtjknadnknainbaaGreatDoor
/- A region that draws its order, one operation of which writes on in a row that an earlier one has made: as Grow, but each operation has its own relation between the worlds, and an operation may end an earlier one's fact. No program is named here. -/
namespace Go.Proofs.YtjknadnknainbaaGreatDoor
open Go.RowKit

def Facts.kill (fs : Facts) (kl : Nat → Nat → Bool) (k : Nat) : Facts := fun q => if kl k q = true then fun _ => True else fs q
theorem kill_no_of {ops : Array Oper} {kl : Nat → Nat → Bool} {i j q : Nat} (h : ∀ q, kl j q = true → waits ops i q = false) (hq : waits ops i q = true) : kl j q = false := by
  cases e : kl j q
  · rfl
  · rw [h q e] at hq
    cases hq
theorem Facts.kill_no (fs : Facts) {kl : Nat → Nat → Bool} {k q : Nat} (h : kl k q = false) : fs.kill kl k q = fs q := by
  unfold Facts.kill
  simp [h]
theorem Facts.kill_of {fs : Facts} {kl : Nat → Nat → Bool} {k q : Nat} {w : World} (h : fs q w) : fs.kill kl k q w := by
  unfold Facts.kill
  split
  · trivial
  · exact h
theorem Facts.kill_comm (fs : Facts) {kl : Nat → Nat → Bool} {i j : Nat} (h : i ≠ j) (h1 : kl i j = false) (h2 : kl j i = false) (f g : World → Prop) :
    (((fs.kill kl i).upd i f).kill kl j).upd j g = (((fs.kill kl j).upd j g).kill kl i).upd i f := by
  funext q
  unfold Facts.upd Facts.kill
  by_cases hq1 : q = j
  · subst hq1
    have e : ¬ q = i := fun e => h e.symm
    simp [e, h1]
  · by_cases hq2 : q = i
    · subst hq2
      simp [hq1, h2]
    · simp [hq1, hq2]
      by_cases a : kl i q = true <;> by_cases b : kl j q = true <;> simp [a, b]
section
variable (P : Program) (ops : Array Oper) (C : World → Prop) (R : Nat → World → World → Prop) (kl : Nat → Nat → Bool) (spec : Nat → GSpec)
def gStepK (fs : Facts) (k : Nat) (o : Oper) (K : Facts → Act → Prop) (a : Act) : Prop :=
  if Region.wanted o (yielded ops a.tmps) = true then
    match spec k with
    | .det => ∃ c, (∀ w, C w → detUpon w c ((execOp a.eval o).run P w)) ∧ K fs (a.put o.dst c)
    | .con c => (∀ w, C w → depsHold ops k fs w → growUpon P (R k) (fun v _ => v = c) w ((execOp a.eval o).run P w)) ∧ K fs (a.put o.dst c)
    | .any F => (∀ w, C w → depsHold ops k fs w → growUpon P (R k) F w ((execOp a.eval o).run P w)) ∧ ∀ v, K ((fs.kill kl k).upd k (F v)) (a.put o.dst v)
  else K fs (a.put o.dst undef)
/-- The same at one world. -/
def gOutK (fs : Facts) (k : Nat) (o : Oper) (K : Facts → Act → Prop) (a : Act) (w : World) : Prop :=
  if Region.wanted o (yielded ops a.tmps) = true then
    match spec k with
    | .det => ∃ c, detUpon w c ((execOp a.eval o).run P w) ∧ K fs (a.put o.dst c)
    | .con c => growUpon P (R k) (fun v _ => v = c) w ((execOp a.eval o).run P w) ∧ K fs (a.put o.dst c)
    | .any F => growUpon P (R k) F w ((execOp a.eval o).run P w) ∧ ∀ v, K ((fs.kill kl k).upd k (F v)) (a.put o.dst v)
  else K fs (a.put o.dst undef)
def gWalkK (E : Facts → Act → Prop) : List Nat → Facts → Act → Prop
  | [], fs, a => E fs a
  | k :: is, fs, a => match ops[k]? with
    | none => gWalkK E is fs a
    | some o => gStepK P ops C R kl spec fs k o (fun fs' a' => gWalkK E is fs' a') a
/-- The walk over the operations themselves. -/
def gListK (E : Facts → Act → Prop) : Nat → List Oper → Facts → Act → Prop
  | _, [], fs, a => E fs a
  | k, o :: l, fs, a => gStepK P ops C R kl spec fs k o (fun fs' a' => gListK E (k + 1) l fs' a') a
end
section
variable {P : Program} {ops : Array Oper} {C : World → Prop} {R : Nat → World → World → Prop} {kl : Nat → Nat → Bool} {spec : Nat → GSpec}
theorem gOutK_of_step {fs : Facts} {k : Nat} {o : Oper} {K : Facts → Act → Prop} {a : Act} {w : World} (hC : C w) (hd : depsHold ops k fs w) (h : gStepK P ops C R kl spec fs k o K a) : gOutK P ops R kl spec fs k o K a w := by
  unfold gStepK at h
  unfold gOutK
  split
  · rename_i hw
    rw [if_pos hw] at h
    split
    · rename_i hs
      rw [hs] at h
      obtain ⟨c, h1, h2⟩ := h
      exact ⟨c, h1 w hC, h2⟩
    · rename_i c hs
      rw [hs] at h
      exact ⟨h.1 w hC hd, h.2⟩
    · rename_i F hs
      rw [hs] at h
      exact ⟨h.1 w hC hd, h.2⟩
  · rename_i hw
    rw [if_neg hw] at h
    exact h
/-- One operation that may come up now, with others ahead of it in the text that it does not wait for. -/
theorem gPullK {E : Facts → Act → Prop} (hsel : Region.noSelect ops = true) {j : Nat} {oj : Oper} (hj : ops[j]? = some oj) {is2 : List Nat} {w : World} (hC : C w) :
    ∀ (is1 : List Nat) (fs : Facts) (a : Act), (∀ i ∈ is1, i ≠ j ∧ waits ops j i = false ∧ waits ops i j = false ∧ kl i j = false ∧ kl j i = false ∧ (∀ q, kl j q = true → waits ops i q = false) ∧ ∀ oi, ops[i]? = some oi → oi.apart ops oj = true) →
      depsHold ops j fs w → gWalkK P ops C R kl spec E (is1 ++ j :: is2) fs a → gOutK P ops R kl spec fs j oj (fun fs' a' => gWalkK P ops C R kl spec E (is1 ++ is2) fs' a') a w := by
  intro is1
  induction is1 with
  | nil =>
    intro fs a _ hd h
    simp only [List.nil_append, gWalkK, hj] at h ⊢
    exact gOutK_of_step hC hd h
  | cons i is1 ih =>
    intro fs a hall hd h
    obtain ⟨hij, hji, hijw, hk1, hk2, hk3, hap⟩ := hall i (by simp)
    have hall' := fun k (hk : k ∈ is1) => hall k (by simp [hk])
    simp only [List.cons_append, gWalkK] at h ⊢
    cases hi : ops[i]? with
    | none =>
      simp only [hi] at h ⊢
      exact ih fs a hall' hd h
    | some oi =>
      simp only [hi] at h ⊢
      obtain ⟨h1, h2, h3⟩ := Oper.apart_spec (hap oi hi)
      have hsi := fun cs b => Region.noSelect_spec hsel i oi cs b hi
      have hsj := fun cs b => Region.noSelect_spec hsel j oj cs b hj
      have ei : ∀ (a : Act) (v : Value), execOp (a.put oj.dst v).eval oi = execOp a.eval oi := fun a v => execOp_put (ops := ops) oi hsi a oj.dst v h3
      have wi : ∀ (a : Act) (v : Value), Region.wanted oi (yielded ops (a.put oj.dst v).tmps) = Region.wanted oi (yielded ops a.tmps) := fun a v => wanted_put oi a oj.dst v h3
      have ej : ∀ (a : Act) (v : Value), execOp (a.put oi.dst v).eval oj = execOp a.eval oj := fun a v => execOp_put (ops := ops) oj hsj a oi.dst v h1
      have wj : ∀ (a : Act) (v : Value), Region.wanted oj (yielded ops (a.put oi.dst v).tmps) = Region.wanted oj (yielded ops a.tmps) := fun a v => wanted_put oj a oi.dst v h1
      have comm : ∀ (a : Act) (u v : Value), (a.put oi.dst u).put oj.dst v = (a.put oj.dst v).put oi.dst u := fun a u v => Act.put_comm a u v h2
      have dkeep : ∀ (fs : Facts) (f : World → Prop) (w : World), depsHold ops i ((fs.kill kl j).upd j f) w → depsHold ops i fs w := fun fs f w hh q hq => by
        have := hh q hq
        rw [Facts.upd_ne _ (fun e => by rw [e] at hijw; rw [hijw] at hq; cases hq)] at this
        rwa [Facts.kill_no _ (kill_no_of hk3 hq)] at this
      have dj : ∀ (f : World → Prop), depsHold ops j ((fs.kill kl i).upd i f) w := fun f q hq => by
        rw [Facts.upd_ne _ (fun e => by rw [e] at hji; rw [hji] at hq; cases hq)]
        exact Facts.kill_of (hd q hq)
      -- a step of i behind j
      have fold : ∀ (fs : Facts) (v : Value), gStepK P ops C R kl spec fs i oi (fun fs' a' => gWalkK P ops C R kl spec E (is1 ++ is2) fs' a') (a.put oj.dst v) =
          (if Region.wanted oi (yielded ops a.tmps) = true then
            match spec i with
            | .det => ∃ c, (∀ w, C w → detUpon w c ((execOp a.eval oi).run P w)) ∧ gWalkK P ops C R kl spec E (is1 ++ is2) fs ((a.put oi.dst c).put oj.dst v)
            | .con c => (∀ w, C w → depsHold ops i fs w → growUpon P (R i) (fun v _ => v = c) w ((execOp a.eval oi).run P w)) ∧ gWalkK P ops C R kl spec E (is1 ++ is2) fs ((a.put oi.dst c).put oj.dst v)
            | .any F => (∀ w, C w → depsHold ops i fs w → growUpon P (R i) F w ((execOp a.eval oi).run P w)) ∧ ∀ u, gWalkK P ops C R kl spec E (is1 ++ is2) ((fs.kill kl i).upd i (F u)) ((a.put oi.dst u).put oj.dst v)
          else gWalkK P ops C R kl spec E (is1 ++ is2) fs ((a.put oi.dst undef).put oj.dst v)) := by
        intro fs v
        unfold gStepK
        rw [wi]
        simp only [ei, comm]
      unfold gStepK at h
      by_cases hwi : Region.wanted oi (yielded ops a.tmps) = true
      · rw [if_pos hwi] at h
        simp only [gOutK, fold, if_pos hwi]
        cases hs : spec i with
        | det =>
          simp only [hs] at h ⊢
          obtain ⟨c, hc, h⟩ := h
          have h := ih fs _ hall' hd h
          unfold gOutK at h
          rw [wj] at h
          simp only [ej] at h
          split
          · rename_i hwj
            rw [if_pos hwj] at h
            cases hsj' : spec j with
            | det =>
              simp only [hsj'] at h ⊢
              obtain ⟨c', g1, g2⟩ := h
              exact ⟨c', g1, c, hc, g2⟩
            | con c' =>
              simp only [hsj'] at h ⊢
              exact ⟨h.1, c, hc, h.2⟩
            | any F =>
              simp only [hsj'] at h ⊢
              exact ⟨h.1, fun v => ⟨c, hc, h.2 v⟩⟩
          · rename_i hwj
            rw [if_neg hwj] at h
            exact ⟨c, hc, h⟩
        | con c =>
          simp only [hs] at h ⊢
          obtain ⟨hc, h⟩ := h
          have h := ih fs _ hall' hd h
          unfold gOutK at h
          rw [wj] at h
          simp only [ej] at h
          split
          · rename_i hwj
            rw [if_pos hwj] at h
            cases hsj' : spec j with
            | det =>
              simp only [hsj'] at h ⊢
              obtain ⟨c', g1, g2⟩ := h
              exact ⟨c', g1, hc, g2⟩
            | con c' =>
              simp only [hsj'] at h ⊢
              exact ⟨h.1, hc, h.2⟩
            | any F =>
              simp only [hsj'] at h ⊢
              exact ⟨h.1, fun v => ⟨fun w hw hd => hc w hw (dkeep _ _ _ hd), h.2 v⟩⟩
          · rename_i hwj
            rw [if_neg hwj] at h
            exact ⟨hc, h⟩
        | any F =>
          simp only [hs] at h ⊢
          obtain ⟨hc, h⟩ := h
          have h := fun u => ih ((fs.kill kl i).upd i (F u)) _ hall' (dj _) (h u)
          simp only [gOutK, wj, ej] at h
          split
          · rename_i hwj
            simp only [if_pos hwj] at h
            cases hsj' : spec j with
            | det =>
              simp only [hsj'] at h ⊢
              obtain ⟨c', g1, _⟩ := h undef
              refine ⟨c', g1, hc, fun u => ?_⟩
              obtain ⟨c2, k1, k2⟩ := h u
              rw [detUpon_same g1 k1]
              exact k2
            | con c' =>
              simp only [hsj'] at h ⊢
              exact ⟨(h undef).1, hc, fun u => (h u).2⟩
            | any F' =>
              simp only [hsj'] at h ⊢
              refine ⟨(h undef).1, fun v => ⟨fun w hw hd => hc w hw (dkeep _ _ _ hd), fun u => ?_⟩⟩
              have := (h u).2 v
              rwa [Facts.kill_comm _ hij hk1 hk2] at this
          · rename_i hwj
            simp only [if_neg hwj] at h
            exact ⟨hc, h⟩
      · rw [if_neg hwi] at h
        simp only [gOutK, fold, if_neg hwi]
        have h := ih fs _ hall' hd h
        unfold gOutK at h
        rw [wj] at h
        simp only [ej] at h
        split
        · rename_i hwj
          rw [if_pos hwj] at h
          exact h
        · rename_i hwj
          rw [if_neg hwj] at h
          exact h
end
def killB (ops : Array Oper) (kl : Nat → Nat → Bool) (n : Nat) : Bool := (List.range n).all fun j => (List.range j).all fun i => waits ops j i || (!kl i j && !kl j i && (List.range ops.size).all fun q => !kl j q || !waits ops i q)
theorem kill_spec {ops : Array Oper} {kl : Nat → Nat → Bool} {n i j : Nat} (htopo : topoB ops = true) (h : killB ops kl n = true) (hij : i < j) (hj : j < n) (hn : n ≤ ops.size) (hw : waits ops j i = false) : kl i j = false ∧ kl j i = false ∧ ∀ q, kl j q = true → waits ops i q = false := by
  have h1 := List.all_eq_true.1 (List.all_eq_true.1 h j (List.mem_range.2 hj)) i (List.mem_range.2 hij)
  rw [hw, Bool.false_or, Bool.and_eq_true, Bool.and_eq_true] at h1
  refine ⟨by simpa using h1.1.1, by simpa using h1.1.2, fun q hq => ?_⟩
  by_cases hqs : q < ops.size
  · have h2 := List.all_eq_true.1 h1.2 q (List.mem_range.2 hqs)
    rw [hq] at h2
    simpa using h2
  · cases hw' : waits ops i q
    · rfl
    · obtain ⟨oi, hoi, e, he, hb, hon⟩ := Region.waitsFor_spec hw'
      have := topo_spec htopo hoi e he hb
      omega
section
variable {P : Program} {ops : Array Oper} {C : World → Prop} {R : Nat → World → World → Prop} {kl : Nat → Nat → Bool} {spec : Nat → GSpec} {Q : Exit → Act → World → Prop}
theorem gAnyK {n g : Nat} {E : Facts → Act → Prop} (hn : n ≤ ops.size) (hsel : Region.noSelect ops = true) (htopo : topoB ops = true) (hap : apartB ops n = true)
    (hkl : killB ops kl n = true) (hCR : ∀ k w w', C w → R k w w' → C w') (hstab : ∀ q F, spec q = .any F → ∀ k, kl k q = false → ∀ v w w', F v w → R k w w' → F v w') (hnk : ∀ k q, (∀ F, spec k ≠ .any F) → kl k q = false)
    (hend : ∀ listed fs a w, HeadInv .any ops n listed → heads n listed = [] → C w → (∀ j, fs j w) → E fs a → wpAny P .any ops Q g listed a w)
    (hsink : ∀ listed, HeadInv .any ops n listed → heads n listed ≠ [] → ∀ t ∈ Region.ready .any ops listed, t < n) :
    ∀ (m : Nat) (listed : Array Bool) (fs : Facts) (a : Act) (w : World), HeadInv .any ops n listed → (heads n listed).length = m → gWalkK P ops C R kl spec E (heads n listed) fs a →
      C w → (∀ j, fs j w) → (∀ k q, kl k q = false → ∀ w w', fs q w → R k w w' → fs q w') → wpAny P .any ops Q (m + g) listed a w := by
  intro m
  induction m with
  | zero =>
    intro listed fs a w inv hl h hC hfs _
    have hnil : heads n listed = [] := List.length_eq_zero_iff.1 hl
    rw [hnil] at h
    rw [Nat.zero_add]
    exact hend listed fs a w inv hnil hC hfs h
  | succ m ih =>
    intro listed fs a w inv hl h hC hfs hst
    rw [show m + 1 + g = (m + g) + 1 by omega]
    have hne : heads n listed ≠ [] := by intro e; rw [e] at hl; simp at hl
    refine ⟨fun h0 => ?_, fun j hj => ?_⟩
    · exfalso
      obtain ⟨k, t, hkt⟩ : ∃ k t, heads n listed = k :: t := by
        cases hh : heads n listed with
        | nil => exact absurd hh hne
        | cons k t => exact ⟨k, t, rfl⟩
      have hk := mem_heads.1 (show k ∈ heads n listed by rw [hkt]; simp)
      have hks : k < ops.size := by omega
      have hmem : k ∈ Region.ready .any ops listed := by
        refine mem_ready.2 ⟨hk.2, _, Array.getElem?_eq_getElem hks, fun e he hb => ?_⟩
        have hlt := topo_spec htopo (Array.getElem?_eq_getElem hks) e he hb
        cases hl' : listed.getD e.on true with
        | true => exact getD_both' hl' (by rw [inv.size]; omega)
        | false =>
          have hin : e.on ∈ heads n listed := mem_heads.2 ⟨by omega, hl'⟩
          have hs := heads_sorted n listed
          rw [hkt] at hs hin
          rw [List.pairwise_cons] at hs
          simp only [List.mem_cons] at hin
          rcases hin with e1 | e1
          · omega
          · have := hs.1 _ e1
            omega
      rw [h0] at hmem
      cases hmem
    · have hjn := hsink listed inv hne j hj
      have hjl := (mem_ready.1 hj).1
      obtain ⟨s, t, hst'⟩ := List.append_of_mem (mem_heads.2 ⟨hjn, hjl⟩)
      obtain ⟨_, oj, hoj, _⟩ := mem_ready.1 hj
      have hsorted := heads_sorted n listed
      rw [hst', List.pairwise_append] at hsorted
      have hlt : ∀ i ∈ s, i < j := fun i hi => hsorted.2.2 i hi j (by simp)
      have hall : ∀ i ∈ s, i ≠ j ∧ waits ops j i = false ∧ waits ops i j = false ∧ kl i j = false ∧ kl j i = false ∧ (∀ q, kl j q = true → waits ops i q = false) ∧ ∀ oi, ops[i]? = some oi → oi.apart ops oj = true := by
        intro i hi
        have hij := hlt i hi
        have hil := (mem_heads.1 (show i ∈ heads n listed by rw [hst']; simp [hi])).2
        have hw := waits_listed hj hil
        obtain ⟨k1, k2, k3⟩ := kill_spec htopo hkl hij hjn hn hw
        refine ⟨by omega, hw, ?_, k1, k2, k3, fun oi hoi => apart_of hap hij hjn hw hoi hoj⟩
        cases hw' : waits ops i j
        · rfl
        · obtain ⟨oi, hoi, e, he, hb, hon⟩ := Region.waitsFor_spec hw'
          have := topo_spec htopo hoi e he hb
          omega
      rw [hst'] at h
      have hdeps : depsHold ops j fs w := fun q _ => hfs q
      have hout := gPullK hsel hoj hC s fs a hall hdeps h
      have hjs : j < listed.size := by rw [inv.size]; omega
      have hset := heads_set hjs hst'
      have inv' := inv.set hj hjn
      have hlen : (s ++ t).length = m := by
        rw [hst'] at hl
        simp at hl ⊢
        omega
      have go : ∀ (fs' : Facts) (a' : Act) (w' : World), gWalkK P ops C R kl spec E (s ++ t) fs' a' → C w' → (∀ j, fs' j w') → (∀ k q, kl k q = false → ∀ w w', fs' q w → R k w w' → fs' q w') →
          wpAny P .any ops Q (m + g) (listed.setIfInBounds j true) a' w' := fun fs' a' w' h1 h2 h3 h4 =>
        ih _ fs' a' w' inv' (by rw [hset]; exact hlen) (by rw [hset]; exact h1) h2 h3 h4
      have keep : (∀ q, kl j q = false) → ∀ w', R j w w' → ∀ q, fs q w' := fun hno w' hR q => hst j q (hno q) w w' (hfs q) hR
      unfold wpOp
      simp only [hoj]
      unfold gOutK at hout
      split
      · rename_i hw
        rw [if_pos hw] at hout
        left
        unfold Oper.wp
        generalize (execOp a.eval oj).run P w = r at hout ⊢
        cases hs : spec j with
        | det =>
          simp only [hs] at hout
          obtain ⟨c, h1, h2⟩ := hout
          cases r with
          | ok nx w' =>
            cases nx <;> simp only [detUpon] at h1
            · obtain ⟨e1, e2⟩ := h1
              subst e1 e2
              exact go fs _ w' h2 hC hfs hst
            · obtain ⟨e1, e2⟩ := h1
              subst e1 e2
              exact go fs _ w' h2 hC hfs hst
          | halt x w' => simp only [detUpon] at h1
        | con c =>
          have hno : ∀ q, kl j q = false := fun q => hnk j q fun F h => by rw [hs] at h; cases h
          simp only [hs] at hout
          obtain ⟨h1, h2⟩ := hout
          cases r with
          | ok nx w' =>
            cases nx <;> simp only [growUpon] at h1
            case value u =>
              obtain ⟨hR, e⟩ := h1
              subst e
              exact go fs _ w' h2 (hCR _ _ _ hC hR) (keep hno w' hR) hst
            case skip =>
              obtain ⟨hR, e⟩ := h1
              subst e
              exact go fs _ w' h2 (hCR _ _ _ hC hR) (keep hno w' hR) hst
            case enter f args =>
              refine Calls.mono h1 fun e w'' he => ?_
              obtain ⟨v, rfl, hR, e⟩ := he
              subst e
              exact go fs _ w'' h2 (hCR _ _ _ hC hR) (keep hno w'' hR) hst
          | halt x w' => simp only [growUpon] at h1
        | any F =>
          simp only [hs] at hout
          obtain ⟨h1, h2⟩ := hout
          have upd : ∀ v w', R j w w' → F v w' → (∀ q, ((fs.kill kl j).upd j (F v)) q w') := fun v w' hR hF q => by
            by_cases hq : q = j
            · subst hq
              rw [Facts.upd_self]
              exact hF
            · rw [Facts.upd_ne _ (fun e => hq e.symm)]
              cases hk : kl j q
              · rw [Facts.kill_no _ hk]
                exact hst j q hk w w' (hfs q) hR
              · unfold Facts.kill
                rw [if_pos hk]
                trivial
          have updS : ∀ v, ∀ k q, kl k q = false → ∀ w w', ((fs.kill kl j).upd j (F v)) q w → R k w w' → ((fs.kill kl j).upd j (F v)) q w' := fun v k q hkq w w' h3 hR => by
            by_cases hq : q = j
            · subst hq
              rw [Facts.upd_self] at *
              exact hstab _ F hs k hkq v w w' h3 hR
            · rw [Facts.upd_ne _ (fun e => hq e.symm)] at *
              cases hk : kl j q
              · rw [Facts.kill_no _ hk] at *
                exact hst k q hkq w w' h3 hR
              · unfold Facts.kill
                rw [if_pos hk]
                trivial
          cases r with
          | ok nx w' =>
            cases nx <;> simp only [growUpon] at h1
            case value u =>
              exact go _ _ w' (h2 u) (hCR _ _ _ hC h1.1) (upd u w' h1.1 h1.2) (updS u)
            case skip =>
              exact go _ _ w' (h2 undef) (hCR _ _ _ hC h1.1) (upd undef w' h1.1 h1.2) (updS undef)
            case enter f args =>
              refine Calls.mono h1 fun e w'' he => ?_
              obtain ⟨v, rfl, hR, hF⟩ := he
              exact go _ _ w'' (h2 v) (hCR _ _ _ hC hR) (upd v w'' hR hF) (updS v)
          | halt x w' => simp only [growUpon] at h1
      · rename_i hw
        rw [if_neg hw] at hout
        exact go fs _ w hout hC hfs hst
theorem gList_walkK {E : Facts → Act → Prop} {n : Nat} : ∀ (l : List Oper) (k : Nat) (fs : Facts) (a : Act), (∀ j, j < l.length → l[j]? = ops[k + j]?) →
    gListK P ops C R kl spec E k l fs a → gWalkK P ops C R kl spec E (List.range' k l.length) fs a
  | [], _, _, _, _, h => h
  | o :: l, k, fs, a, hl, h => by
    have h0 : ops[k]? = some o := by simpa using (hl 0 (by simp)).symm
    simp only [List.length_cons, List.range'_succ, gWalkK, h0]
    unfold gListK at h
    have mono : ∀ (K K' : Facts → Act → Prop), (∀ fs a, K fs a → K' fs a) → gStepK P ops C R kl spec fs k o K a → gStepK P ops C R kl spec fs k o K' a := by
      intro K K' hK hg
      unfold gStepK at *
      split
      · rename_i hw
        rw [if_pos hw] at hg
        split
        · rename_i hs
          rw [hs] at hg
          obtain ⟨c, h1, h2⟩ := hg
          exact ⟨c, h1, hK _ _ h2⟩
        · rename_i c hs
          rw [hs] at hg
          exact ⟨hg.1, hK _ _ hg.2⟩
        · rename_i F hs
          rw [hs] at hg
          exact ⟨hg.1, fun v => hK _ _ (hg.2 v)⟩
      · rename_i hw
        rw [if_neg hw] at hg
        exact hK _ _ hg
    refine mono _ _ (fun fs' a' h' => gList_walkK (n := n) l (k + 1) fs' a' (fun j hj => ?_) h') h
    have := hl (j + 1) (by simp; omega)
    simpa [Nat.add_assoc, Nat.add_comm 1 j] using this
end
section
variable {P : Program} {R : Nat → World → World → Prop} {kl : Nat → Nat → Bool} {spec : Nat → GSpec} {Q : Exit → Act → World → Prop} {a : Act} {w W : World} {id : Nat} {l : List Oper}
theorem wp_grow_tailK (n : Nat) (hm : P.follows .mixedOrders = true) (hB : growTailB l.toArray n = true) (hW : Onward W w.drew) (hkl : killB l.toArray kl n = true) (hR : ∀ k w w', Onward W w → R k w w' → Onward W w') (hstab : ∀ q F, spec q = .any F → ∀ k, kl k q = false → ∀ v w w', F v w → R k w w' → F v w') (hnk : ∀ k q, (∀ F, spec k ≠ .any F) → kl k q = false)
    (h : gListK P l.toArray (Onward W) R kl spec (fun fs a' => ∀ w', Onward W w' → (∀ j, fs j w') → wpList P l.toArray Q (l.drop n) a' w') 0 (l.take n) Facts.none a) : (Code.region id l.toArray true).wp P Q a w := by
  simp only [growTailB, Bool.and_eq_true, decide_eq_true_eq] at hB
  obtain ⟨⟨⟨⟨⟨hsel, htopo⟩, hap⟩, hn⟩, hsink⟩, hchain⟩ := hB
  refine wp_region_any hm ?_
  have hnl : n < l.length := by simp at hn; omega
  have hns : n < l.toArray.size := by omega
  have htl : (l.take n).length = n := by simp; omega
  have h2 := gList_walkK (n := 0) (l.take n) 0 Facts.none a (fun j hj => by
    rw [htl] at hj
    simp [hj]) h
  rw [htl] at h2
  have H := gAnyK (P := P) (g := 1) (Q := Q) (n := n) (by omega) hsel htopo hap hkl hR hstab hnk (E := fun fs a' => ∀ w', Onward W w' → (∀ j, fs j w') → wpList P l.toArray Q (l.drop n) a' w')
    (fun listed fs a' w' inv hnil hC hfs hE => by
      have hT := hE w' hC hfs
      obtain ⟨t, ht⟩ : ∃ t, l[n]? = some t := ⟨_, List.getElem?_eq_getElem hnl⟩
      have hd : l.drop n = [t] := by
        rw [List.drop_eq_getElem_cons hnl]
        have e1 : l[n] = t := by rw [List.getElem?_eq_getElem hnl] at ht; injection ht
        have e2 : l.drop (n + 1) = [] := List.drop_eq_nil_of_le (by simp at hn; omega)
        rw [e1, e2]
      rw [hd] at hT
      have hall : ∀ i, i < n → listed.getD i true = true := fun i hi => by
        cases hh : listed.getD i true with
        | true => rfl
        | false =>
          have := mem_heads.2 ⟨hi, hh⟩
          rw [hnil] at this
          cases this
      have hnr : n ∈ Region.ready .any l.toArray listed := by
        refine mem_ready.2 ⟨inv.tail n (Nat.le_refl _) hns, t, by simpa using ht, fun e he hb => ?_⟩
        have hlt := topo_spec htopo (show l.toArray[n]? = some t by simpa using ht) e he hb
        exact getD_both' (hall _ hlt) (by rw [inv.size]; omega)
      refine ⟨fun h0 => (by rw [h0] at hnr; cases hnr), fun i hi => ?_⟩
      have hin : i = n := by
        obtain ⟨hu, o, ho, _⟩ := mem_ready.1 hi
        have hilt : i < l.toArray.size := (Array.getElem?_eq_some_iff.1 ho).1
        rcases Nat.lt_or_ge i n with h | h
        · rw [hall i h] at hu
          cases hu
        · omega
      subst hin
      have hfin : ∀ a'' w'', Q .normal a'' w'' → wpAny P .any l.toArray Q 0 (listed.setIfInBounds i true) a'' w'' := by
        intro a'' w'' hq
        refine ⟨?_, hq⟩
        cases hr : Region.ready .any l.toArray (listed.setIfInBounds i true) with
        | nil => rfl
        | cons q qs =>
          exfalso
          have hq' := (mem_ready.1 (show q ∈ Region.ready .any l.toArray (listed.setIfInBounds i true) by rw [hr]; simp))
          obtain ⟨hu, o, ho, _⟩ := hq'
          have hqlt : q < l.toArray.size := (Array.getElem?_eq_some_iff.1 ho).1
          by_cases hqi : q = i
          · subst hqi
            have : q < listed.size := by rw [inv.size]; exact hns
            simp [this] at hu
          · rw [getD_set_ne true (fun e => hqi e.symm), hall q (by omega)] at hu
            cases hu
      unfold wpOp
      have ho : l.toArray[i]? = some t := by simpa using ht
      simp only [ho]
      unfold wpList at hT
      split
      · rename_i hw
        rw [if_pos hw] at hT
        exact hT.imp (Oper.wp_mono fun a'' w'' hq => hfin a'' w'' hq) (fun h => h)
      · rename_i hw
        rw [if_neg hw] at hT
        exact hfin _ _ hT)
    (fun listed inv hne t ht => by
      rcases Nat.lt_or_ge t n with h | h
      · exact h
      · exfalso
        obtain ⟨i, hi⟩ : ∃ i, i ∈ heads n listed := by
          cases hh : heads n listed with
          | nil => exact absurd hh hne
          | cons k ks => exact ⟨k, by simp⟩
        have hi' := mem_heads.1 hi
        exact tail_waits hsink hchain hns inv (n - i) i rfl hi'.1 hi'.2 t h ht)
    n (Array.replicate l.toArray.size false) Facts.none a w.drew (inv_start _ _) (by rw [heads_all _ _ (by omega)]; simp) (by rw [heads_all _ _ (by omega)]; exact h2) hW (fun _ => trivial) (fun _ _ _ _ _ _ _ => trivial)
  rw [hn] at H
  exact H
end
end Go.Proofs.YtjknadnknainbaaGreatDoor
/- A region that draws its order, whose operations only add to memory but for a forced tail of more than one operation. No program is named here. -/
namespace Go.Proofs.YtjknadnknainbaaGreatDoor
open Go.RowKit

/-- A chain of operations behind all others: its order is forced. -/
theorem tail_run {P : Program} {ops : Array Oper} {Q : Exit → Act → World → Prop} {n : Nat} (hc : Region.chainB .any ops n = true) (htopo : topoB ops = true) :
    ∀ (l2 : List Oper) (k : Nat) (listed : Array Bool) (a : Act) (w : World), n ≤ k → (∀ j, l2[j]? = ops[k + j]?) → listed.size = ops.size → (∀ i, i < k → listed.getD i true = true) →
      (∀ t, k ≤ t → t < ops.size → listed.getD t true = false) → wpList P ops Q l2 a w → wpAny P .any ops Q l2.length listed a w
  | [], k, listed, a, w, hnk, hl, hsz, hdone, hopen, h => by
    have hk : ops.size ≤ k := by
      rcases Nat.lt_or_ge k ops.size with h1 | h1
      · have := hl 0
        simp [h1] at this
      · exact h1
    refine ⟨?_, h⟩
    cases hr : Region.ready .any ops listed with
    | nil => rfl
    | cons t ts =>
      exfalso
      obtain ⟨hu, o, ho, _⟩ := mem_ready.1 (show t ∈ Region.ready .any ops listed by rw [hr]; simp)
      have hlt : t < ops.size := (Array.getElem?_eq_some_iff.1 ho).1
      rw [hdone t (by omega)] at hu
      cases hu
  | o :: l2, k, listed, a, w, hnk, hl, hsz, hdone, hopen, h => by
    have ho : ops[k]? = some o := by simpa using (hl 0).symm
    have hks : k < ops.size := (Array.getElem?_eq_some_iff.1 ho).1
    have hkr : k ∈ Region.ready .any ops listed := by
      refine mem_ready.2 ⟨hopen k (Nat.le_refl _) hks, o, ho, fun e he hb => ?_⟩
      exact getD_both' (hdone _ (topo_spec htopo ho e he hb)) (by rw [hsz]; have := topo_spec htopo ho e he hb; omega)
    refine ⟨fun h0 => (by rw [h0] at hkr; cases hkr), fun i hi => ?_⟩
    have hik : i = k := by
      obtain ⟨hu, oi, hoi, hall⟩ := mem_ready.1 hi
      have hilt : i < ops.size := (Array.getElem?_eq_some_iff.1 hoi).1
      rcases Nat.lt_trichotomy i k with h1 | h1 | h1
      · rw [hdone i h1] at hu
        cases hu
      · exact h1
      · exfalso
        have h2 := List.all_eq_true.1 hc i (List.mem_range.2 hilt)
        simp only [Bool.or_eq_true, decide_eq_true_eq] at h2
        rcases h2 with h2 | h2
        · omega
        · obtain ⟨o', ho', e, he, hb, hon⟩ := Region.waitsFor_spec h2
          have : o' = oi := Option.some.inj (ho'.symm.trans hoi)
          subst this
          have h3 := hall e he hb
          rw [hon, getD_both (hopen (i - 1) (by omega) (by omega))] at h3
          cases h3
    subst hik
    have hrest : ∀ a' w', wpList P ops Q l2 a' w' → wpAny P .any ops Q l2.length (listed.setIfInBounds i true) a' w' := fun a' w' h' =>
      tail_run hc htopo l2 (i + 1) _ a' w' (by omega) (fun j => by have := hl (j + 1); simpa [Nat.add_assoc, Nat.add_comm 1 j] using this) (by simp [hsz])
        (fun q hq => by
          by_cases hqi : q = i
          · subst hqi
            simp [hsz, hks]
          · rw [getD_set_ne true (fun e => hqi e.symm)]
            exact hdone q (by omega))
        (fun t ht hts => by
          rw [getD_set_ne true (by omega)]
          exact hopen t (by omega) hts) h'
    have hw : wpOp P ops Q i (wpList P ops Q l2) a w := by unfold wpOp; simp only [ho]; exact h
    exact wpOp_mono hrest hw
def growTailsB (ops : Array Oper) (n : Nat) : Bool := Region.noSelect ops && topoB ops && apartB ops n && decide (n < ops.size) && Region.sinkB .any ops n && Region.chainB .any ops n
theorem wp_grow_tails {P : Program} {spec : Nat → GSpec} {Q : Exit → Act → World → Prop} {a : Act} {w W : World} {id : Nat} {l : List Oper}
    (n : Nat) (hm : P.follows .mixedOrders = true) (hB : growTailsB l.toArray n = true) (hW : Onward W w.drew) (hstab : ∀ k F, spec k = .any F → ∀ v w w', F v w → Grows w w' → F v w')
    (h : gList P l.toArray (Onward W) Grows spec (fun fs a' => ∀ w', Onward W w' → (∀ j, fs j w') → wpList P l.toArray Q (l.drop n) a' w') 0 (l.take n) Facts.none a) : (Code.region id l.toArray true).wp P Q a w := by
  simp only [growTailsB, Bool.and_eq_true, decide_eq_true_eq] at hB
  obtain ⟨⟨⟨⟨⟨hsel, htopo⟩, hap⟩, hn⟩, hsink⟩, hchain⟩ := hB
  refine wp_region_any hm ?_
  have hnl : n < l.length := by simpa using hn
  have hns : n < l.toArray.size := hn
  have htl : (l.take n).length = n := by simp; omega
  have hdl : (l.drop n).length = l.toArray.size - n := by simp
  have h2 := gList_walk (n := 0) (l.take n) 0 Facts.none a (fun j hj => by
    rw [htl] at hj
    simp [hj]) h
  rw [htl] at h2
  have H := gAny (P := P) (g := l.toArray.size - n) (Q := Q) (n := n) (by omega) hsel htopo hap onward_step hstab (E := fun fs a' => ∀ w', Onward W w' → (∀ j, fs j w') → wpList P l.toArray Q (l.drop n) a' w')
    (fun listed fs a' w' inv hnil hC hfs hE => by
      have hT := hE w' hC hfs
      have hall : ∀ i, i < n → listed.getD i true = true := fun i hi => by
        cases hh : listed.getD i true with
        | true => rfl
        | false =>
          have := mem_heads.2 ⟨hi, hh⟩
          rw [hnil] at this
          cases this
      have := tail_run hchain htopo (l.drop n) n listed a' w' (Nat.le_refl _) (fun j => by simp [List.getElem?_drop]) inv.size hall (fun t h1 h2 => inv.tail t h1 h2) hT
      rwa [hdl] at this)
    (fun listed inv hne t ht => by
      rcases Nat.lt_or_ge t n with h | h
      · exact h
      · exfalso
        obtain ⟨i, hi⟩ : ∃ i, i ∈ heads n listed := by
          cases hh : heads n listed with
          | nil => exact absurd hh hne
          | cons k ks => exact ⟨k, by simp⟩
        have hi' := mem_heads.1 hi
        exact tail_waits hsink hchain hns inv (n - i) i rfl hi'.1 hi'.2 t h ht)
    n (Array.replicate l.toArray.size false) Facts.none a w.drew (inv_start _ _) (by rw [heads_all _ _ (by omega)]; simp) (by rw [heads_all _ _ (by omega)]; exact h2) hW (fun _ => trivial) (fun _ _ _ _ _ => trivial)
  rw [show n + (l.toArray.size - n) = l.toArray.size by omega] at H
  exact H
/-- What is said of the operations by their numbers; the others are found on the walk. -/
def specAt (l : List (Nat × GSpec)) (k : Nat) : GSpec := match l.lookup k with
  | some s => s
  | none => .det
theorem specAt_stab : ∀ {l : List (Nat × GSpec)}, (∀ p ∈ l, ∀ F, p.2 = .any F → ∀ v w w', F v w → Grows w w' → F v w') → ∀ k F, specAt l k = .any F → ∀ v w w', F v w → Grows w w' → F v w' := by
  intro l h k F hk
  unfold specAt at hk
  split at hk
  · rename_i G hG
    subst hk
    have : ∀ (l : List (Nat × GSpec)), l.lookup k = some (.any F) → ∃ p ∈ l, p.2 = .any F := by
      intro l
      induction l with
      | nil => intro h; cases h
      | cons p l ih =>
        intro h
        obtain ⟨a, b⟩ := p
        rw [List.lookup_cons] at h
        split at h
        · cases h
          exact ⟨_, List.mem_cons_self, rfl⟩
        · obtain ⟨p, hp, e⟩ := ih h
          exact ⟨p, List.mem_cons_of_mem _ hp, e⟩
    obtain ⟨p, hp, e⟩ := this l hG
    exact h p hp F e
  · cases hk
theorem gList_quietK {P : Program} {ops : Array Oper} {C : World → Prop} {R : World → World → Prop} {spec : Nat → GSpec} {E : Facts → Act → Prop} (m : Nat) {l : List Oper} {k : Nat} {fs : Facts} {a : Act} (hd : detsFrom spec k (l.take m)) (hm : m ≤ l.length)
    (h : wpQuiet P ops C (fun a' => gList P ops C R spec E (k + m) (l.drop m) fs a') (l.take m) a) : gList P ops C R spec E k l fs a := by
  have h1 := gList_quiet (l.take m) (l2 := l.drop m) hd (E := E) (R := R) (fs := fs) (a := a) (P := P) (ops := ops) (C := C) (by rw [List.length_take, Nat.min_eq_left hm]; exact h)
  rwa [List.take_append_drop] at h1
/-- A call whose value is known. -/
theorem grow_con {P : Program} {f : FuncId} {args : Array Value} {w : World} {c : Value} {o : Oper} {a : Act} (hr : (execOp a.eval o).run P w = .ok (.enter f args) w)
    (h : Calls P f args w fun e w'' => e = .returned c ∧ Below w.heap.size w w'') : growUpon P Grows (fun v _ => v = c) w ((execOp a.eval o).run P w) :=
  grow_call hr (h.mono fun _ _ ⟨he, hb⟩ => ⟨c, he, hb, rfl⟩)
end Go.Proofs.YtjknadnknainbaaGreatDoor
