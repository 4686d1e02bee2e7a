/- A region that draws its order and whose operations only add to memory: one walk in the text's order serves every order, and what each operation made is known by a fact of its own. No program is named here. -/
import Derived.Test.YtihbaieiempjeaaBase
import Derived.StillTail
namespace Go.Proofs.Ytihbaieiempjeaa
open Go.RowKit

/-- What is said of an operation's value: it is found on the walk (its world is the world that it got); it is this one; it has this fact, which later worlds keep. -/
inductive GSpec where
  | det
  | con (c : Value)
  | any (F : Value → World → Prop)
def Facts := Nat → World → Prop
def Facts.none : Facts := fun _ _ => True
def Facts.upd (fs : Facts) (k : Nat) (f : World → Prop) : Facts := fun j => if j = k then f else fs j
theorem Facts.upd_comm (fs : Facts) {i j : Nat} (h : i ≠ j) (f g : World → Prop) : (fs.upd i f).upd j g = (fs.upd j g).upd i f := by
  funext q
  unfold Facts.upd
  by_cases h1 : q = j
  · by_cases h2 : q = i
    · omega
    · simp [h1, Ne.symm h]
  · by_cases h2 : q = i
    · simp [h2, h]
    · simp [h1, h2]
theorem Facts.upd_ne (fs : Facts) {i j : Nat} (h : i ≠ j) (f : World → Prop) : fs.upd i f j = fs j := by
  unfold Facts.upd
  simp [Ne.symm h]
theorem Facts.upd_self (fs : Facts) (i : Nat) (f : World → Prop) : fs.upd i f i = f := by
  unfold Facts.upd
  simp
def waits (ops : Array Oper) (j i : Nat) : Bool := Region.waitsFor .any ops j i
def detUpon (w : World) (v : Value) : Result Next → Prop
  | .ok (.value u) w' => w' = w ∧ u = v
  | .ok .skip w' => w' = w ∧ v = undef
  | _ => False
def growUpon (P : Program) (R : World → World → Prop) (F : Value → World → Prop) (w : World) : Result Next → Prop
  | .ok (.value u) w' => R w w' ∧ F u w'
  | .ok .skip w' => R w w' ∧ F undef w'
  | .ok (.enter f args) w' => Calls P f args w' (fun e w'' => ∃ v, e = .returned v ∧ R w w'' ∧ F v w'')
  | _ => False
def depsHold (ops : Array Oper) (k : Nat) (fs : Facts) (w : World) : Prop := ∀ j, waits ops k j = true → fs j w
section
variable (P : Program) (ops : Array Oper) (C : World → Prop) (R : World → World → Prop) (spec : Nat → GSpec)
def gStep (fs : Facts) (k : Nat) (o : Oper) (K : Facts → Act → Prop) (a : Act) : Prop :=
  if Region.wanted o (yielded ops a.tmps) = true then
    match spec k with
    | .det => ∃ c, (∀ w, C w → detUpon w c ((execOp a.eval o).run P w)) ∧ K fs (a.put o.dst c)
    | .con c => (∀ w, C w → depsHold ops k fs w → growUpon P R (fun v _ => v = c) w ((execOp a.eval o).run P w)) ∧ K fs (a.put o.dst c)
    | .any F => (∀ w, C w → depsHold ops k fs w → growUpon P R F w ((execOp a.eval o).run P w)) ∧ ∀ v, K (fs.upd k (F v)) (a.put o.dst v)
  else K fs (a.put o.dst undef)
/-- The same at one world. -/
def gOut (fs : Facts) (k : Nat) (o : Oper) (K : Facts → Act → Prop) (a : Act) (w : World) : Prop :=
  if Region.wanted o (yielded ops a.tmps) = true then
    match spec k with
    | .det => ∃ c, detUpon w c ((execOp a.eval o).run P w) ∧ K fs (a.put o.dst c)
    | .con c => growUpon P R (fun v _ => v = c) w ((execOp a.eval o).run P w) ∧ K fs (a.put o.dst c)
    | .any F => growUpon P R F w ((execOp a.eval o).run P w) ∧ ∀ v, K (fs.upd k (F v)) (a.put o.dst v)
  else K fs (a.put o.dst undef)
def gWalk (E : Facts → Act → Prop) : List Nat → Facts → Act → Prop
  | [], fs, a => E fs a
  | k :: is, fs, a => match ops[k]? with
    | none => gWalk E is fs a
    | some o => gStep P ops C R spec fs k o (fun fs' a' => gWalk E is fs' a') a
/-- The walk over the operations themselves. -/
def gList (E : Facts → Act → Prop) : Nat → List Oper → Facts → Act → Prop
  | _, [], fs, a => E fs a
  | k, o :: l, fs, a => gStep P ops C R spec fs k o (fun fs' a' => gList E (k + 1) l fs' a') a
end
section
variable {P : Program} {ops : Array Oper} {C : World → Prop} {R : World → World → Prop} {spec : Nat → GSpec}
theorem detUpon_same {w : World} {v u : Value} {r : Result Next} (h : detUpon w v r) (h' : detUpon w u r) : v = u := by
  cases r with
  | ok n w' =>
    cases n <;> simp only [detUpon] at h h'
    · exact h.2.symm.trans h'.2
    · exact h.2.trans h'.2.symm
  | halt x w' => simp only [detUpon] at h
theorem gOut_of_step {fs : Facts} {k : Nat} {o : Oper} {K : Facts → Act → Prop} {a : Act} {w : World} (hC : C w) (hd : depsHold ops k fs w) (h : gStep P ops C R spec fs k o K a) : gOut P ops R spec fs k o K a w := by
  unfold gStep at h
  unfold gOut
  split
  · rename_i hw
    rw [if_pos hw] at h
    split
    · rename_i hs
      rw [hs] at h
      obtain ⟨c, h1, h2⟩ := h
      exact ⟨c, h1 w hC, h2⟩
    · rename_i c hs
      rw [hs] at h
      exact ⟨h.1 w hC hd, h.2⟩
    · rename_i F hs
      rw [hs] at h
      exact ⟨h.1 w hC hd, h.2⟩
  · rename_i hw
    rw [if_neg hw] at h
    exact h
/-- One operation that may come up now, with others ahead of it in the text that it does not wait for. -/
theorem gPull {E : Facts → Act → Prop} (hsel : Region.noSelect ops = true) {j : Nat} {oj : Oper} (hj : ops[j]? = some oj) {is2 : List Nat} {w : World} (hC : C w) :
    ∀ (is1 : List Nat) (fs : Facts) (a : Act), (∀ i ∈ is1, i ≠ j ∧ waits ops j i = false ∧ waits ops i j = false ∧ ∀ oi, ops[i]? = some oi → oi.apart ops oj = true) →
      depsHold ops j fs w → gWalk P ops C R spec E (is1 ++ j :: is2) fs a → gOut P ops R spec fs j oj (fun fs' a' => gWalk P ops C R spec E (is1 ++ is2) fs' a') a w := by
  intro is1
  induction is1 with
  | nil =>
    intro fs a _ hd h
    simp only [List.nil_append, gWalk, hj] at h ⊢
    exact gOut_of_step hC hd h
  | cons i is1 ih =>
    intro fs a hall hd h
    obtain ⟨hij, hji, hijw, hap⟩ := hall i (by simp)
    have hall' := fun k (hk : k ∈ is1) => hall k (by simp [hk])
    simp only [List.cons_append, gWalk] at h ⊢
    cases hi : ops[i]? with
    | none =>
      simp only [hi] at h ⊢
      exact ih fs a hall' hd h
    | some oi =>
      simp only [hi] at h ⊢
      obtain ⟨h1, h2, h3⟩ := Oper.apart_spec (hap oi hi)
      have hsi := fun cs b => Region.noSelect_spec hsel i oi cs b hi
      have hsj := fun cs b => Region.noSelect_spec hsel j oj cs b hj
      have ei : ∀ (a : Act) (v : Value), execOp (a.put oj.dst v).eval oi = execOp a.eval oi := fun a v => execOp_put (ops := ops) oi hsi a oj.dst v h3
      have wi : ∀ (a : Act) (v : Value), Region.wanted oi (yielded ops (a.put oj.dst v).tmps) = Region.wanted oi (yielded ops a.tmps) := fun a v => wanted_put oi a oj.dst v h3
      have ej : ∀ (a : Act) (v : Value), execOp (a.put oi.dst v).eval oj = execOp a.eval oj := fun a v => execOp_put (ops := ops) oj hsj a oi.dst v h1
      have wj : ∀ (a : Act) (v : Value), Region.wanted oj (yielded ops (a.put oi.dst v).tmps) = Region.wanted oj (yielded ops a.tmps) := fun a v => wanted_put oj a oi.dst v h1
      have comm : ∀ (a : Act) (u v : Value), (a.put oi.dst u).put oj.dst v = (a.put oj.dst v).put oi.dst u := fun a u v => Act.put_comm a u v h2
      have dkeep : ∀ (fs : Facts) (f : World → Prop) (w : World), depsHold ops i (fs.upd j f) w → depsHold ops i fs w := fun fs f w hh q hq => by
        have := hh q hq
        rwa [Facts.upd_ne _ (fun e => by rw [e] at hijw; rw [hijw] at hq; cases hq)] at this
      have dj : ∀ (f : World → Prop), depsHold ops j (fs.upd i f) w := fun f q hq => by
        rw [Facts.upd_ne _ (fun e => by rw [e] at hji; rw [hji] at hq; cases hq)]
        exact hd q hq
      -- a step of i behind j
      have fold : ∀ (fs : Facts) (v : Value), gStep P ops C R spec fs i oi (fun fs' a' => gWalk P ops C R spec E (is1 ++ is2) fs' a') (a.put oj.dst v) =
          (if Region.wanted oi (yielded ops a.tmps) = true then
            match spec i with
            | .det => ∃ c, (∀ w, C w → detUpon w c ((execOp a.eval oi).run P w)) ∧ gWalk P ops C R spec E (is1 ++ is2) fs ((a.put oi.dst c).put oj.dst v)
            | .con c => (∀ w, C w → depsHold ops i fs w → growUpon P R (fun v _ => v = c) w ((execOp a.eval oi).run P w)) ∧ gWalk P ops C R spec E (is1 ++ is2) fs ((a.put oi.dst c).put oj.dst v)
            | .any F => (∀ w, C w → depsHold ops i fs w → growUpon P R F w ((execOp a.eval oi).run P w)) ∧ ∀ u, gWalk P ops C R spec E (is1 ++ is2) (fs.upd i (F u)) ((a.put oi.dst u).put oj.dst v)
          else gWalk P ops C R spec E (is1 ++ is2) fs ((a.put oi.dst undef).put oj.dst v)) := by
        intro fs v
        unfold gStep
        rw [wi]
        simp only [ei, comm]
      unfold gStep at h
      by_cases hwi : Region.wanted oi (yielded ops a.tmps) = true
      · rw [if_pos hwi] at h
        simp only [gOut, fold, if_pos hwi]
        cases hs : spec i with
        | det =>
          simp only [hs] at h ⊢
          obtain ⟨c, hc, h⟩ := h
          have h := ih fs _ hall' hd h
          unfold gOut at h
          rw [wj] at h
          simp only [ej] at h
          split
          · rename_i hwj
            rw [if_pos hwj] at h
            cases hsj' : spec j with
            | det =>
              simp only [hsj'] at h ⊢
              obtain ⟨c', g1, g2⟩ := h
              exact ⟨c', g1, c, hc, g2⟩
            | con c' =>
              simp only [hsj'] at h ⊢
              exact ⟨h.1, c, hc, h.2⟩
            | any F =>
              simp only [hsj'] at h ⊢
              exact ⟨h.1, fun v => ⟨c, hc, h.2 v⟩⟩
          · rename_i hwj
            rw [if_neg hwj] at h
            exact ⟨c, hc, h⟩
        | con c =>
          simp only [hs] at h ⊢
          obtain ⟨hc, h⟩ := h
          have h := ih fs _ hall' hd h
          unfold gOut at h
          rw [wj] at h
          simp only [ej] at h
          split
          · rename_i hwj
            rw [if_pos hwj] at h
            cases hsj' : spec j with
            | det =>
              simp only [hsj'] at h ⊢
              obtain ⟨c', g1, g2⟩ := h
              exact ⟨c', g1, hc, g2⟩
            | con c' =>
              simp only [hsj'] at h ⊢
              exact ⟨h.1, hc, h.2⟩
            | any F =>
              simp only [hsj'] at h ⊢
              exact ⟨h.1, fun v => ⟨fun w hw hd => hc w hw (dkeep _ _ _ hd), h.2 v⟩⟩
          · rename_i hwj
            rw [if_neg hwj] at h
            exact ⟨hc, h⟩
        | any F =>
          simp only [hs] at h ⊢
          obtain ⟨hc, h⟩ := h
          have h := fun u => ih (fs.upd i (F u)) _ hall' (dj _) (h u)
          simp only [gOut, wj, ej] at h
          split
          · rename_i hwj
            simp only [if_pos hwj] at h
            cases hsj' : spec j with
            | det =>
              simp only [hsj'] at h ⊢
              obtain ⟨c', g1, _⟩ := h undef
              refine ⟨c', g1, hc, fun u => ?_⟩
              obtain ⟨c2, k1, k2⟩ := h u
              rw [detUpon_same g1 k1]
              exact k2
            | con c' =>
              simp only [hsj'] at h ⊢
              exact ⟨(h undef).1, hc, fun u => (h u).2⟩
            | any F' =>
              simp only [hsj'] at h ⊢
              refine ⟨(h undef).1, fun v => ⟨fun w hw hd => hc w hw (dkeep _ _ _ hd), fun u => ?_⟩⟩
              have := (h u).2 v
              rwa [Facts.upd_comm _ hij] at this
          · rename_i hwj
            simp only [if_neg hwj] at h
            exact ⟨hc, h⟩
      · rw [if_neg hwi] at h
        simp only [gOut, fold, if_neg hwi]
        have h := ih fs _ hall' hd h
        unfold gOut at h
        rw [wj] at h
        simp only [ej] at h
        split
        · rename_i hwj
          rw [if_pos hwj] at h
          exact h
        · rename_i hwj
          rw [if_neg hwj] at h
          exact h
end
end Go.Proofs.Ytihbaieiempjeaa
