/- A job that leaves the list: append(append([]Job{}, js[:k]...), js[k+1:]...), in the program and in the reference. -/
import Derived.Test.YtjngcnkipkibcaaCrash
import Derived.Test.YtjngcnkipkibcaaGrowK
namespace Go.Proofs.Ytjngcnkipkibcaa
open Go.RowKit

def plainOpK : Op → Bool
  | .nilCheck .. => true
  | o => plainOp o
theorem plainK_noEnter {P : Program} {ρ : Operand → Value} {o : Oper} (h : plainOpK o.op = true) (w : World) (f : FuncId) (args : Array Value) (w' : World) : (execOp ρ o).run P w ≠ .ok (.enter f args) w' := by
  by_cases hp : plainOp o.op = true
  · exact plain_noEnter hp w f args w'
  have key : ∀ {α : Type} (s : Sem α) (g : α → Value), (do pure (Next.value (g (← s))) : Sem Next).run P w ≠ .ok (.enter f args) w' := fun s g => by
    simp only [Sem.run_bind, Sem.run_pure]
    cases s.run P w with
    | ok v w1 => simp [Result.andThen]
    | halt x w1 => simp [Result.andThen]
  obtain ⟨dst, op, type, pos, after, guard⟩ := o
  cases op <;> simp only [plainOpK, plainOp, Bool.false_eq_true, not_true_eq_false] at h hp
  rename_i x
  simp only [execOp]
  split
  all_goals first | (simp [runtimePanic]; done) | skip
  split
  all_goals first | (simp [runtimePanic]; done) | skip
  rename_i nm fst cap _ _ t' v' _
  cases e1 : Sem.run P program w with
  | halt x w1 => simp [e1, Result.andThen]
  | ok p w1 =>
    cases e2 : Sem.run P (nilAhead (p.types.size + Made.depth) t' v' nm) w1 with
    | halt x w2 => simp [e1, e2, Result.andThen]
    | ok b w2 =>
      simp only [Sem.run_bind, e1, e2, Result.andThen]
      split <;> simp [unsupported, Result.andThen]
def detsFromK (spec : Nat → GSpec) : Nat → List Oper → Prop
  | _, [] => True
  | k, o :: l => spec k = .det ∧ plainOpK o.op = true ∧ detsFromK spec (k + 1) l
section
variable {P : Program} {ops : Array Oper} {C : World → Prop} {R : Nat → World → World → Prop} {kl : Nat → Nat → Bool} {spec : Nat → GSpec} {E : Facts → Act → Prop}
theorem gListK_quiet : ∀ (l1 : List Oper) {l2 : List Oper} {k : Nat} {fs : Facts} {a : Act}, detsFromK spec k l1 →
    wpQuiet P ops C (fun a' => gListK P ops C R kl spec E (k + l1.length) l2 fs a') l1 a → gListK P ops C R kl spec E k (l1 ++ l2) fs a
  | [], l2, k, fs, a, _, h => by simpa [wpQuiet] using h
  | o :: l1, l2, k, fs, a, hd, h => by
    obtain ⟨hs, hp, hd'⟩ := hd
    simp only [List.cons_append, gListK, gStepK, hs]
    unfold wpQuiet at h
    have e : ∀ x : Act → Prop, (k + (o :: l1).length) = (k + 1) + l1.length := fun _ => by simp; omega
    rw [e (fun _ => True)] at h
    split
    · rename_i hw
      rw [if_pos hw] at h
      obtain ⟨c, h1, h2⟩ := h
      exact ⟨c, fun w hC => det_of_quiet (h1 w hC) (plainK_noEnter hp w), gListK_quiet l1 hd' h2⟩
    · rename_i hw
      rw [if_neg hw] at h
      exact gListK_quiet l1 hd' h
theorem gListK_quietN (m : Nat) {l : List Oper} {k : Nat} {fs : Facts} {a : Act} (hd : detsFromK spec k (l.take m)) (hm : m ≤ l.length)
    (h : wpQuiet P ops C (fun a' => gListK P ops C R kl spec E (k + m) (l.drop m) fs a') (l.take m) a) : gListK P ops C R kl spec E k l fs a := by
  have h1 := gListK_quiet (l.take m) (l2 := l.drop m) hd (E := E) (R := R) (kl := kl) (fs := fs) (a := a) (P := P) (ops := ops) (C := C) (by rw [List.length_take, Nat.min_eq_left hm]; exact h)
  rwa [List.take_append_drop] at h1
theorem gListK_any {k : Nat} {o : Oper} {l : List Oper} {fs : Facts} {a : Act} (F : Value → World → Prop) (hs : spec k = .any F) (hg : o.guard = none)
    (h1 : ∀ w, C w → depsHold ops k fs w → growUpon P (R k) F w ((execOp a.eval o).run P w)) (h2 : ∀ v, gListK P ops C R kl spec E (k + 1) l ((fs.kill kl k).upd k (F v)) (a.put o.dst v)) : gListK P ops C R kl spec E k (o :: l) fs a := by
  have hw : Region.wanted o (yielded ops a.tmps) = true := by simp [Region.wanted, hg]
  simp only [gListK, gStepK, hs, if_pos hw]
  exact ⟨h1, h2⟩
end
/-- What the second append does to the worlds: old memory stays, an empty literal stays one. -/
def Onto (B base e size : Nat) (w w' : World) : Prop := Below B w w' ∧ ∀ u, LitOf base e size u w → LitOf base e size u w'
theorem run_onto {P : Program} {w : World} {base t ty e : Nat} {z : Value} {size bytes : Nat} (ht : P.underlying t = some (.slice e)) (hinfo : (P.info? e).map (fun i => (i.zero, i.size, i.bytes)) = some (some z, size, bytes))
    (hzs : z.cells.size = size) (hsz : 0 < size) {s : Value} {n1 : Nat} {xs : List Value} (hs : RowOf base e size n1 xs s w) {A : Option Addr} {n c B : Nat} {ys : List Value} (hl : ys.length = n * size) (hc : Cells w B A ys) (hnil : A = none → c = 0)
    (h1 : ∀ u ∈ ys, u.oneCell' = true) (hn : n1 + n ≤ 1000000000) (hbytes : bytes ≤ 1000) (hbase : base ≤ w.heap.size) :
    ∃ v w', (Builtin.append_ #[t, t] ty #[s, .slice A n c]).run P w = .ok v w' ∧ Onto base base e size w w' ∧ RowOf base e size (n1 + n) (xs ++ ys) v w' := by
  obtain ⟨i, hi, hz0, hz1, hz2⟩ := info_parts hinfo
  obtain ⟨A1, c1, rfl, hown⟩ := hs
  by_cases h0 : n = 0
  · subst h0
    have hys : ys = [] := List.length_eq_zero_iff.1 (by omega)
    subst hys
    refine ⟨.slice A1 n1 c1, w, ?_, ⟨Below.refl _ _, fun _ h => h⟩, A1, c1, rfl, by simpa using hown⟩
    rcases hown.2 with ⟨hv, rfl⟩ | ⟨g, cap, cur, hv, _, _, hle, _⟩
    · cases hv
      cases A with
      | none =>
        have := hnil rfl
        subst this
        simp [Builtin.append_, run_underlying ht, sizeOf, typeInfo, hi, Builtin.lenOf, Builtin.firstCells]
      | some a =>
        have hf := run_firstCells_some (P := P) w i.size 0 a 0 c [] (by simp) (by simp)
        simp [Builtin.append_, run_underlying ht, sizeOf, typeInfo, hi, Builtin.lenOf, hf]
    · cases hv
      cases A with
      | none =>
        have := hnil rfl
        subst this
        simp [Builtin.append_, run_underlying ht, sizeOf, typeInfo, hi, Builtin.lenOf, Builtin.firstCells, storeCells, hle]
      | some a =>
        have hf := run_firstCells_some (P := P) w i.size 0 a 0 c [] (by simp) (by simp)
        simp [Builtin.append_, run_underlying ht, sizeOf, typeInfo, hi, Builtin.lenOf, hf, storeCells, hle]
  · have hx0 : 0 < ys.length := by rw [hl]; exact Nat.mul_pos (by omega) hsz
    obtain ⟨b, off, rfl, hb, hcl⟩ := hc hx0
    have hmul : (n1 + n) * bytes ≤ 1000000000 * 1000 := Nat.mul_le_mul (by omega) hbytes
    have hcl' : ∀ j u, ys[j]? = some u → w.cell? ((⟨b, off, none⟩ : Addr).add j) = some u := fun j u hu => by
      have e : (⟨b, off, none⟩ : Addr).add j = ⟨b, off + j, none⟩ := by simp [Addr.add]
      rw [e]
      exact hcl j u hu
    obtain ⟨v', w', hr, ho, hgr, _⟩ := run_append_own (P := P) w base t ty e i z size bytes ht hi hz0 hz1 hz2 hzs hsz _ n1 xs hown ⟨b, off, none⟩ n c ys hl hcl' h1 (by unfold maxLen; omega) (by omega) hbase
    have hbel : Below base w w' := (Below.refl _ _).grown hgr hbase fun q hq => (hown.lt q hq).1
    refine ⟨v', w', hr, ⟨hbel, ?_⟩, ?_⟩
    · rintro u ⟨g, rfl, hlit⟩
      obtain ⟨g', cap', cur', hv', hg', hh', _, _, hsz', _⟩ : ∃ g' cap' cur', Value.slice (some ⟨g, 0, none⟩) 0 0 = .slice (some ⟨g', 0, none⟩) 0 cap' ∧ base ≤ g' ∧ w.heap[g']? = some (.cells cur' e (0, 0)) ∧ 0 ≤ cap' ∧ cap' ≤ maxLen ∧ cur'.size = cap' * size ∧ cur'.toList.take (0 * size) = [] := by
        rcases hlit.2 with ⟨hv, _⟩ | h
        · cases hv
        · exact h
      cases hv'
      rcases hown.2 with ⟨hv, rfl⟩ | ⟨g1, cap, cur, hv, _, hh1, hle, _, hcs, _⟩
      · cases hv
        exact ⟨g, rfl, gr_own hgr hlit (fun q p hq hp => by cases hq)⟩
      · cases hv
        by_cases hroom : n1 + n ≤ c1
        · refine ⟨g, rfl, gr_own hgr hlit (fun q p hq hp => ?_)⟩
          cases hq
          cases hp
          intro e1
          dsimp only at e1
          subst e1
          rw [hh1] at hh'
          injection hh' with hh'
          injection hh' with hh' _ _
          subst hh'
          rw [hcs] at hsz'
          rw [Nat.zero_mul] at hsz'
          rcases Nat.mul_eq_zero.1 hsz' with h | h <;> omega
        · have hl1 : xs.length = n1 * i.size := by rw [hz1]; exact hown.1
          have hgx := run_append_grow (P := P) (w := w) t ty e i z ht hi hz0 ⟨g1, 0, none⟩ n1 c1 xs hl1 (fun j v hj => by
            have hj' := (List.getElem?_eq_some_iff.1 hj).1
            have e2 : (⟨g1, 0, none⟩ : Addr).add j = ⟨g1, j, none⟩ := (Go.WideShapes.add_plain _ _ _).trans (by rw [Nat.zero_add])
            rw [e2, hown.cellAt j (by have := hown.1; omega)]
            exact hj) ⟨b, off, none⟩ n c ys (by rw [hz1]; exact hl) hcl' (by omega) (by omega) (growslice_fits (by omega) (by rw [hz2]; omega))
          rw [hr] at hgx
          injection hgx with e1 e2
          rw [e2]
          exact LitOf.stable _ _ _ ⟨g, rfl, hlit⟩ ((Below.refl _ _).drew.alloc (Nat.le_refl _) _)
    · obtain ⟨A', c', rfl⟩ := own_shape ho
      exact ⟨A', c', rfl, ho⟩
end Go.Proofs.Ytjngcnkipkibcaa
