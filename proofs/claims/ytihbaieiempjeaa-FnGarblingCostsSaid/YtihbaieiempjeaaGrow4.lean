/- The steps of a walk over a region that adds to memory: what is found on the walk, a fact, a value; the copy append([]T{}, xs...). No program is named here. -/
import Derived.Test.YtihbaieiempjeaaGrow3
import Derived.BigQuiet
namespace Go.Proofs.Ytihbaieiempjeaa
open Go.RowKit

def plainOp : Op → Bool
  | .move _ | .assign _ | .pick .. | .load .. | .fieldAddr .. | .indexAddr .. | .binOp .. | .unOp .. | .convert .. | .build .. | .extract .. | .slice .. | .index .. | .field .. => true
  | _ => false
theorem plain_noEnter {P : Program} {ρ : Operand → Value} {o : Oper} (h : plainOp o.op = true) (w : World) (f : FuncId) (args : Array Value) (w' : World) : (execOp ρ o).run P w ≠ .ok (.enter f args) w' := by
  have key : ∀ {α : Type} (s : Sem α) (g : α → Value), (do pure (Next.value (g (← s))) : Sem Next).run P w ≠ .ok (.enter f args) w' := fun s g => by
    simp only [Sem.run_bind, Sem.run_pure]
    cases s.run P w with
    | ok v w1 => simp [Result.andThen]
    | halt x w1 => simp [Result.andThen]
  obtain ⟨dst, op, type, pos, after, guard⟩ := o
  cases op <;> simp only [plainOp, Bool.false_eq_true] at h <;> simp only [execOp]
  case move x => simp
  case assign x => simp
  case pick c x y => exact key (asBool (ρ c)) fun b => if b then ρ x else ρ y
  all_goals exact key _ id
theorem det_of_quiet {P : Program} {C : World → Prop} {w : World} {v : Value} {r : Result Next} (h : Oper.quietUpon P C w v r) (hn : ∀ f args w', r ≠ .ok (.enter f args) w') : detUpon w v r := by
  cases r with
  | ok n w' =>
    cases n <;> simp only [Oper.quietUpon] at h
    · exact h
    · exact h
    · exact absurd rfl (hn _ _ _)
  | halt x w' => simp only [Oper.quietUpon] at h
def detsFrom (spec : Nat → GSpec) : Nat → List Oper → Prop
  | _, [] => True
  | k, o :: l => spec k = .det ∧ plainOp o.op = true ∧ detsFrom spec (k + 1) l
section
variable {P : Program} {ops : Array Oper} {C : World → Prop} {R : World → World → Prop} {spec : Nat → GSpec} {E : Facts → Act → Prop}
/-- A stretch of operations that only read: the walk of a quiet region serves. -/
theorem gList_quiet : ∀ (l1 : List Oper) {l2 : List Oper} {k : Nat} {fs : Facts} {a : Act}, detsFrom spec k l1 →
    wpQuiet P ops C (fun a' => gList P ops C R spec E (k + l1.length) l2 fs a') l1 a → gList P ops C R spec E k (l1 ++ l2) fs a
  | [], l2, k, fs, a, _, h => by simpa [wpQuiet] using h
  | o :: l1, l2, k, fs, a, hd, h => by
    obtain ⟨hs, hp, hd'⟩ := hd
    simp only [List.cons_append, gList, gStep, hs]
    unfold wpQuiet at h
    have e : ∀ x : Act → Prop, (k + (o :: l1).length) = (k + 1) + l1.length := fun _ => by simp; omega
    rw [e (fun _ => True)] at h
    split
    · rename_i hw
      rw [if_pos hw] at h
      obtain ⟨c, h1, h2⟩ := h
      exact ⟨c, fun w hC => det_of_quiet (h1 w hC) (plain_noEnter hp w), gList_quiet l1 hd' h2⟩
    · rename_i hw
      rw [if_neg hw] at h
      exact gList_quiet l1 hd' h
theorem gList_any {k : Nat} {o : Oper} {l : List Oper} {fs : Facts} {a : Act} (F : Value → World → Prop) (hs : spec k = .any F) (hg : o.guard = none)
    (h1 : ∀ w, C w → depsHold ops k fs w → growUpon P R F w ((execOp a.eval o).run P w)) (h2 : ∀ v, gList P ops C R spec E (k + 1) l (fs.upd k (F v)) (a.put o.dst v)) : gList P ops C R spec E k (o :: l) fs a := by
  have hw : Region.wanted o (yielded ops a.tmps) = true := by simp [Region.wanted, hg]
  simp only [gList, gStep, hs, if_pos hw]
  exact ⟨h1, h2⟩
theorem gList_con {k : Nat} {o : Oper} {l : List Oper} {fs : Facts} {a : Act} (c : Value) (hs : spec k = .con c) (hg : o.guard = none)
    (h1 : ∀ w, C w → depsHold ops k fs w → growUpon P R (fun v _ => v = c) w ((execOp a.eval o).run P w)) (h2 : gList P ops C R spec E (k + 1) l fs (a.put o.dst c)) : gList P ops C R spec E k (o :: l) fs a := by
  have hw : Region.wanted o (yielded ops a.tmps) = true := by simp [Region.wanted, hg]
  simp only [gList, gStep, hs, if_pos hw]
  exact ⟨h1, h2⟩
/-- A call, by its contract. -/
theorem grow_call {f : FuncId} {args : Array Value} {w : World} {F : Value → World → Prop} {o : Oper} {a : Act} (hr : (execOp a.eval o).run P w = .ok (.enter f args) w)
    (h : Calls P f args w fun e w'' => ∃ v, e = .returned v ∧ R w w'' ∧ F v w'') : growUpon P R F w ((execOp a.eval o).run P w) := by
  rw [hr]
  exact h
end
/-- What a copied slice is: a row of its own, with these cells. -/
def RowOf (base e size n : Nat) (xs : List Value) (v : Value) (w : World) : Prop := ∃ A c, v = .slice A n c ∧ w.ownsRow base e size (.slice A n c) n xs
theorem RowOf.stable {base e size n : Nat} {xs : List Value} : ∀ v w w', RowOf base e size n xs v w → Grows w w' → RowOf base e size n xs v w' := by
  rintro v w w' ⟨A, c, rfl, h⟩ hg
  exact ⟨A, c, rfl, own_below h hg⟩
/-- An empty literal. -/
def LitOf (base e size : Nat) (v : Value) (w : World) : Prop := ∃ g, v = .slice (some ⟨g, 0, none⟩) 0 0 ∧ w.ownsRow base e size (.slice (some ⟨g, 0, none⟩) 0 0) 0 []
theorem LitOf.stable {base e size : Nat} : ∀ v w w', LitOf base e size v w → Grows w w' → LitOf base e size v w' := by
  rintro v w w' ⟨g, rfl, h⟩ hg
  exact ⟨g, rfl, own_below h hg⟩
theorem lit_made {w : World} {base e size : Nat} (hb : base ≤ w.heap.size) : LitOf base e size (.slice (some ⟨w.heap.size, 0, none⟩) 0 0) (w.alloc (.cells #[] e)) :=
  ⟨w.heap.size, rfl, own_lit #[] 0 rfl hb (Nat.zero_le _) (by simp)⟩
theorem run_copy {P : Program} {w : World} {base t ty e : Nat} {z : Value} {size bytes : Nat} (ht : P.underlying t = some (.slice e)) (hinfo : (P.info? e).map (fun i => (i.zero, i.size, i.bytes)) = some (some z, size, bytes))
    (hzs : z.cells.size = size) (hsz : 0 < size) {s : Value} (hs : LitOf base e size s w) {A : Option Addr} {n c B : Nat} {xs : List Value} (hl : xs.length = n * size) (hc : Cells w B A xs) (hnil : A = none → c = 0)
    (h1 : ∀ u ∈ xs, u.oneCell' = true) (hn : n ≤ 1000000000) (hbytes : bytes ≤ 1000) (hbase : base ≤ w.heap.size) :
    ∃ v w', (Builtin.append_ #[t, t] ty #[s, .slice A n c]).run P w = .ok v w' ∧ Grows w w' ∧ RowOf base e size n xs v w' := by
  obtain ⟨i, hi, hz0, hz1, hz2⟩ := info_parts hinfo
  obtain ⟨g, rfl, hown⟩ := hs
  by_cases h0 : n = 0
  · subst h0
    have hxs : xs = [] := List.length_eq_zero_iff.1 (by omega)
    subst hxs
    refine ⟨.slice (some ⟨g, 0, none⟩) 0 0, w, ?_, Below.refl _ _, ⟨_, _, rfl, hown⟩⟩
    cases A with
    | none =>
      have := hnil rfl
      subst this
      simp [Builtin.append_, run_underlying ht, sizeOf, typeInfo, hi, Builtin.lenOf, Builtin.firstCells, storeCells]
    | some a =>
      have hf := run_firstCells_some (P := P) w i.size 0 a 0 c [] (by simp) (by simp)
      simp [Builtin.append_, run_underlying ht, sizeOf, typeInfo, hi, Builtin.lenOf, hf, storeCells]
  · have hx0 : 0 < xs.length := by rw [hl]; exact Nat.mul_pos (by omega) hsz
    obtain ⟨b, off, rfl, hb, hcl⟩ := hc hx0
    have hmul : (0 + n) * bytes ≤ 1000000000 * 1000 := Nat.mul_le_mul (by omega) hbytes
    have hcl' : ∀ j u, xs[j]? = some u → w.cell? ((⟨b, off, none⟩ : Addr).add j) = some u := fun j u hu => by
      have e : (⟨b, off, none⟩ : Addr).add j = ⟨b, off + j, none⟩ := by simp [Addr.add]
      rw [e]
      exact hcl j u hu
    obtain ⟨v', w', hr, ho, _, _⟩ := run_append_own (P := P) w base t ty e i z size bytes ht hi hz0 hz1 hz2 hzs hsz _ 0 [] hown ⟨b, off, none⟩ n c xs hl hcl' h1 (by unfold maxLen; omega) (by omega) hbase
    have hg := run_append_grow (P := P) (w := w) t ty e i z ht hi hz0 ⟨g, 0, none⟩ 0 0 [] (by simp) (by simp) ⟨b, off, none⟩ n c xs (by rw [hz1]; exact hl) hcl' (by omega) (by omega) (growslice_fits (by omega) (by rw [hz2]; omega))
    rw [hr] at hg
    injection hg with e1 e2
    refine ⟨v', w', hr, ?_, ?_⟩
    · rw [e2]
      exact (Below.refl _ _).drew.alloc (Nat.le_refl _) _
    · obtain ⟨A', c', rfl⟩ := own_shape ho
      rw [Nat.zero_add, List.nil_append] at ho
      rw [Nat.zero_add]
      exact ⟨A', c', rfl, ho⟩
end Go.Proofs.Ytihbaieiempjeaa
