import Derived.Test.YtjknadnknainbaaGreatDoorCrash
import Derived.Test.YtjknadnknainbaaGreatDoorGrow4
import Derived.Test.YtjknadnknainbaaGreatDoorMem
import Derived.Test.YtjknadnknainbaaGreatDoorSchedOk2
import Derived.BigQuiet
import Derived.StillTailTactics
/- A job that leaves the list: append(append([]Job{}, js[:k]...), js[k+1:]...), in the program and in the reference. -/
namespace Go.Proofs.YtjknadnknainbaaGreatDoor
open Go.RowKit

def plainOpK : Op → Bool
  | .nilCheck .. => true
  | o => plainOp o
theorem plainK_noEnter {P : Program} {ρ : Operand → Value} {o : Oper} (h : plainOpK o.op = true) (w : World) (f : FuncId) (args : Array Value) (w' : World) : (execOp ρ o).run P w ≠ .ok (.enter f args) w' := by
  by_cases hp : plainOp o.op = true
  · exact plain_noEnter hp w f args w'
  have key : ∀ {α : Type} (s : Sem α) (g : α → Value), (do pure (Next.value (g (← s))) : Sem Next).run P w ≠ .ok (.enter f args) w' := fun s g => by
    simp only [Sem.run_bind, Sem.run_pure]
    cases s.run P w with
    | ok v w1 => simp [Result.andThen]
    | halt x w1 => simp [Result.andThen]
  obtain ⟨dst, op, type, pos, after, guard⟩ := o
  cases op <;> simp only [plainOpK, plainOp, Bool.false_eq_true, not_true_eq_false] at h hp
  rename_i x
  simp only [execOp]
  split
  all_goals first | (simp [runtimePanic]; done) | skip
  split
  all_goals first | (simp [runtimePanic]; done) | skip
  rename_i nm fst cap _ _ t' v' _
  cases e1 : Sem.run P program w with
  | halt x w1 => simp [e1, Result.andThen]
  | ok p w1 =>
    cases e2 : Sem.run P (nilAhead (p.types.size + Made.depth) t' v' nm) w1 with
    | halt x w2 => simp [e1, e2, Result.andThen]
    | ok b w2 =>
      simp only [Sem.run_bind, e1, e2, Result.andThen]
      split <;> simp [unsupported, Result.andThen]
def detsFromK (spec : Nat → GSpec) : Nat → List Oper → Prop
  | _, [] => True
  | k, o :: l => spec k = .det ∧ plainOpK o.op = true ∧ detsFromK spec (k + 1) l
section
variable {P : Program} {ops : Array Oper} {C : World → Prop} {R : Nat → World → World → Prop} {kl : Nat → Nat → Bool} {spec : Nat → GSpec} {E : Facts → Act → Prop}
theorem gListK_quiet : ∀ (l1 : List Oper) {l2 : List Oper} {k : Nat} {fs : Facts} {a : Act}, detsFromK spec k l1 →
    wpQuiet P ops C (fun a' => gListK P ops C R kl spec E (k + l1.length) l2 fs a') l1 a → gListK P ops C R kl spec E k (l1 ++ l2) fs a
  | [], l2, k, fs, a, _, h => by simpa [wpQuiet] using h
  | o :: l1, l2, k, fs, a, hd, h => by
    obtain ⟨hs, hp, hd'⟩ := hd
    simp only [List.cons_append, gListK, gStepK, hs]
    unfold wpQuiet at h
    have e : ∀ x : Act → Prop, (k + (o :: l1).length) = (k + 1) + l1.length := fun _ => by simp; omega
    rw [e (fun _ => True)] at h
    split
    · rename_i hw
      rw [if_pos hw] at h
      obtain ⟨c, h1, h2⟩ := h
      exact ⟨c, fun w hC => det_of_quiet (h1 w hC) (plainK_noEnter hp w), gListK_quiet l1 hd' h2⟩
    · rename_i hw
      rw [if_neg hw] at h
      exact gListK_quiet l1 hd' h
theorem gListK_quietN (m : Nat) {l : List Oper} {k : Nat} {fs : Facts} {a : Act} (hd : detsFromK spec k (l.take m)) (hm : m ≤ l.length)
    (h : wpQuiet P ops C (fun a' => gListK P ops C R kl spec E (k + m) (l.drop m) fs a') (l.take m) a) : gListK P ops C R kl spec E k l fs a := by
  have h1 := gListK_quiet (l.take m) (l2 := l.drop m) hd (E := E) (R := R) (kl := kl) (fs := fs) (a := a) (P := P) (ops := ops) (C := C) (by rw [List.length_take, Nat.min_eq_left hm]; exact h)
  rwa [List.take_append_drop] at h1
theorem gListK_any {k : Nat} {o : Oper} {l : List Oper} {fs : Facts} {a : Act} (F : Value → World → Prop) (hs : spec k = .any F) (hg : o.guard = none)
    (h1 : ∀ w, C w → depsHold ops k fs w → growUpon P (R k) F w ((execOp a.eval o).run P w)) (h2 : ∀ v, gListK P ops C R kl spec E (k + 1) l ((fs.kill kl k).upd k (F v)) (a.put o.dst v)) : gListK P ops C R kl spec E k (o :: l) fs a := by
  have hw : Region.wanted o (yielded ops a.tmps) = true := by simp [Region.wanted, hg]
  simp only [gListK, gStepK, hs, if_pos hw]
  exact ⟨h1, h2⟩
end
/-- What the second append does to the worlds: old memory stays, an empty literal stays one. -/
def Onto (B base e size : Nat) (w w' : World) : Prop := Below B w w' ∧ ∀ u, LitOf base e size u w → LitOf base e size u w'
theorem run_onto {P : Program} {w : World} {base t ty e : Nat} {z : Value} {size bytes : Nat} (ht : P.underlying t = some (.slice e)) (hinfo : (P.info? e).map (fun i => (i.zero, i.size, i.bytes)) = some (some z, size, bytes))
    (hzs : z.cells.size = size) (hsz : 0 < size) {s : Value} {n1 : Nat} {xs : List Value} (hs : RowOf base e size n1 xs s w) {A : Option Addr} {n c B : Nat} {ys : List Value} (hl : ys.length = n * size) (hc : Cells w B A ys) (hnil : A = none → c = 0)
    (h1 : ∀ u ∈ ys, u.oneCell' = true) (hn : n1 + n ≤ 1000000000) (hbytes : bytes ≤ 1000) (hbase : base ≤ w.heap.size) :
    ∃ v w', (Builtin.append_ #[t, t] ty #[s, .slice A n c]).run P w = .ok v w' ∧ Onto base base e size w w' ∧ RowOf base e size (n1 + n) (xs ++ ys) v w' := by
  obtain ⟨i, hi, hz0, hz1, hz2⟩ := info_parts hinfo
  obtain ⟨A1, c1, rfl, hown⟩ := hs
  by_cases h0 : n = 0
  · subst h0
    have hys : ys = [] := List.length_eq_zero_iff.1 (by omega)
    subst hys
    refine ⟨.slice A1 n1 c1, w, ?_, ⟨Below.refl _ _, fun _ h => h⟩, A1, c1, rfl, by simpa using hown⟩
    rcases hown.2 with ⟨hv, rfl⟩ | ⟨g, cap, cur, hv, _, _, hle, _⟩
    · cases hv
      cases A with
      | none =>
        have := hnil rfl
        subst this
        simp [Builtin.append_, run_underlying ht, sizeOf, typeInfo, hi, Builtin.lenOf, Builtin.firstCells]
      | some a =>
        have hf := run_firstCells_some (P := P) w i.size 0 a 0 c [] (by simp) (by simp)
        simp [Builtin.append_, run_underlying ht, sizeOf, typeInfo, hi, Builtin.lenOf, hf]
    · cases hv
      cases A with
      | none =>
        have := hnil rfl
        subst this
        simp [Builtin.append_, run_underlying ht, sizeOf, typeInfo, hi, Builtin.lenOf, Builtin.firstCells, storeCells, hle]
      | some a =>
        have hf := run_firstCells_some (P := P) w i.size 0 a 0 c [] (by simp) (by simp)
        simp [Builtin.append_, run_underlying ht, sizeOf, typeInfo, hi, Builtin.lenOf, hf, storeCells, hle]
  · have hx0 : 0 < ys.length := by rw [hl]; exact Nat.mul_pos (by omega) hsz
    obtain ⟨b, off, rfl, hb, hcl⟩ := hc hx0
    have hmul : (n1 + n) * bytes ≤ 1000000000 * 1000 := Nat.mul_le_mul (by omega) hbytes
    have hcl' : ∀ j u, ys[j]? = some u → w.cell? ((⟨b, off, none⟩ : Addr).add j) = some u := fun j u hu => by
      have e : (⟨b, off, none⟩ : Addr).add j = ⟨b, off + j, none⟩ := by simp [Addr.add]
      rw [e]
      exact hcl j u hu
    obtain ⟨v', w', hr, ho, hgr, _⟩ := run_append_own (P := P) w base t ty e i z size bytes ht hi hz0 hz1 hz2 hzs hsz _ n1 xs hown ⟨b, off, none⟩ n c ys hl hcl' h1 (by unfold maxLen; omega) (by omega) hbase
    have hbel : Below base w w' := (Below.refl _ _).grown hgr hbase fun q hq => (hown.lt q hq).1
    refine ⟨v', w', hr, ⟨hbel, ?_⟩, ?_⟩
    · rintro u ⟨g, rfl, hlit⟩
      obtain ⟨g', cap', cur', hv', hg', hh', _, _, hsz', _⟩ : ∃ g' cap' cur', Value.slice (some ⟨g, 0, none⟩) 0 0 = .slice (some ⟨g', 0, none⟩) 0 cap' ∧ base ≤ g' ∧ w.heap[g']? = some (.cells cur' e (0, 0)) ∧ 0 ≤ cap' ∧ cap' ≤ maxLen ∧ cur'.size = cap' * size ∧ cur'.toList.take (0 * size) = [] := by
        rcases hlit.2 with ⟨hv, _⟩ | h
        · cases hv
        · exact h
      cases hv'
      rcases hown.2 with ⟨hv, rfl⟩ | ⟨g1, cap, cur, hv, _, hh1, hle, _, hcs, _⟩
      · cases hv
        exact ⟨g, rfl, gr_own hgr hlit (fun q p hq hp => by cases hq)⟩
      · cases hv
        by_cases hroom : n1 + n ≤ c1
        · refine ⟨g, rfl, gr_own hgr hlit (fun q p hq hp => ?_)⟩
          cases hq
          cases hp
          intro e1
          dsimp only at e1
          subst e1
          rw [hh1] at hh'
          injection hh' with hh'
          injection hh' with hh' _ _
          subst hh'
          rw [hcs] at hsz'
          rw [Nat.zero_mul] at hsz'
          rcases Nat.mul_eq_zero.1 hsz' with h | h <;> omega
        · have hl1 : xs.length = n1 * i.size := by rw [hz1]; exact hown.1
          have hgx := run_append_grow (P := P) (w := w) t ty e i z ht hi hz0 ⟨g1, 0, none⟩ n1 c1 xs hl1 (fun j v hj => by
            have hj' := (List.getElem?_eq_some_iff.1 hj).1
            have e2 : (⟨g1, 0, none⟩ : Addr).add j = ⟨g1, j, none⟩ := (Go.WideShapes.add_plain _ _ _).trans (by rw [Nat.zero_add])
            rw [e2, hown.cellAt j (by have := hown.1; omega)]
            exact hj) ⟨b, off, none⟩ n c ys (by rw [hz1]; exact hl) hcl' (by omega) (by omega) (growslice_fits (by omega) (by rw [hz2]; omega))
          rw [hr] at hgx
          injection hgx with e1 e2
          rw [e2]
          exact LitOf.stable _ _ _ ⟨g, rfl, hlit⟩ ((Below.refl _ _).drew.alloc (Nat.le_refl _) _)
    · obtain ⟨A', c', rfl⟩ := own_shape ho
      exact ⟨A', c', rfl, ho⟩
end Go.Proofs.YtjknadnknainbaaGreatDoor
/- A job that leaves the list: the walks. -/
namespace Go.Proofs.YtjknadnknainbaaGreatDoor
open Go.RowKit

theorem LitOf.onto {B base e size : Nat} {v : Value} {w w' : World} (h : LitOf base e size v w) (ho : Onto B base e size w w') : LitOf base e size v w' := ho.2 _ h
/-- The relation of each operation: number m writes on in the row, the others add memory alone. -/
def dropR (B base e size m : Nat) (k : Nat) (w w' : World) : Prop := if k = m then Onto B base e size w w' else Grows w w'
def dropK (m j : Nat) (k q : Nat) : Bool := k == m && (q == j || q == m)
theorem grow_onto {P : Program} {w : World} {base t e : Nat} {z : Value} {size bytes : Nat} (ht : P.underlying t = some (.slice e)) (hinfo : (P.info? e).map (fun i => (i.zero, i.size, i.bytes)) = some (some z, size, bytes))
    (hzs : z.cells.size = size) (hsz : 0 < size) {o : Oper} {a : Act} {x y : Operand} {s : Value} {A : Option Addr} {n1 n c B : Nat} {xs ys : List Value} (ho : o.op = .call { callee := .builtin .append, args := #[x, y], argTypes := #[t, t] }) (hx : a.eval x = s) (hy : a.eval y = .slice A n c)
    (hs : RowOf base e size n1 xs s w) (hl : ys.length = n * size) (hc : Cells w B A ys) (hnil : A = none → c = 0) (h1 : ∀ u ∈ ys, u.oneCell' = true) (hn : n1 + n ≤ 1000000000) (hbytes : bytes ≤ 1000) (hbase : base ≤ w.heap.size) {m : Nat} :
    growUpon P (dropR base base e size m m) (RowOf base e size (n1 + n) (xs ++ ys)) w ((execOp a.eval o).run P w) := by
  obtain ⟨v, w', hr, hg, hrow⟩ := run_onto (P := P) (w := w) (ty := o.type) ht hinfo hzs hsz hs hl hc hnil h1 hn hbytes hbase
  have e : (execOp a.eval o).run P w = .ok (.value v) w' := by
    unfold execOp
    simp only [ho, resolve, invoke, builtin, Sem.run_bind, Sem.run_pure, Result.andThen_ok, List.map_toArray, List.map_cons, List.map_nil, hx, hy, hr]
  rw [e]
  exact ⟨by unfold dropR; rw [if_pos rfl]; exact hg, hrow⟩
theorem growUpon_of {P : Program} {B base e size m k : Nat} (hk : k ≠ m) {F : Value → World → Prop} {w : World} {r : Result Next} (h : growUpon P Grows F w r) : growUpon P (dropR B base e size m k) F w r := by
  have hR : ∀ w', Grows w w' → dropR B base e size m k w w' := fun w' h => by unfold dropR; rw [if_neg hk]; exact h
  cases r with
  | ok n w' =>
    cases n <;> simp only [growUpon] at h ⊢
    · exact ⟨hR _ h.1, h.2⟩
    · exact ⟨hR _ h.1, h.2⟩
    · exact h.mono fun e w'' ⟨v, h1, h2, h3⟩ => ⟨v, h1, hR _ h2, h3⟩
  | halt x w' => simp only [growUpon] at h
theorem onward_drop {W : World} {base e size m : Nat} (hb : base = W.heap.size) : ∀ k w w', Onward W w → dropR base base e size m k w w' → Onward W w' := by
  intro k w w' h hr
  unfold dropR at hr
  split at hr
  · subst hb
    exact Onward.mk' (h.below.trans hr.1)
  · exact onward_step _ _ h hr
theorem specOf_mem : ∀ {l : List (Nat × (Value → World → Prop))} {k : Nat} {F : Value → World → Prop}, specOf l k = .any F → ∃ p ∈ l, p.1 = k ∧ p.2 = F := by
  intro l k F hk
  unfold specOf at hk
  split at hk
  · rename_i G hG
    cases hk
    have : ∀ (l : List (Nat × (Value → World → Prop))), l.lookup k = some F → ∃ p ∈ l, p.1 = k ∧ p.2 = F := by
      intro l
      induction l with
      | nil => intro h; cases h
      | cons p l ih =>
        intro h
        obtain ⟨a, b⟩ := p
        rw [List.lookup_cons] at h
        split at h
        · rename_i hab
          cases h
          exact ⟨_, List.mem_cons_self, (by simpa using hab : k = a).symm, rfl⟩
        · obtain ⟨p, hp, e⟩ := ih h
          exact ⟨p, List.mem_cons_of_mem _ hp, e⟩
    exact this l hG
  · cases hk
theorem drop_stab {base e size m j i n1 n2 : Nat} {xs ys : List Value} (hj : j ≠ m) : ∀ q F, specOf [(i, LitOf base e size), (j, RowOf base e size n1 xs), (m, RowOf base e size n2 ys)] q = .any F → ∀ k, dropK m j k q = false → ∀ v w w', F v w → dropR base base e size m k w w' → F v w' := by
  intro q F hF k hk v w w' hf hr
  obtain ⟨p, hp, rfl, rfl⟩ := specOf_mem hF
  simp only [List.mem_cons, List.not_mem_nil, or_false] at hp
  unfold dropR at hr
  rcases hp with rfl | rfl | rfl
  · split at hr
    · exact hr.2 _ hf
    · exact LitOf.stable _ _ _ hf hr
  · split at hr
    · next h =>
      subst h
      simp [dropK] at hk
    · exact RowOf.stable _ _ _ hf hr
  · split at hr
    · next h =>
      subst h
      simp [dropK] at hk
    · exact RowOf.stable _ _ _ hf hr
theorem drop_only {base e size m j i n1 n2 : Nat} {xs ys : List Value} (hi : i ≠ m) (hj : j ≠ m) : ∀ k q, (∀ F, specOf [(i, LitOf base e size), (j, RowOf base e size n1 xs), (m, RowOf base e size n2 ys)] k ≠ .any F) → dropK m j k q = false := by
  intro k q h
  by_cases hk : k = m
  · subst hk
    refine absurd ?_ (h (RowOf base e size n2 ys))
    have h1 : (k == i) = false := by simp; exact fun e => hi e.symm
    have h2 : (k == j) = false := by simp; exact fun e => hj e.symm
    simp [specOf, List.lookup_cons, h1, h2]
  · simp [dropK, hk]
theorem Touch.of_below {L : List Nat} {w w' : World} (h : Below w.heap.size w w') : Touch L w w' := ⟨h.os, h.tape, h.output, h.size, fun i hi _ => h.block i hi⟩
/-- The list without the element k. -/
theorem erase_split (js : List Jb) (k : Nat) : js.eraseIdx k = js.take k ++ js.drop (k + 1) := by
  rw [List.eraseIdx_eq_take_drop_succ]
theorem ints_append (xs ys : List Int) : ints (xs ++ ys) = ints xs ++ ints ys := by simp [ints]
theorem ints_drop (xs : List Int) (k : Nat) : (ints xs).drop k = ints (xs.drop k) := by simp [ints, List.map_drop]
theorem ints_take (xs : List Int) (k : Nat) : (ints xs).take k = ints (xs.take k) := by simp [ints, List.map_take]
theorem cells_take {w : World} {B : Nat} {A : Option Addr} {vs : List Value} (h : Cells w B A vs) (k : Nat) : Cells w B A (vs.take k) := by
  intro h0
  have hl : 0 < vs.length := by
    rw [List.length_take] at h0
    omega
  obtain ⟨b, off, hA, hb, hc⟩ := h hl
  refine ⟨b, off, hA, hb, fun i v hv => hc i v ?_⟩
  rw [List.getElem?_take] at hv
  split at hv
  · exact hv
  · cases hv
theorem cells_drop {w : World} {B b off : Nat} {vs : List Value} (h : Cells w B (some ⟨b, off, none⟩) vs) (k : Nat) : Cells w B (some ⟨b, off + k, none⟩) (vs.drop k) := by
  intro h0
  have hl : 0 < vs.length := by
    rw [List.length_drop] at h0
    omega
  obtain ⟨b', off', hA, hb, hc⟩ := h hl
  cases hA
  refine ⟨b, off + k, rfl, hb, fun i v hv => ?_⟩
  rw [List.getElem?_drop] at hv
  rw [Nat.add_assoc]
  exact hc (k + i) v hv
set_option maxRecDepth 100000 in
set_option maxHeartbeats 3200000 in
theorem sDrop (z n b : Int) (g : Nat) (T F : Option Addr) (nj cj nt ct nf cf o k : Nat) (js : List Jb) (w : World) (hnj : js.length = nj) (hk : k < nj) (hb1 : nj ≤ 1000000000)
    (h1 : w.ownsRow 0 64 4 (.slice (some ⟨g, 0, none⟩) nj cj) nj (ints (flatJ js)))
    (ho : Blk w o 40 #[.int .i64 z, .int .i64 n, .int .i64 b, .slice (some ⟨g, 0, none⟩) nj cj, .slice T nt ct, .slice F nf cf]) :
    Calls Tryz.prog 89 #[.pointer (some ⟨o, 0, none⟩), .int .i64 k] w fun e w' => e = .returned (.tuple #[]) ∧ ∃ J' cj',
      Blk w' o 40 #[.int .i64 z, .int .i64 n, .int .i64 b, .slice J' (nj - 1) cj', .slice T nt ct, .slice F nf cf] ∧
      w'.ownsRow w.heap.size 64 4 (.slice J' (nj - 1) cj') (nj - 1) (ints (flatJ (js.eraseIdx k))) ∧ Touch [o] w w' := by
  have cell_o := ho.cell
  have froz_o := ho.frozen
  have lt_o := ho.lt
  have hcap := own_cap h1
  have HO := hid ho
  have HR := hid h1
  have HJ := hid hnj
  have hkc : (k : Int) + 1 ≤ (nj : Int) := by omega
  clear ho h1 hnj
  go_enter Tryz.func89, Tryz.ntmps89
  go_upto_region 0 with fail
  refine wp_grow_tailK (W := w) (R := dropR w.heap.size w.heap.size 64 4 16) (kl := dropK 16 8) (spec := specOf [(1, LitOf w.heap.size 64 4), (8, RowOf w.heap.size 64 4 k (ints (flatJ (js.take k)))), (16, RowOf w.heap.size 64 4 (k + (nj - (k + 1))) (ints (flatJ (js.take k)) ++ ints (flatJ (js.drop (k + 1)))))]) 19 (by kernel_rfl) (by kernel_rfl) (Onward.mk' ((Below.refl _ _).drew)) (by kernel_rfl) (onward_drop rfl) ?_ ?_ ?_
  · exact drop_stab (by decide)
  · exact drop_only (by decide) (by decide)
  · have q0 := fun (x : Later w) (o' : Nat) => (HO.out.below x.below lt_o).cell o'
    have hl1 : (flatJ (js.take k)).length = k * 4 := by rw [flatJ_length, List.length_take]; have := HJ.out; omega
    have hl2 : (flatJ (js.drop (k + 1))).length = (nj - (k + 1)) * 4 := by rw [flatJ_length, List.length_drop]; have := HJ.out; omega
    have HL1 := hid hl1
    have HL2 := hid hl2
    clear hl1 hl2
    have hkl : k ≤ cj := by omega
    have hct := cells_take (Cells.of_own HR.out) (k * 4)
    rw [ints_take, flatJ_take] at hct
    have HCT := hid hct
    have hcd := cells_drop (Cells.of_own HR.out) ((k + 1) * 4)
    rw [ints_drop, flatJ_drop] at hcd
    have HCD := hid hcd
    clear hct hcd
    refine gListK_quietN 1 ⟨rfl, rfl, trivial⟩ (by decide) ?_
    delta Onward
    dsimp only [List.take, List.drop]
    repeat (go_big_quiet_step (fail))
    refine wpQuiet_nil ?_
    refine gListK_any (LitOf w.heap.size 64 4) rfl rfl (fun w' hC _ => ?_) (fun v1 => ?_)
    · obtain ⟨⟨w', hb⟩, rfl⟩ := hC
      exact growUpon_of (by decide) (grow_lit rfl litJob hb.size)
    refine gListK_quietN 6 ⟨rfl, rfl, rfl, rfl, rfl, rfl, rfl, rfl, rfl, rfl, rfl, rfl, trivial⟩ (by decide) ?_
    simp only [Act.put, List.setIfInBounds_toArray, List.set_cons_succ, List.set_cons_zero]
    dsimp only [List.take, List.drop]
    repeat (go_big_quiet_step (fail))
    refine wpQuiet_nil ?_
    refine gListK_any (RowOf w.heap.size 64 4 k (ints (flatJ (js.take k)))) rfl rfl (fun w' hC hd => ?_) (fun v8 => ?_)
    · obtain ⟨⟨w', hb⟩, rfl⟩ := hC
      have hl := hd 1 (by kernel_rfl)
      have hl : LitOf w.heap.size 64 4 v1 w' := hl
      exact growUpon_of (by decide) (grow_copy Tryz.underlying36 infoJob rfl (by decide) rfl rfl rfl hl (by rw [ints_length]; exact HL1.out) (HCT.out.below hb) (fun h => by cases h) (ints_one _) (by omega) (by decide) hb.size)
    refine gListK_quietN 7 ⟨rfl, rfl, rfl, rfl, rfl, rfl, rfl, rfl, rfl, rfl, rfl, rfl, rfl, rfl, trivial⟩ (by decide) ?_
    simp only [Act.put, List.setIfInBounds_toArray, List.set_cons_succ, List.set_cons_zero]
    dsimp only [List.take, List.drop]
    repeat (go_big_quiet_step (fail))
    refine wpQuiet_nil ?_
    refine gListK_any (RowOf w.heap.size 64 4 (k + (nj - (k + 1))) (ints (flatJ (js.take k)) ++ ints (flatJ (js.drop (k + 1))))) rfl rfl (fun w' hC hd => ?_) (fun v16 => ?_)
    · obtain ⟨⟨w', hb⟩, rfl⟩ := hC
      have hl : RowOf w.heap.size 64 4 k (ints (flatJ (js.take k))) v8 w' := hd 8 (by kernel_rfl)
      have hca : Cells w' w.heap.size (if cj = k + 1 then some ⟨g, 0, none⟩ else some ⟨g, (k + 1) * 4, none⟩) (ints (flatJ (js.drop (k + 1)))) := by
        split
        · next h =>
          have e : js.drop (k + 1) = [] := List.drop_eq_nil_of_le (by have := HJ.out; omega)
          rw [e]
          exact Cells.nil_
        · have h := HCD.out.below hb
          rwa [Nat.zero_add] at h
      exact grow_onto Tryz.underlying36 infoJob rfl (by decide) rfl rfl rfl hl (by rw [ints_length]; exact HL2.out) hca (fun h => by split at h <;> cases h) (ints_one _) (by omega) (by decide) hb.size
    refine gListK_quietN 2 ⟨rfl, rfl, rfl, rfl, trivial⟩ (by decide) ?_
    simp only [Act.put, List.setIfInBounds_toArray, List.set_cons_succ, List.set_cons_zero]
    dsimp only [List.take, List.drop]
    repeat (go_big_quiet_step (fail))
    refine wpQuiet_nil ?_
    unfold gListK
    intro w' hW hfs
    have hlast : RowOf w.heap.size 64 4 (k + (nj - (k + 1))) (ints (flatJ (js.take k)) ++ ints (flatJ (js.drop (k + 1)))) v16 w' := hfs 16
    obtain ⟨⟨w', hb⟩, rfl⟩ := hW
    obtain ⟨J', cj', rfl, g1⟩ := hlast
    have en : k + (nj - (k + 1)) = nj - 1 := by omega
    rw [en, ← ints_append, ← flatJ_append, ← erase_split] at g1
    rw [en]
    have HG1 := hid g1
    have HT := hid (Touch.of_below (L := [o]) hb)
    have kr := HO.out.past hb
    have cell_r2 := kr.cell
    have froz_r2 := kr.frozen
    have lt_r2 := kr.lt
    have HKR := hid kr
    clear g1 hfs hb q0 kr
    go_wp2_with fail
    all_goals
      ((try simp only [Exit.inBlock, Exit.then]); refine bodyPost_end (v := .tuple #[]) (by first | kernel_rfl | ((try simp only [results, Tryz.results89]); (try go_simp); (try rfl))) rfl ?_)
      refine ⟨rfl, J', cj', ?_, ?_, ?_⟩
      · have k := HKR.out
        exact blkcBy
      · have h := HG1.out
        exact ownBy
      · have ht : Touch [o] w w' := HT.out
        exact tchBy
set_option maxRecDepth 100000 in
set_option maxHeartbeats 3200000 in
theorem iDrop (z n b : Int) (g : Nat) (T F : Option Addr) (nj cj nt ct nf cf o k kb : Nat) (js : List Jb) (w : World) (hnj : js.length = nj) (hk : k < nj) (hb1 : nj ≤ 1000000000)
    (h1 : w.ownsRow 0 64 4 (.slice (some ⟨g, 0, none⟩) nj cj) nj (ints (flatJ js)))
    (ho : Blk w o 40 #[.int .i64 z, .int .i64 n, .int .i64 b, .slice (some ⟨g, 0, none⟩) nj cj, .slice T nt ct, .slice F nf cf]) (hkb : Blk w kb 3 #[.int .i64 k]) :
    Calls Tryz.prog 103 #[.pointer (some ⟨o, 0, none⟩), .pointer (some ⟨kb, 0, none⟩)] w fun e w' => e = .returned (.tuple #[]) ∧ ∃ J' cj',
      Blk w' o 40 #[.int .i64 z, .int .i64 n, .int .i64 b, .slice J' (nj - 1) cj', .slice T nt ct, .slice F nf cf] ∧
      w'.ownsRow w.heap.size 64 4 (.slice J' (nj - 1) cj') (nj - 1) (ints (flatJ (js.eraseIdx k))) ∧ Touch [o] w w' := by
  have cell_o := ho.cell
  have cell_k := hkb.cell
  have lt_k := hkb.lt
  have HKB := hid hkb
  clear hkb
  have froz_o := ho.frozen
  have lt_o := ho.lt
  have hcap := own_cap h1
  have HO := hid ho
  have HR := hid h1
  have HJ := hid hnj
  have hkc : (k : Int) + 1 ≤ (nj : Int) := by omega
  clear ho h1 hnj
  go_enter Tryz.func103, Tryz.ntmps103
  go_upto_region 0 with fail
  refine wp_grow_tailK (W := w) (R := dropR w.heap.size w.heap.size 64 4 11) (kl := dropK 11 5) (spec := specOf [(0, LitOf w.heap.size 64 4), (5, RowOf w.heap.size 64 4 k (ints (flatJ (js.take k)))), (11, RowOf w.heap.size 64 4 (k + (nj - (k + 1))) (ints (flatJ (js.take k)) ++ ints (flatJ (js.drop (k + 1)))))]) 13 (by kernel_rfl) (by kernel_rfl) (Onward.mk' ((Below.refl _ _).drew)) (by kernel_rfl) (onward_drop rfl) ?_ ?_ ?_
  · exact drop_stab (by decide)
  · exact drop_only (by decide) (by decide)
  · have q0 := fun (x : Later w) (o' : Nat) => (HO.out.below x.below lt_o).cell o'
    have hl1 : (flatJ (js.take k)).length = k * 4 := by rw [flatJ_length, List.length_take]; have := HJ.out; omega
    have hl2 : (flatJ (js.drop (k + 1))).length = (nj - (k + 1)) * 4 := by rw [flatJ_length, List.length_drop]; have := HJ.out; omega
    have HL1 := hid hl1
    have HL2 := hid hl2
    clear hl1 hl2
    have q1 := fun (x : Later w) (o' : Nat) => (HKB.out.below x.below lt_k).cell o'
    have hkl : k ≤ cj := by omega
    have hct := cells_take (Cells.of_own HR.out) (k * 4)
    rw [ints_take, flatJ_take] at hct
    have HCT := hid hct
    have hcd := cells_drop (Cells.of_own HR.out) ((k + 1) * 4)
    rw [ints_drop, flatJ_drop] at hcd
    have HCD := hid hcd
    clear hct hcd
    delta Onward
    dsimp only [List.take, List.drop]
    refine gListK_any (LitOf w.heap.size 64 4) rfl rfl (fun w' hC _ => ?_) (fun v0 => ?_)
    · obtain ⟨⟨w', hb⟩, rfl⟩ := hC
      exact growUpon_of (by decide) (grow_lit rfl litJob hb.size)
    refine gListK_quietN 4 ⟨rfl, rfl, rfl, rfl, rfl, rfl, rfl, rfl, trivial⟩ (by decide) ?_
    simp only [Act.put, List.setIfInBounds_toArray, List.set_cons_succ, List.set_cons_zero]
    dsimp only [List.take, List.drop]
    repeat (go_big_quiet_step (fail))
    refine wpQuiet_nil ?_
    refine gListK_any (RowOf w.heap.size 64 4 k (ints (flatJ (js.take k)))) rfl rfl (fun w' hC hd => ?_) (fun v5 => ?_)
    · obtain ⟨⟨w', hb⟩, rfl⟩ := hC
      have hl := hd 0 (by kernel_rfl)
      have hl : LitOf w.heap.size 64 4 v0 w' := hl
      exact growUpon_of (by decide) (grow_copy Tryz.underlying36 infoJob rfl (by decide) rfl rfl rfl hl (by rw [ints_length]; exact HL1.out) (HCT.out.below hb) (fun h => by cases h) (ints_one _) (by omega) (by decide) hb.size)
    refine gListK_quietN 5 ⟨rfl, rfl, rfl, rfl, rfl, rfl, rfl, rfl, rfl, rfl, trivial⟩ (by decide) ?_
    simp only [Act.put, List.setIfInBounds_toArray, List.set_cons_succ, List.set_cons_zero]
    dsimp only [List.take, List.drop]
    repeat (go_big_quiet_step (fail))
    refine wpQuiet_nil ?_
    refine gListK_any (RowOf w.heap.size 64 4 (k + (nj - (k + 1))) (ints (flatJ (js.take k)) ++ ints (flatJ (js.drop (k + 1))))) rfl rfl (fun w' hC hd => ?_) (fun v11 => ?_)
    · obtain ⟨⟨w', hb⟩, rfl⟩ := hC
      have hl : RowOf w.heap.size 64 4 k (ints (flatJ (js.take k))) v5 w' := hd 5 (by kernel_rfl)
      have hca : Cells w' w.heap.size (if cj = k + 1 then some ⟨g, 0, none⟩ else some ⟨g, (k + 1) * 4, none⟩) (ints (flatJ (js.drop (k + 1)))) := by
        split
        · next h =>
          have e : js.drop (k + 1) = [] := List.drop_eq_nil_of_le (by have := HJ.out; omega)
          rw [e]
          exact Cells.nil_
        · have h := HCD.out.below hb
          rwa [Nat.zero_add] at h
      exact grow_onto Tryz.underlying36 infoJob rfl (by decide) rfl rfl rfl hl (by rw [ints_length]; exact HL2.out) hca (fun h => by split at h <;> cases h) (ints_one _) (by omega) (by decide) hb.size
    refine gListK_quietN 1 ⟨rfl, rfl, trivial⟩ (by decide) ?_
    simp only [Act.put, List.setIfInBounds_toArray, List.set_cons_succ, List.set_cons_zero]
    dsimp only [List.take, List.drop]
    repeat (go_big_quiet_step (fail))
    refine wpQuiet_nil ?_
    unfold gListK
    intro w' hW hfs
    have hlast : RowOf w.heap.size 64 4 (k + (nj - (k + 1))) (ints (flatJ (js.take k)) ++ ints (flatJ (js.drop (k + 1)))) v11 w' := hfs 11
    obtain ⟨⟨w', hb⟩, rfl⟩ := hW
    obtain ⟨J', cj', rfl, g1⟩ := hlast
    have en : k + (nj - (k + 1)) = nj - 1 := by omega
    rw [en, ← ints_append, ← flatJ_append, ← erase_split] at g1
    rw [en]
    have HG1 := hid g1
    have HT := hid (Touch.of_below (L := [o]) hb)
    have kr := HO.out.past hb
    have cell_r2 := kr.cell
    have froz_r2 := kr.frozen
    have lt_r2 := kr.lt
    have HKR := hid kr
    clear g1 hfs hb q0 q1 kr
    go_wp2_with fail
    all_goals
      ((try simp only [Exit.inBlock, Exit.then]); refine bodyPost_end (v := .tuple #[]) (by first | kernel_rfl | ((try simp only [results, Tryz.results103]); (try go_simp); (try rfl))) rfl ?_)
      refine ⟨rfl, J', cj', ?_, ?_, ?_⟩
      · have k := HKR.out
        exact blkcBy
      · have h := HG1.out
        exact ownBy
      · have ht : Touch [o] w w' := HT.out
        exact tchBy
end Go.Proofs.YtjknadnknainbaaGreatDoor
/- The step of a schedule, in the program. -/

namespace Go.Proofs.YtjknadnknainbaaGreatDoor
open Go.RowKit

noncomputable def stepR (S : SV) : SV := if stepB S then stepS S else S
noncomputable def stepI (S : SV) : Int := if stepB S then (job S).i else 0
theorem stepB_parts {S : SV} (h : stepB S = true) : schedOk S ∧ 0 < S.js.length ∧ S.ts.length < 1000 := by
  unfold stepB at h
  simp only [Bool.and_eq_true, decide_eq_true_eq] at h
  exact ⟨schedOkB_iff.1 h.1.1, h.1.2, h.2⟩
theorem stepR_no {S : SV} (h : stepB S = false) : stepR S = S := by unfold stepR; rw [h]; rfl
theorem stepR_yes {S : SV} (h : stepB S = true) : stepR S = stepS S := by unfold stepR; rw [h]; rfl
theorem stepI_no {S : SV} (h : stepB S = false) : stepI S = 0 := by unfold stepI; rw [h]; rfl
theorem stepI_yes {S : SV} (h : stepB S = true) : stepI S = (job S).i := by unfold stepI; rw [h]; rfl
theorem stepS_len (S : SV) : (stepS S).js.length ≤ S.js.length ∧ (stepS S).ts.length ≤ S.ts.length + 1 ∧ (stepS S).fs.length ≤ S.fs.length + 1 := by
  have h := List.length_eraseIdx_le S.js (best S)
  unfold stepS
  split
  · simp only [stepF, List.length_append, List.length_cons, List.length_nil]
    exact ⟨h, by omega, by omega⟩
  · simp only [stepT, List.length_append, List.length_cons, List.length_nil]
    refine ⟨?_, by omega, by omega⟩
    split
    · exact h
    · simp
theorem lenSchedStep (S : SV) : (stepR S).js.length ≤ S.js.length ∧ (stepR S).ts.length ≤ S.ts.length + 1 ∧ (stepR S).fs.length ≤ S.fs.length + 1 := by
  unfold stepR
  split
  · exact stepS_len S
  · exact ⟨Nat.le_refl _, by omega, by omega⟩
end Go.Proofs.YtjknadnknainbaaGreatDoor
