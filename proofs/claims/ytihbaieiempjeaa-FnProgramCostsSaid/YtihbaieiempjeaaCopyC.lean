/- Copies of circuits, in the program. -/
import Derived.Test.YtihbaieiempjeaaBy
import Derived.Test.YtihbaieiempjeaaSum
import Derived.Test.YtihbaieiempjeaaGrow4
namespace Go.Proofs.Ytihbaieiempjeaa
open Go.RowKit

def specOf (l : List (Nat × (Value → World → Prop))) (k : Nat) : GSpec := match l.lookup k with
  | some F => .any F
  | none => .det
theorem specOf_stab : ∀ {l : List (Nat × (Value → World → Prop))}, (∀ p ∈ l, ∀ v w w', p.2 v w → Grows w w' → p.2 v w') → ∀ k F, specOf l k = .any F → ∀ v w w', F v w → Grows w w' → F v w' := by
  intro l h k F hk
  unfold specOf at hk
  split at hk
  · rename_i G hG
    cases hk
    have : ∀ (l : List (Nat × (Value → World → Prop))), l.lookup k = some F → ∃ p ∈ l, p.2 = F := by
      intro l
      induction l with
      | nil => intro h; cases h
      | cons p l ih =>
        intro h
        obtain ⟨a, b⟩ := p
        rw [List.lookup_cons] at h
        split at h
        · cases h
          exact ⟨_, List.mem_cons_self, rfl⟩
        · obtain ⟨p, hp, e⟩ := ih h
          exact ⟨p, List.mem_cons_of_mem _ hp, e⟩
    obtain ⟨p, hp, rfl⟩ := this l hG
    exact h p hp
  · cases hk
theorem gList_quietN {P : Program} {ops : Array Oper} {C : World → Prop} {R : World → World → Prop} {spec : Nat → GSpec} {E : Facts → Act → Prop} (m : Nat) {l : List Oper} {k : Nat} {fs : Facts} {a : Act} (hd : detsFrom spec k (l.take m)) (hm : m ≤ l.length)
    (h : wpQuiet P ops C (fun a' => gList P ops C R spec E (k + m) (l.drop m) fs a') (l.take m) a) : gList P ops C R spec E k l fs a := by
  have h1 := gList_quiet (l.take m) (l2 := l.drop m) hd (E := E) (R := R) (fs := fs) (a := a) (P := P) (ops := ops) (C := C) (by rw [List.length_take, Nat.min_eq_left hm]; exact h)
  rwa [List.take_append_drop] at h1
set_option maxHeartbeats 3200000 in
theorem grow_lit {P : Program} {t e base size : Nat} {w : World} {o : Oper} {a : Act} (ho : o.op = Op.buildSlice t 0 #[]) (hr : ∀ w : World, (Instr.buildSlice t 0 #[]).run P w = .ok (.slice (some ⟨w.heap.size, 0, none⟩) 0 0) (w.alloc (.cells #[] e)))
    (hb : base ≤ w.heap.size) : growUpon P Grows (LitOf base e size) w ((execOp a.eval o).run P w) := by
  simp [execOp, ho, growUpon, hr, Result.andThen]
  exact ⟨(Below.refl _ _).alloc (Nat.le_refl _) _, lit_made hb⟩
theorem grow_copy {P : Program} {w : World} {base t e : Nat} {z : Value} {size bytes : Nat} (ht : P.underlying t = some (.slice e)) (hinfo : (P.info? e).map (fun i => (i.zero, i.size, i.bytes)) = some (some z, size, bytes))
    (hzs : z.cells.size = size) (hsz : 0 < size) {o : Oper} {a : Act} {x y : Operand} {s : Value} {A : Option Addr} {n c B : Nat} {xs : List Value} (ho : o.op = .call { callee := .builtin .append, args := #[x, y], argTypes := #[t, t] }) (hx : a.eval x = s) (hy : a.eval y = .slice A n c)
    (hs : LitOf base e size s w) (hl : xs.length = n * size) (hc : Cells w B A xs) (hnil : A = none → c = 0) (h1 : ∀ u ∈ xs, u.oneCell' = true) (hn : n ≤ 1000000000) (hbytes : bytes ≤ 1000) (hbase : base ≤ w.heap.size) :
    growUpon P Grows (RowOf base e size n xs) w ((execOp a.eval o).run P w) := by
  obtain ⟨v, w', hr, hg, hrow⟩ := run_copy (P := P) (w := w) (ty := o.type) ht hinfo hzs hsz hs hl hc hnil h1 hn hbytes hbase
  have e : (execOp a.eval o).run P w = .ok (.value v) w' := by
    unfold execOp
    simp only [ho, resolve, invoke, builtin, Sem.run_bind, Sem.run_pure, Result.andThen_ok, List.map_toArray, List.map_cons, List.map_nil, hx, hy, hr]
  rw [e]
  exact ⟨hg, hrow⟩
theorem own_nil {w : World} {base e size n c : Nat} {A : Option Addr} {xs : List Value} (h : w.ownsRow base e size (.slice A n c) n xs) : A = none → c = 0 := by
  rcases h.2 with ⟨hv, rfl⟩ | ⟨g, cap, cur, hv, _⟩
  · cases hv
    exact fun _ => rfl
  · cases hv
    exact fun h => by cases h
theorem wpList_copy {P : Program} {w : World} {base t e : Nat} {z : Value} {size bytes : Nat} (ht : P.underlying t = some (.slice e)) (hinfo : (P.info? e).map (fun i => (i.zero, i.size, i.bytes)) = some (some z, size, bytes))
    (hzs : z.cells.size = size) (hsz : 0 < size) {ops : Array Oper} {rest : List Oper} {Q : Exit → Act → World → Prop} {o : Oper} {a : Act} (hgd : o.guard = none) {x y : Operand} {s : Value} {A : Option Addr} {n c B : Nat} {xs : List Value}
    (ho : o.op = .call { callee := .builtin .append, args := #[x, y], argTypes := #[t, t] }) (hx : a.eval x = s) (hy : a.eval y = .slice A n c)
    (hs : LitOf base e size s w) (hl : xs.length = n * size) (hc : Cells w B A xs) (hnil : A = none → c = 0) (h1 : ∀ u ∈ xs, u.oneCell' = true) (hn : n ≤ 1000000000) (hbytes : bytes ≤ 1000) (hbase : base ≤ w.heap.size)
    (h : ∀ A' c' w', w'.ownsRow base e size (.slice A' n c') n xs → Below w.heap.size w w' → wpList P ops Q rest (a.put o.dst (.slice A' n c')) w') : wpList P ops Q (o :: rest) a w := by
  refine wpList_plain hgd fun K hK => ?_
  obtain ⟨v, w', hr, hg, A', c', rfl, hrow⟩ := run_copy (P := P) (w := w) (ty := o.type) ht hinfo hzs hsz hs hl hc hnil h1 hn hbytes hbase
  unfold Oper.wp execOp
  simp only [ho, resolve, invoke, builtin, Sem.run_bind, Sem.run_pure, Result.andThen_ok, List.map_toArray, List.map_cons, List.map_nil, hx, hy, hr]
  exact hK _ _ (h A' c' w' hrow hg)
theorem iIntsO (A : Option Addr) (c n : Nat) (xs : List Int) (w : World) (h : w.ownsRow 0 3 1 (.slice A n c) n (ints xs)) (hn : n ≤ 1000000000) :
    Calls Try.prog 120 #[.slice A n c] w fun e w' => ∃ A' c', e = .returned (.slice A' n c') ∧ w'.ownsRow w.heap.size 3 1 (.slice A' n c') n (ints xs) ∧ Below w.heap.size w w' := by
  have hc := Cells.of_own h
  have hlen := h.1
  have hnil := own_nil h
  have HLIT := hid (lit_made (w := w) (base := w.heap.size) (e := 3) (size := 1) (Nat.le_refl _))
  have HC := hid hc
  have HL := hid hlen
  have HN := hid hnil
  clear hc hlen hnil h
  go_enter Try.func120, Try.ntmps120
  go_wp2_with (at_builtin; refine wpList_copy Try.underlying25 infoI rfl (by decide) rfl rfl rfl rfl HLIT.out HL.out (HC.out.below ((Below.refl _ _).alloc (Nat.le_refl _) _)) HN.out (ints_one _) hn (by decide) (by simp) ?_; intro A' c' w1 hrow hb)
  have HR := hid hrow
  have HB := hid hb
  clear hrow hb
  go_ret
  refine ⟨A', c', rfl, HR.out, ?_⟩
  have hb : Below w.heap.size w w1 := ((Below.refl w.heap.size w).alloc (Nat.le_refl _) _).trans (HB.out.mono (by simp))
  exact hb
theorem litGate (w : World) : (Instr.buildSlice 24 0 #[]).run Try.prog w = .ok (.slice (some ⟨w.heap.size, 0, none⟩) 0 0) (w.alloc (.cells #[] 70)) := by kernel_rfl
/-- A circuit whose slices are rows from block B on. -/
def CircRows (B n m : Nat) (gs os : List Int) (u : Value) (w : World) : Prop :=
  ∃ G cg O co, u = .agg #[.slice G n cg, .slice O m co] ∧ w.ownsRow B TG 3 (.slice G n cg) n (ints gs) ∧ w.ownsRow B 3 1 (.slice O m co) m (ints os)
theorem CircRows.stable {B n m : Nat} {gs os : List Int} : ∀ v w w', CircRows B n m gs os v w → Grows w w' → CircRows B n m gs os v w' := by
  rintro v w w' ⟨G, cg, O, co, e, h1, h2⟩ hg
  exact ⟨G, cg, O, co, e, own_below h1 hg, own_below h2 hg⟩
set_option maxRecDepth 100000 in
theorem iCopyC (G O : Option Addr) (n cg m co : Nat) (gs os : List Int) (w : World) (h1 : w.ownsRow 0 TG 3 (.slice G n cg) n (ints gs)) (h2 : w.ownsRow 0 3 1 (.slice O m co) m (ints os)) (b1 : n ≤ 1000000) (b2 : m ≤ 1000000) :
    Calls Try.prog 103 #[.agg #[.slice G n cg, .slice O m co]] w fun e w' => ∃ G' cg' O' co', e = .returned (.agg #[.slice G' n cg', .slice O' m co']) ∧
      w'.ownsRow w.heap.size TG 3 (.slice G' n cg') n (ints gs) ∧ w'.ownsRow w.heap.size 3 1 (.slice O' m co') m (ints os) ∧ Below w.heap.size w w' := by
  go_enter Try.func103, Try.ntmps103
  have b_0 := (Below.refl w.heap.size w)
  have s_0 := b_0.size
  have og_in := own_in h1
  have og_0 := h1
  clear h1
  have oo_in := own_in h2
  have oo_0 := h2
  clear h2
  go_upto_region 1 with fail
  refine wp_forget2 (w0 := w) (B := w.heap.size) (b0 := w.heap.size) (t0 := 27) (c0 := #[.slice G n cg, .slice O m co]) (b1 := w.heap.size + 1) (t1 := 27) (c1 := #[.slice none 0 0, .slice none 0 0]) ?_ ?_ ?_ ?_
  (focus exact blkcBy)
  (focus exact blkcBy)
  (focus (exact belBy))
  intro w1 x_1 r_1 hX1
  have sX1 := hX1.size
  have x_lt := x_1.lt
  have r_lt := r_1.lt
  have b_1 := b_0.trans (hX1.mono (by omega))
  have og_1 := own_below og_0 hX1
  have oo_1 := own_below oo_0 hX1
  clear og_0 oo_0 b_0 hX1
  have cell_x := x_1.cell
  have froz_x := x_1.frozen
  have lt_x := x_1.lt
  have cell_r := r_1.cell
  have froz_r := r_1.frozen
  have lt_r := r_1.lt
  have HOG := hid og_1
  have HOO := hid oo_1
  have HR := hid r_1
  have HB := hid b_1
  clear og_1 oo_1 r_1 b_1
  refine wp_grow_tail (W := w1) (spec := specOf [(0, LitOf w1.heap.size TG 3), (3, RowOf w1.heap.size TG 3 n (ints gs)), (6, RowOf w1.heap.size 3 1 m (ints os)), (7, CircRows w1.heap.size n m gs os)]) 8 (by kernel_rfl) (by kernel_rfl) (Onward.mk' ((Below.refl _ _).drew)) (specOf_stab ?_) ?_
  · intro p hp
    simp only [List.mem_cons, List.not_mem_nil, or_false] at hp
    rcases hp with rfl | rfl | rfl | rfl
    all_goals
      first | exact LitOf.stable | exact RowOf.stable | exact CircRows.stable
  · have q0 := fun (x : Later w1) (o : Nat) => (x_1.below x.below x_1.lt).cell o
    refine gList_any (LitOf w1.heap.size TG 3) rfl rfl (fun w' hC _ => ?_) (fun v0 => ?_)
    · obtain ⟨⟨w', hb⟩, rfl⟩ := hC
      exact grow_lit rfl litGate hb.size
    refine gList_quietN 2 ⟨rfl, rfl, rfl, rfl, trivial⟩ (by decide) ?_
    simp only [Act.put, List.setIfInBounds_toArray, List.set_cons_succ, List.set_cons_zero]
    delta Onward
    dsimp only [List.take, List.drop]
    repeat (go_big_quiet_step (fail))
    refine wpQuiet_nil ?_
    refine gList_any (RowOf w1.heap.size TG 3 n (ints gs)) rfl rfl (fun w' hC hd => ?_) (fun v3 => ?_)
    · obtain ⟨⟨w', hb⟩, rfl⟩ := hC
      have hl := hd 0 (by kernel_rfl)
      rw [Facts.upd_self] at hl
      exact grow_copy Try.underlying24 infoGt rfl (by decide) rfl rfl rfl hl HOG.out.1 ((Cells.of_own HOG.out).below hb) (own_nil HOG.out) (ints_one _) (by omega) (by decide) hb.size
    refine gList_quietN 2 ⟨rfl, rfl, rfl, rfl, trivial⟩ (by decide) ?_
    simp only [Act.put, List.setIfInBounds_toArray, List.set_cons_succ, List.set_cons_zero]
    dsimp only [List.take, List.drop]
    repeat (go_big_quiet_step (fail))
    refine wpQuiet_nil ?_
    refine gList_any (RowOf w1.heap.size 3 1 m (ints os)) rfl rfl (fun w' hC hd => ?_) (fun v6 => ?_)
    · obtain ⟨⟨w', hb⟩, rfl⟩ := hC
      refine grow_call (f := 120) (args := #[.slice O m co]) (by simp [go_sem]) ?_
      refine (iIntsO O co m os w' (own_below HOO.out hb) (by omega)).mono ?_
      rintro e w2 ⟨A', c', rfl, hrow, hb2⟩
      exact ⟨_, rfl, hb2, A', c', rfl, own_weak hrow hb.size⟩
    refine gList_any (CircRows w1.heap.size n m gs os) rfl rfl (fun w' hC hd => ?_) (fun v7 => ?_)
    · obtain ⟨⟨w', hb⟩, rfl⟩ := hC
      have g1 : RowOf w1.heap.size TG 3 n (ints gs) v3 w' := hd 3 (by kernel_rfl)
      have g2 : RowOf w1.heap.size 3 1 m (ints os) v6 w' := hd 6 (by kernel_rfl)
      obtain ⟨J', cj', rfl, g1⟩ := g1
      obtain ⟨T', ct', rfl, g2⟩ := g2
      have HG1 := hid g1
      have HG2 := hid g2
      clear g1 g2
      simp [go_sem, growUpon]
      exact ⟨Below.refl _ _, _, _, _, _, rfl, HG1.out, HG2.out⟩
    unfold gList
    intro w' hW hfs
    have hlast : CircRows w1.heap.size n m gs os v7 w' := hfs 7
    obtain ⟨⟨w', hb⟩, rfl⟩ := hW
    obtain ⟨J', cj', T', ct', rfl, g1, g2⟩ := hlast
    have HG1 := hid g1
    have HG2 := hid g2
    have HB2 := hid hb
    have kr := HR.out.past hb
    have cell_r2 := kr.cell
    have froz_r2 := kr.frozen
    have lt_r2 := kr.lt
    have HKR := hid kr
    clear g1 g2 hfs hb q0 kr
    dsimp only [List.drop]
    simp only [Act.put, List.setIfInBounds_toArray, List.set_cons_succ, List.set_cons_zero]
    go_wp2_with fail
    ((try simp only [Exit.inBlock, Exit.then]); apply bodyPost_ret0; focus ((try simp only [results, Try.results103]); (try go_simp); (try rfl)))
    refine ⟨J', cj', T', ct', rfl, ?_, ?_, ?_⟩
    · refine own_weak (base := w1.heap.size) ?_ (by omega)
      have h := HG1.out
      exact ownBy
    · refine own_weak (base := w1.heap.size) ?_ (by omega)
      have h := HG2.out
      exact ownBy
    · have hb0 := HB.out
      have hb2 := HB2.out
      exact belBy
end Go.Proofs.Ytihbaieiempjeaa
