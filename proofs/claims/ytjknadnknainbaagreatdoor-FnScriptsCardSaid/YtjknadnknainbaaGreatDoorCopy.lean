/- The copy of a schedule, in the reference and in the program. -/
import Derived.Test.YtjknadnknainbaaGreatDoorMem
import Derived.Test.YtjknadnknainbaaGreatDoorSchedS
import Derived.Test.YtjknadnknainbaaGreatDoorGrow4
import Derived.Test.YtjknadnknainbaaGreatDoorSched
import Derived.Deep.DeepCutAuto
namespace Go.Proofs.YtjknadnknainbaaGreatDoor
open Go.RowKit

def specOf (l : List (Nat × (Value → World → Prop))) (k : Nat) : GSpec := match l.lookup k with
  | some F => .any F
  | none => .det
theorem specOf_stab : ∀ {l : List (Nat × (Value → World → Prop))}, (∀ p ∈ l, ∀ v w w', p.2 v w → Grows w w' → p.2 v w') → ∀ k F, specOf l k = .any F → ∀ v w w', F v w → Grows w w' → F v w' := by
  intro l h k F hk
  unfold specOf at hk
  split at hk
  · rename_i G hG
    cases hk
    have : ∀ (l : List (Nat × (Value → World → Prop))), l.lookup k = some F → ∃ p ∈ l, p.2 = F := by
      intro l
      induction l with
      | nil => intro h; cases h
      | cons p l ih =>
        intro h
        obtain ⟨a, b⟩ := p
        rw [List.lookup_cons] at h
        split at h
        · cases h
          exact ⟨_, List.mem_cons_self, rfl⟩
        · obtain ⟨p, hp, e⟩ := ih h
          exact ⟨p, List.mem_cons_of_mem _ hp, e⟩
    obtain ⟨p, hp, rfl⟩ := this l hG
    exact h p hp
  · cases hk
theorem gList_quietN {P : Program} {ops : Array Oper} {C : World → Prop} {R : World → World → Prop} {spec : Nat → GSpec} {E : Facts → Act → Prop} (m : Nat) {l : List Oper} {k : Nat} {fs : Facts} {a : Act} (hd : detsFrom spec k (l.take m)) (hm : m ≤ l.length)
    (h : wpQuiet P ops C (fun a' => gList P ops C R spec E (k + m) (l.drop m) fs a') (l.take m) a) : gList P ops C R spec E k l fs a := by
  have h1 := gList_quiet (l.take m) (l2 := l.drop m) hd (E := E) (R := R) (fs := fs) (a := a) (P := P) (ops := ops) (C := C) (by rw [List.length_take, Nat.min_eq_left hm]; exact h)
  rwa [List.take_append_drop] at h1
set_option maxHeartbeats 3200000 in
theorem grow_lit {P : Program} {t e base size : Nat} {w : World} {o : Oper} {a : Act} (ho : o.op = Op.buildSlice t 0 #[]) (hr : ∀ w : World, (Instr.buildSlice t 0 #[]).run P w = .ok (.slice (some ⟨w.heap.size, 0, none⟩) 0 0) (w.alloc (.cells #[] e)))
    (hb : base ≤ w.heap.size) : growUpon P Grows (LitOf base e size) w ((execOp a.eval o).run P w) := by
  simp [execOp, ho, growUpon, hr, Result.andThen]
  exact ⟨(Below.refl _ _).alloc (Nat.le_refl _) _, lit_made hb⟩
theorem grow_copy {P : Program} {w : World} {base t e : Nat} {z : Value} {size bytes : Nat} (ht : P.underlying t = some (.slice e)) (hinfo : (P.info? e).map (fun i => (i.zero, i.size, i.bytes)) = some (some z, size, bytes))
    (hzs : z.cells.size = size) (hsz : 0 < size) {o : Oper} {a : Act} {x y : Operand} {s : Value} {A : Option Addr} {n c B : Nat} {xs : List Value} (ho : o.op = .call { callee := .builtin .append, args := #[x, y], argTypes := #[t, t] }) (hx : a.eval x = s) (hy : a.eval y = .slice A n c)
    (hs : LitOf base e size s w) (hl : xs.length = n * size) (hc : Cells w B A xs) (hnil : A = none → c = 0) (h1 : ∀ u ∈ xs, u.oneCell' = true) (hn : n ≤ 1000000000) (hbytes : bytes ≤ 1000) (hbase : base ≤ w.heap.size) :
    growUpon P Grows (RowOf base e size n xs) w ((execOp a.eval o).run P w) := by
  obtain ⟨v, w', hr, hg, hrow⟩ := run_copy (P := P) (w := w) (ty := o.type) ht hinfo hzs hsz hs hl hc hnil h1 hn hbytes hbase
  have e : (execOp a.eval o).run P w = .ok (.value v) w' := by
    unfold execOp
    simp only [ho, resolve, invoke, builtin, Sem.run_bind, Sem.run_pure, Result.andThen_ok, List.map_toArray, List.map_cons, List.map_nil, hx, hy, hr]
  rw [e]
  exact ⟨hg, hrow⟩
theorem litJob (w : World) : (Instr.buildSlice 36 0 #[]).run Tryz.prog w = .ok (.slice (some ⟨w.heap.size, 0, none⟩) 0 0) (w.alloc (.cells #[] 64)) := by kernel_rfl
theorem litTicket (w : World) : (Instr.buildSlice 37 0 #[]).run Tryz.prog w = .ok (.slice (some ⟨w.heap.size, 0, none⟩) 0 0) (w.alloc (.cells #[] 88)) := by kernel_rfl
theorem litInt (w : World) : (Instr.buildSlice 38 0 #[]).run Tryz.prog w = .ok (.slice (some ⟨w.heap.size, 0, none⟩) 0 0) (w.alloc (.cells #[] 3)) := by kernel_rfl
theorem own_cap {w : World} {base e size n c : Nat} {A : Option Addr} {xs : List Value} (h : w.ownsRow base e size (.slice A n c) n xs) : n ≤ c := by
  rcases h.2 with ⟨hv, rfl⟩ | ⟨g, cap, cur, hv, _, _, hle, _⟩
  · omega
  · cases hv
    exact hle
theorem own_nil {w : World} {base e size n c : Nat} {A : Option Addr} {xs : List Value} (h : w.ownsRow base e size (.slice A n c) n xs) : A = none → c = 0 := by
  rcases h.2 with ⟨hv, rfl⟩ | ⟨g, cap, cur, hv, _⟩
  · cases hv
    exact fun _ => rfl
  · cases hv
    exact fun h => by cases h
theorem wpList_copy {P : Program} {w : World} {base t e : Nat} {z : Value} {size bytes : Nat} (ht : P.underlying t = some (.slice e)) (hinfo : (P.info? e).map (fun i => (i.zero, i.size, i.bytes)) = some (some z, size, bytes))
    (hzs : z.cells.size = size) (hsz : 0 < size) {ops : Array Oper} {rest : List Oper} {Q : Exit → Act → World → Prop} {o : Oper} {a : Act} (hgd : o.guard = none) {x y : Operand} {s : Value} {A : Option Addr} {n c B : Nat} {xs : List Value}
    (ho : o.op = .call { callee := .builtin .append, args := #[x, y], argTypes := #[t, t] }) (hx : a.eval x = s) (hy : a.eval y = .slice A n c)
    (hs : LitOf base e size s w) (hl : xs.length = n * size) (hc : Cells w B A xs) (hnil : A = none → c = 0) (h1 : ∀ u ∈ xs, u.oneCell' = true) (hn : n ≤ 1000000000) (hbytes : bytes ≤ 1000) (hbase : base ≤ w.heap.size)
    (h : ∀ A' c' w', w'.ownsRow base e size (.slice A' n c') n xs → Below w.heap.size w w' → wpList P ops Q rest (a.put o.dst (.slice A' n c')) w') : wpList P ops Q (o :: rest) a w := by
  refine wpList_plain hgd fun K hK => ?_
  obtain ⟨v, w', hr, hg, A', c', rfl, hrow⟩ := run_copy (P := P) (w := w) (ty := o.type) ht hinfo hzs hsz hs hl hc hnil h1 hn hbytes hbase
  unfold Oper.wp execOp
  simp only [ho, resolve, invoke, builtin, Sem.run_bind, Sem.run_pure, Result.andThen_ok, List.map_toArray, List.map_cons, List.map_nil, hx, hy, hr]
  exact hK _ _ (h A' c' w' hrow hg)
theorem iInts (A : Option Addr) (c n : Nat) (xs : List Int) (w : World) (h : w.ownsRow 0 3 1 (.slice A n c) n (ints xs)) (hn : n ≤ 1000000000) :
    Calls Tryz.prog 85 #[.slice A n c] w fun e w' => ∃ A' c', e = .returned (.slice A' n c') ∧ w'.ownsRow w.heap.size 3 1 (.slice A' n c') n (ints xs) ∧ Below w.heap.size w w' := by
  have hc := Cells.of_own h
  have hlen := h.1
  have hnil := own_nil h
  have HLIT := hid (lit_made (w := w) (base := w.heap.size) (e := 3) (size := 1) (Nat.le_refl _))
  have HC := hid hc
  have HL := hid hlen
  have HN := hid hnil
  clear hc hlen hnil h
  go_enter Tryz.func85, Tryz.ntmps85
  go_wp2_with (at_builtin; refine wpList_copy Tryz.underlying38 infoInt rfl (by decide) rfl rfl rfl rfl HLIT.out HL.out (HC.out.below ((Below.refl _ _).alloc (Nat.le_refl _) _)) HN.out (ints_one _) hn (by decide) (by simp) ?_; intro A' c' w1 hrow hb)
  have HR := hid hrow
  have HB := hid hb
  clear hrow hb
  go_ret
  refine ⟨A', c', rfl, HR.out, ?_⟩
  have hb : Below w.heap.size w w1 := ((Below.refl w.heap.size w).alloc (Nat.le_refl _) _).trans (HB.out.mono (by simp))
  exact hb
/-- The whole of a schedule whose slices are rows from block B on. -/
def SchedRows (z n b : Int) (B nj nt nf : Nat) (js ts fs : List Int) (u : Value) (w : World) : Prop :=
  ∃ J cj T ct F cf, u = .agg #[.int .i64 z, .int .i64 n, .int .i64 b, .slice J nj cj, .slice T nt ct, .slice F nf cf] ∧ w.ownsRow B 64 4 (.slice J nj cj) nj (ints js) ∧
    w.ownsRow B 88 2 (.slice T nt ct) nt (ints ts) ∧ w.ownsRow B 3 1 (.slice F nf cf) nf (ints fs)
theorem SchedRows.stable {z n b : Int} {B nj nt nf : Nat} {js ts fs : List Int} : ∀ v w w', SchedRows z n b B nj nt nf js ts fs v w → Grows w w' → SchedRows z n b B nj nt nf js ts fs v w' := by
  rintro v w w' ⟨J, cj, T, ct, F, cf, e, h1, h2, h3⟩ hg
  exact ⟨J, cj, T, ct, F, cf, e, own_below h1 hg, own_below h2 hg, own_below h3 hg⟩
set_option maxRecDepth 100000 in
theorem sCopy (z n b : Int) (J T F : Option Addr) (nj cj nt ct nf cf : Nat) (js ts fs : List Int) (w : World) (h1 : w.ownsRow 0 64 4 (.slice J nj cj) nj (ints js)) (h2 : w.ownsRow 0 88 2 (.slice T nt ct) nt (ints ts))
    (h3 : w.ownsRow 0 3 1 (.slice F nf cf) nf (ints fs)) (b1 : nj ≤ 1000000000) (b2 : nt ≤ 1000000000) (b3 : nf ≤ 1000000000) :
    Calls Tryz.prog 48 #[.agg #[.int .i64 z, .int .i64 n, .int .i64 b, .slice J nj cj, .slice T nt ct, .slice F nf cf]] w fun e w' => ∃ J' cj' T' ct' F' cf',
      e = .returned (.agg #[.int .i64 z, .int .i64 n, .int .i64 b, .slice J' nj cj', .slice T' nt ct', .slice F' nf cf']) ∧
      w'.ownsRow w.heap.size 64 4 (.slice J' nj cj') nj (ints js) ∧ w'.ownsRow w.heap.size 88 2 (.slice T' nt ct') nt (ints ts) ∧
      w'.ownsRow w.heap.size 3 1 (.slice F' nf cf') nf (ints fs) ∧ Below w.heap.size w w' := by
  go_enter Tryz.func48, Tryz.ntmps48
  have b_0 := (Below.refl w.heap.size w)
  have s_0 := b_0.size
  have oj_in := own_in h1
  have oj_0 := h1
  clear h1
  have ot_in := own_in h2
  have ot_0 := h2
  clear h2
  have of__in := own_in h3
  have of__0 := h3
  clear h3
  go_upto_region 1 with fail
  refine wp_forget2 (w0 := w) (B := w.heap.size) (b0 := w.heap.size) (t0 := 40) (c0 := #[.int .i64 z, .int .i64 n, .int .i64 b, .slice J nj cj, .slice T nt ct, .slice F nf cf]) (b1 := w.heap.size + 1) (t1 := 40) (c1 := #[.int .i64 0, .int .i64 0, .int .i64 0, .slice none 0 0, .slice none 0 0, .slice none 0 0]) ?_ ?_ ?_ ?_
  (focus exact blkcBy)
  (focus exact blkcBy)
  (focus (exact belBy))
  intro w1 x_1 r_1 hX1
  have sX1 := hX1.size
  have x_lt := x_1.lt
  have r_lt := r_1.lt
  have b_1 := b_0.trans (hX1.mono (by omega))
  have oj_1 := own_below oj_0 hX1
  have ot_1 := own_below ot_0 hX1
  have of__1 := own_below of__0 hX1
  clear oj_0 ot_0 of__0 b_0 hX1
  have cell_x := x_1.cell
  have froz_x := x_1.frozen
  have lt_x := x_1.lt
  have cell_r := r_1.cell
  have froz_r := r_1.frozen
  have lt_r := r_1.lt
  have HOJ := hid oj_1
  have HOT := hid ot_1
  have HOF := hid of__1
  have HX := hid x_1
  have HR := hid r_1
  have HB := hid b_1
  clear oj_1 ot_1 of__1 r_1 b_1
  refine wp_grow_tail (W := w1) (spec := specOf [(2, LitOf w1.heap.size 64 4), (5, RowOf w1.heap.size 64 4 nj (ints js)), (6, LitOf w1.heap.size 88 2), (9, RowOf w1.heap.size 88 2 nt (ints ts)), (10, LitOf w1.heap.size 3 1), (13, RowOf w1.heap.size 3 1 nf (ints fs)), (14, SchedRows z n b w1.heap.size nj nt nf js ts fs)]) 15 (by kernel_rfl) (by kernel_rfl) (Onward.mk' ((Below.refl _ _).drew)) (specOf_stab ?_) ?_
  · intro p hp
    simp only [List.mem_cons, List.not_mem_nil, or_false] at hp
    rcases hp with rfl | rfl | rfl | rfl | rfl | rfl | rfl
    all_goals
      first | exact LitOf.stable | exact RowOf.stable | exact SchedRows.stable
  · refine gList_quietN 2 ⟨rfl, rfl, rfl, rfl, trivial⟩ (by decide) ?_
    have q0 := fun (x : Later w1) (o : Nat) => (x_1.below x.below x_1.lt).cell o
    delta Onward
    dsimp only [List.take, List.drop]
    repeat (go_big_quiet_step (fail))
    refine wpQuiet_nil ?_
    refine gList_any (LitOf w1.heap.size 64 4) rfl rfl (fun w' hC _ => ?_) (fun v2 => ?_)
    · obtain ⟨⟨w', hb⟩, rfl⟩ := hC
      exact grow_lit rfl litJob hb.size
    refine gList_quietN 2 ⟨rfl, rfl, rfl, rfl, trivial⟩ (by decide) ?_
    simp only [Act.put, List.setIfInBounds_toArray, List.set_cons_succ, List.set_cons_zero]
    dsimp only [List.take, List.drop]
    repeat (go_big_quiet_step (fail))
    refine wpQuiet_nil ?_
    refine gList_any (RowOf w1.heap.size 64 4 nj (ints js)) rfl rfl (fun w' hC hd => ?_) (fun v5 => ?_)
    · obtain ⟨⟨w', hb⟩, rfl⟩ := hC
      have hl := hd 2 (by kernel_rfl)
      rw [Facts.upd_self] at hl
      exact grow_copy Tryz.underlying36 infoJob rfl (by decide) rfl rfl rfl hl HOJ.out.1 ((Cells.of_own HOJ.out).below hb) (own_nil HOJ.out) (ints_one _) (by omega) (by decide) hb.size
    refine gList_any (LitOf w1.heap.size 88 2) rfl rfl (fun w' hC _ => ?_) (fun v6 => ?_)
    · obtain ⟨⟨w', hb⟩, rfl⟩ := hC
      exact grow_lit rfl litTicket hb.size
    refine gList_quietN 2 ⟨rfl, rfl, rfl, rfl, trivial⟩ (by decide) ?_
    simp only [Act.put, List.setIfInBounds_toArray, List.set_cons_succ, List.set_cons_zero]
    dsimp only [List.take, List.drop]
    repeat (go_big_quiet_step (fail))
    refine wpQuiet_nil ?_
    refine gList_any (RowOf w1.heap.size 88 2 nt (ints ts)) rfl rfl (fun w' hC hd => ?_) (fun v9 => ?_)
    · obtain ⟨⟨w', hb⟩, rfl⟩ := hC
      have hl := hd 6 (by kernel_rfl)
      rw [Facts.upd_self] at hl
      exact grow_copy Tryz.underlying37 infoTicket rfl (by decide) rfl rfl rfl hl HOT.out.1 ((Cells.of_own HOT.out).below hb) (own_nil HOT.out) (ints_one _) (by omega) (by decide) hb.size
    refine gList_any (LitOf w1.heap.size 3 1) rfl rfl (fun w' hC _ => ?_) (fun v10 => ?_)
    · obtain ⟨⟨w', hb⟩, rfl⟩ := hC
      exact grow_lit rfl litInt hb.size
    refine gList_quietN 2 ⟨rfl, rfl, rfl, rfl, trivial⟩ (by decide) ?_
    simp only [Act.put, List.setIfInBounds_toArray, List.set_cons_succ, List.set_cons_zero]
    dsimp only [List.take, List.drop]
    repeat (go_big_quiet_step (fail))
    refine wpQuiet_nil ?_
    refine gList_any (RowOf w1.heap.size 3 1 nf (ints fs)) rfl rfl (fun w' hC hd => ?_) (fun v13 => ?_)
    · obtain ⟨⟨w', hb⟩, rfl⟩ := hC
      have hl := hd 10 (by kernel_rfl)
      rw [Facts.upd_self] at hl
      exact grow_copy Tryz.underlying38 infoInt rfl (by decide) rfl rfl rfl hl HOF.out.1 ((Cells.of_own HOF.out).below hb) (own_nil HOF.out) (ints_one _) (by omega) (by decide) hb.size
    refine gList_any (SchedRows z n b w1.heap.size nj nt nf js ts fs) rfl rfl (fun w' hC hd => ?_) (fun v14 => ?_)
    · obtain ⟨⟨w', hb⟩, rfl⟩ := hC
      have g1 : RowOf w1.heap.size 64 4 nj (ints js) v5 w' := hd 5 (by kernel_rfl)
      have g2 : RowOf w1.heap.size 88 2 nt (ints ts) v9 w' := hd 9 (by kernel_rfl)
      have g3 : RowOf w1.heap.size 3 1 nf (ints fs) v13 w' := hd 13 (by kernel_rfl)
      obtain ⟨J', cj', rfl, g1⟩ := g1
      obtain ⟨T', ct', rfl, g2⟩ := g2
      obtain ⟨F', cf', rfl, g3⟩ := g3
      have HG1 := hid g1
      have HG2 := hid g2
      have HG3 := hid g3
      clear g1 g2 g3
      simp [go_sem, growUpon]
      exact ⟨Below.refl _ _, _, _, _, _, _, _, rfl, HG1.out, HG2.out, HG3.out⟩
    unfold gList
    intro w' hW hfs
    have hlast : SchedRows z n b w1.heap.size nj nt nf js ts fs v14 w' := hfs 14
    obtain ⟨⟨w', hb⟩, rfl⟩ := hW
    obtain ⟨J', cj', T', ct', F', cf', rfl, g1, g2, g3⟩ := hlast
    have HG1 := hid g1
    have HG2 := hid g2
    have HG3 := hid g3
    have HB2 := hid hb
    have kr := HR.out.past hb
    have cell_r2 := kr.cell
    have froz_r2 := kr.frozen
    have lt_r2 := kr.lt
    have HKR := hid kr
    clear g1 g2 g3 hfs hb q0 kr
    dsimp only [List.drop]
    simp only [Act.put, List.setIfInBounds_toArray, List.set_cons_succ, List.set_cons_zero]
    go_wp2_with fail
    ((try simp only [Exit.inBlock, Exit.then]); apply bodyPost_ret0; focus ((try simp only [results, Tryz.results48]); (try go_simp); (try rfl)))
    refine ⟨J', cj', T', ct', F', cf', rfl, ?_, ?_, ?_, ?_⟩
    · refine own_weak (base := w1.heap.size) ?_ (by omega)
      have h := HG1.out
      exact ownBy
    · refine own_weak (base := w1.heap.size) ?_ (by omega)
      have h := HG2.out
      exact ownBy
    · refine own_weak (base := w1.heap.size) ?_ (by omega)
      have h := HG3.out
      exact ownBy
    · have hb0 := HB.out
      have hb2 := HB2.out
      exact belBy
set_option maxRecDepth 100000 in
theorem iCopy (z n b : Int) (J T F : Option Addr) (nj cj nt ct nf cf : Nat) (js ts fs : List Int) (w : World) (h1 : w.ownsRow 0 64 4 (.slice J nj cj) nj (ints js)) (h2 : w.ownsRow 0 88 2 (.slice T nt ct) nt (ints ts))
    (h3 : w.ownsRow 0 3 1 (.slice F nf cf) nf (ints fs)) (b1 : nj ≤ 1000000000) (b2 : nt ≤ 1000000000) (b3 : nf ≤ 1000000000) :
    Calls Tryz.prog 66 #[.agg #[.int .i64 z, .int .i64 n, .int .i64 b, .slice J nj cj, .slice T nt ct, .slice F nf cf]] w fun e w' => ∃ J' cj' T' ct' F' cf',
      e = .returned (.agg #[.int .i64 z, .int .i64 n, .int .i64 b, .slice J' nj cj', .slice T' nt ct', .slice F' nf cf']) ∧
      w'.ownsRow w.heap.size 64 4 (.slice J' nj cj') nj (ints js) ∧ w'.ownsRow w.heap.size 88 2 (.slice T' nt ct') nt (ints ts) ∧
      w'.ownsRow w.heap.size 3 1 (.slice F' nf cf') nf (ints fs) ∧ Below w.heap.size w w' := by
  go_enter Tryz.func66, Tryz.ntmps66
  have b_0 := (Below.refl w.heap.size w)
  have s_0 := b_0.size
  have oj_in := own_in h1
  have oj_0 := h1
  clear h1
  have ot_in := own_in h2
  have ot_0 := h2
  clear h2
  have of__in := own_in h3
  have of__0 := h3
  clear h3
  go_upto_region 1 with fail
  refine wp_forget2 (w0 := w) (B := w.heap.size) (b0 := w.heap.size) (t0 := 40) (c0 := #[.int .i64 z, .int .i64 n, .int .i64 b, .slice J nj cj, .slice T nt ct, .slice F nf cf]) (b1 := w.heap.size + 1) (t1 := 40) (c1 := #[.int .i64 0, .int .i64 0, .int .i64 0, .slice none 0 0, .slice none 0 0, .slice none 0 0]) ?_ ?_ ?_ ?_
  (focus exact blkcBy)
  (focus exact blkcBy)
  (focus (exact belBy))
  intro w1 x_1 r_1 hX1
  have sX1 := hX1.size
  have x_lt := x_1.lt
  have r_lt := r_1.lt
  have b_1 := b_0.trans (hX1.mono (by omega))
  have oj_1 := own_below oj_0 hX1
  have ot_1 := own_below ot_0 hX1
  have of__1 := own_below of__0 hX1
  clear oj_0 ot_0 of__0 b_0 hX1
  have cell_x := x_1.cell
  have froz_x := x_1.frozen
  have lt_x := x_1.lt
  have cell_r := r_1.cell
  have froz_r := r_1.frozen
  have lt_r := r_1.lt
  have HOJ := hid oj_1
  have HOT := hid ot_1
  have HOF := hid of__1
  have HX := hid x_1
  have HR := hid r_1
  have HB := hid b_1
  clear oj_1 ot_1 of__1 r_1 b_1
  refine wp_grow_tail (W := w1) (spec := specOf [(2, LitOf w1.heap.size 64 4), (5, RowOf w1.heap.size 64 4 nj (ints js)), (6, LitOf w1.heap.size 88 2), (9, RowOf w1.heap.size 88 2 nt (ints ts)), (12, RowOf w1.heap.size 3 1 nf (ints fs)), (13, SchedRows z n b w1.heap.size nj nt nf js ts fs)]) 14 (by kernel_rfl) (by kernel_rfl) (Onward.mk' ((Below.refl _ _).drew)) (specOf_stab ?_) ?_
  · intro p hp
    simp only [List.mem_cons, List.not_mem_nil, or_false] at hp
    rcases hp with rfl | rfl | rfl | rfl | rfl | rfl
    all_goals
      first | exact LitOf.stable | exact RowOf.stable | exact SchedRows.stable
  · refine gList_quietN 2 ⟨rfl, rfl, rfl, rfl, trivial⟩ (by decide) ?_
    have q0 := fun (x : Later w1) (o : Nat) => (x_1.below x.below x_1.lt).cell o
    delta Onward
    dsimp only [List.take, List.drop]
    repeat (go_big_quiet_step (fail))
    refine wpQuiet_nil ?_
    refine gList_any (LitOf w1.heap.size 64 4) rfl rfl (fun w' hC _ => ?_) (fun v2 => ?_)
    · obtain ⟨⟨w', hb⟩, rfl⟩ := hC
      exact grow_lit rfl litJob hb.size
    refine gList_quietN 2 ⟨rfl, rfl, rfl, rfl, trivial⟩ (by decide) ?_
    simp only [Act.put, List.setIfInBounds_toArray, List.set_cons_succ, List.set_cons_zero]
    dsimp only [List.take, List.drop]
    repeat (go_big_quiet_step (fail))
    refine wpQuiet_nil ?_
    refine gList_any (RowOf w1.heap.size 64 4 nj (ints js)) rfl rfl (fun w' hC hd => ?_) (fun v5 => ?_)
    · obtain ⟨⟨w', hb⟩, rfl⟩ := hC
      have hl := hd 2 (by kernel_rfl)
      rw [Facts.upd_self] at hl
      exact grow_copy Tryz.underlying36 infoJob rfl (by decide) rfl rfl rfl hl HOJ.out.1 ((Cells.of_own HOJ.out).below hb) (own_nil HOJ.out) (ints_one _) (by omega) (by decide) hb.size
    refine gList_any (LitOf w1.heap.size 88 2) rfl rfl (fun w' hC _ => ?_) (fun v6 => ?_)
    · obtain ⟨⟨w', hb⟩, rfl⟩ := hC
      exact grow_lit rfl litTicket hb.size
    refine gList_quietN 2 ⟨rfl, rfl, rfl, rfl, trivial⟩ (by decide) ?_
    simp only [Act.put, List.setIfInBounds_toArray, List.set_cons_succ, List.set_cons_zero]
    dsimp only [List.take, List.drop]
    repeat (go_big_quiet_step (fail))
    refine wpQuiet_nil ?_
    refine gList_any (RowOf w1.heap.size 88 2 nt (ints ts)) rfl rfl (fun w' hC hd => ?_) (fun v9 => ?_)
    · obtain ⟨⟨w', hb⟩, rfl⟩ := hC
      have hl := hd 6 (by kernel_rfl)
      rw [Facts.upd_self] at hl
      exact grow_copy Tryz.underlying37 infoTicket rfl (by decide) rfl rfl rfl hl HOT.out.1 ((Cells.of_own HOT.out).below hb) (own_nil HOT.out) (ints_one _) (by omega) (by decide) hb.size
    refine gList_quietN 2 ⟨rfl, rfl, rfl, rfl, trivial⟩ (by decide) ?_
    simp only [Act.put, List.setIfInBounds_toArray, List.set_cons_succ, List.set_cons_zero]
    dsimp only [List.take, List.drop]
    repeat (go_big_quiet_step (fail))
    refine wpQuiet_nil ?_
    refine gList_any (RowOf w1.heap.size 3 1 nf (ints fs)) rfl rfl (fun w' hC hd => ?_) (fun v12 => ?_)
    · obtain ⟨⟨w', hb⟩, rfl⟩ := hC
      refine grow_call (f := 85) (args := #[.slice F nf cf]) (by simp [go_sem]) ?_
      refine (iInts F cf nf fs w' (own_below HOF.out hb) (by omega)).mono ?_
      rintro e w2 ⟨A', c', rfl, hrow, hb2⟩
      exact ⟨_, rfl, hb2, A', c', rfl, own_weak hrow hb.size⟩
    refine gList_any (SchedRows z n b w1.heap.size nj nt nf js ts fs) rfl rfl (fun w' hC hd => ?_) (fun v13 => ?_)
    · obtain ⟨⟨w', hb⟩, rfl⟩ := hC
      have g1 : RowOf w1.heap.size 64 4 nj (ints js) v5 w' := hd 5 (by kernel_rfl)
      have g2 : RowOf w1.heap.size 88 2 nt (ints ts) v9 w' := hd 9 (by kernel_rfl)
      have g3 : RowOf w1.heap.size 3 1 nf (ints fs) v12 w' := hd 12 (by kernel_rfl)
      obtain ⟨J', cj', rfl, g1⟩ := g1
      obtain ⟨T', ct', rfl, g2⟩ := g2
      obtain ⟨F', cf', rfl, g3⟩ := g3
      have HG1 := hid g1
      have HG2 := hid g2
      have HG3 := hid g3
      clear g1 g2 g3
      simp [go_sem, growUpon]
      exact ⟨Below.refl _ _, _, _, _, _, _, _, rfl, HG1.out, HG2.out, HG3.out⟩
    unfold gList
    intro w' hW hfs
    have hlast : SchedRows z n b w1.heap.size nj nt nf js ts fs v13 w' := hfs 13
    obtain ⟨⟨w', hb⟩, rfl⟩ := hW
    obtain ⟨J', cj', T', ct', F', cf', rfl, g1, g2, g3⟩ := hlast
    have HG1 := hid g1
    have HG2 := hid g2
    have HG3 := hid g3
    have HB2 := hid hb
    have kr := HR.out.past hb
    have cell_r2 := kr.cell
    have froz_r2 := kr.frozen
    have lt_r2 := kr.lt
    have HKR := hid kr
    clear g1 g2 g3 hfs hb q0 kr
    dsimp only [List.drop]
    simp only [Act.put, List.setIfInBounds_toArray, List.set_cons_succ, List.set_cons_zero]
    go_wp2_with fail
    ((try simp only [Exit.inBlock, Exit.then]); apply bodyPost_ret0; focus ((try simp only [results, Tryz.results66]); (try go_simp); (try rfl)))
    refine ⟨J', cj', T', ct', F', cf', rfl, ?_, ?_, ?_, ?_⟩
    · refine own_weak (base := w1.heap.size) ?_ (by omega)
      have h := HG1.out
      exact ownBy
    · refine own_weak (base := w1.heap.size) ?_ (by omega)
      have h := HG2.out
      exact ownBy
    · refine own_weak (base := w1.heap.size) ?_ (by omega)
      have h := HG3.out
      exact ownBy
    · have hb0 := HB.out
      have hb2 := HB2.out
      exact belBy
end Go.Proofs.YtjknadnknainbaaGreatDoor
