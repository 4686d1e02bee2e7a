/- Schedules, as the laws compare them. -/
import Derived.Test.YtcdodfekclkonaaDoorSchedS
import Derived.Test.YtcdodfekclkonaaDoorSched
import Derived.Test.YtcdodfekclkonaaDoorIntS
import Derived.BigQuiet
import Derived.Laws.StructEq
namespace Go.Proofs.YtcdodfekclkonaaDoor
open Go.RowKit

theorem lenF4 {α : Type} (l : List α) (h : l.length = 4) : ∃ a b c d, l = [a, b, c, d] := by
  match l, h with
  | [a, b, c, d], _ => exact ⟨a, b, c, d, rfl⟩
theorem lenF2 {α : Type} (l : List α) (h : l.length = 2) : ∃ a b, l = [a, b] := by
  match l, h with
  | [a, b], _ => exact ⟨a, b, rfl⟩
theorem lenF3 {α : Type} (l : List α) (h : l.length = 3) : ∃ a b c, l = [a, b, c] := by
  match l, h with
  | [a, b, c], _ => exact ⟨a, b, c, rfl⟩
theorem run_same_job (w : World) (a b c d : Int) : (Op.equalIn 10000 61 (.agg #[.int .i64 a, .int .i64 b, .int .i64 c, .int .i64 d]) (.agg #[.int .i64 a, .int .i64 b, .int .i64 c, .int .i64 d])).run Tryd.prog w = .ok true w := by
  rw [run_equalIn_struct w 9999 _ _ _ (by kernel_rfl) (by kernel_rfl)]
  have hf : (Tryd.prog.fieldsOf 61).toList.map (fun f => (f.name, f.type, f.offset)) = [("Id", 3, 0), ("Need", 3, 1), ("Left", 3, 2), ("Done", 3, 3)] := by kernel_rfl
  generalize (Tryd.prog.fieldsOf 61).toList = L at hf ⊢
  have hlen : L.length = 4 := by simpa using congrArg List.length hf
  obtain ⟨f0, f1, f2, f3, rfl⟩ := lenF4 _ hlen
  simp only [List.map_cons, List.map_nil, List.cons.injEq, Prod.mk.injEq, and_true] at hf
  obtain ⟨⟨n0, t0, o0⟩, ⟨n1, t1, o1⟩, ⟨n2, t2, o2⟩, n3, t3, o3⟩ := hf
  have q0 : f0.name ≠ "_" := by rw [n0]; decide
  have q1 : f1.name ≠ "_" := by rw [n1]; decide
  have q2 : f2.name ≠ "_" := by rw [n2]; decide
  have q3 : f3.name ≠ "_" := by rw [n3]; decide
  clear n0 n1 n2 n3 hlen
  simp only [Op.eqFields, t0, t1, t2, t3, o0, o1, o2, o3]
  go_simp
theorem run_eqGuard_job (w : World) (x y : Operand) (xs ys : Array Value) : (eqGuard .neq 61 x y (.agg xs) (.agg ys)).run Tryd.prog w = .ok () w := run_eqGuard_agg w _ _ _ _ _ _ (by kernel_rfl)
theorem run_eqGuardE_job (w : World) (x y : Operand) (xs ys : Array Value) : (eqGuard .eql 61 x y (.agg xs) (.agg ys)).run Tryd.prog w = .ok () w := run_eqGuard_agg w _ _ _ _ _ _ (by kernel_rfl)
theorem run_same_ticket (w : World) (a b : Int) : (Op.equalIn 10000 69 (.agg #[.int .i64 a, .int .i64 b]) (.agg #[.int .i64 a, .int .i64 b])).run Tryd.prog w = .ok true w := by
  rw [run_equalIn_struct w 9999 _ _ _ (by kernel_rfl) (by kernel_rfl)]
  have hf : (Tryd.prog.fieldsOf 69).toList.map (fun f => (f.name, f.type, f.offset)) = [("From", 3, 0), ("Count", 3, 1)] := by kernel_rfl
  generalize (Tryd.prog.fieldsOf 69).toList = L at hf ⊢
  have hlen : L.length = 2 := by simpa using congrArg List.length hf
  obtain ⟨f0, f1, rfl⟩ := lenF2 _ hlen
  simp only [List.map_cons, List.map_nil, List.cons.injEq, Prod.mk.injEq, and_true] at hf
  obtain ⟨⟨n0, t0, o0⟩, n1, t1, o1⟩ := hf
  have q0 : f0.name ≠ "_" := by rw [n0]; decide
  have q1 : f1.name ≠ "_" := by rw [n1]; decide
  clear n0 n1 hlen
  simp only [Op.eqFields, t0, t1, o0, o1]
  go_simp
theorem run_eqGuard_ticket (w : World) (x y : Operand) (xs ys : Array Value) : (eqGuard .neq 69 x y (.agg xs) (.agg ys)).run Tryd.prog w = .ok () w := run_eqGuard_agg w _ _ _ _ _ _ (by kernel_rfl)
theorem run_eqGuardE_ticket (w : World) (x y : Operand) (xs ys : Array Value) : (eqGuard .eql 69 x y (.agg xs) (.agg ys)).run Tryd.prog w = .ok () w := run_eqGuard_agg w _ _ _ _ _ _ (by kernel_rfl)
theorem run_same_pool (w : World) (a b c : Int) : (Op.equalIn 10000 30 (.agg #[.int .i64 a, .int .i64 b, .int .i64 c]) (.agg #[.int .i64 a, .int .i64 b, .int .i64 c])).run Tryd.prog w = .ok true w := by
  rw [run_equalIn_struct w 9999 _ _ _ (by kernel_rfl) (by kernel_rfl)]
  have hf : (Tryd.prog.fieldsOf 30).toList.map (fun f => (f.name, f.type, f.offset)) = [("Size", 3, 0), ("Next", 3, 1), ("Burned", 3, 2)] := by kernel_rfl
  generalize (Tryd.prog.fieldsOf 30).toList = L at hf ⊢
  have hlen : L.length = 3 := by simpa using congrArg List.length hf
  obtain ⟨f0, f1, f2, rfl⟩ := lenF3 _ hlen
  simp only [List.map_cons, List.map_nil, List.cons.injEq, Prod.mk.injEq, and_true] at hf
  obtain ⟨⟨n0, t0, o0⟩, ⟨n1, t1, o1⟩, n2, t2, o2⟩ := hf
  have q0 : f0.name ≠ "_" := by rw [n0]; decide
  have q1 : f1.name ≠ "_" := by rw [n1]; decide
  have q2 : f2.name ≠ "_" := by rw [n2]; decide
  clear n0 n1 n2 hlen
  simp only [Op.eqFields, t0, t1, t2, o0, o1, o2]
  go_simp
theorem run_eqGuard_pool (w : World) (x y : Operand) (xs ys : Array Value) : (eqGuard .neq 30 x y (.agg xs) (.agg ys)).run Tryd.prog w = .ok () w := run_eqGuard_agg w _ _ _ _ _ _ (by kernel_rfl)
theorem run_eqGuardE_pool (w : World) (x y : Operand) (xs ys : Array Value) : (eqGuard .eql 30 x y (.agg xs) (.agg ys)).run Tryd.prog w = .ok () w := run_eqGuard_agg w _ _ _ _ _ _ (by kernel_rfl)
attribute [local go_sem ↓] run_same_job run_same_ticket run_same_pool run_eqGuard_job run_eqGuard_ticket run_eqGuardE_pool
set_option maxHeartbeats 1600000 in
theorem sameJobs_same (A B : Option Addr) (c d : Nat) (xs : List Jb) (w : World) (ha : Cells w w.heap.size A (ints (flatJ xs))) (hc : Cells w w.heap.size B (ints (flatJ xs))) (hn : xs.length ≤ 1000000000) :
    Calls Tryd.prog 25 #[.slice A xs.length c, .slice B xs.length d] w fun e w' => e = .returned (.bool true) ∧ Below w.heap.size w w' := by
  go_enter Tryd.func25, Tryd.ntmps25
  go_wp2
  go_loopw [5] (fun i wr => ∃ k : Nat, k ≤ xs.length ∧ i = .int .i64 k ∧ Below w.heap.size w wr) (fun i _ => xs.length - (intOf i).toNat)
  case atStart => exact ⟨0, Nat.zero_le _, rfl, Below.refl _ _⟩
  case round =>
    obtain ⟨k, hk, rfl, hb⟩ := hrel
    by_cases hlt : k < xs.length
    · obtain ⟨x, hx⟩ : ∃ x, xs[k]? = some x := ⟨_, List.getElem?_eq_getElem hlt⟩
      obtain ⟨b, off, rfl, hB, hcl⟩ := ha (by rw [ints_length, flatJ_length]; omega)
      obtain ⟨b', off', rfl, hB', hcl'⟩ := hc (by rw [ints_length, flatJ_length]; omega)
      have c0 : wr.cell? ⟨b, off + k * 4, none⟩ = some (.int .i64 x.i) := (hb.cell (p := ⟨b, off + k * 4, none⟩) hB).trans (hcl (k * 4) _ (ints_get (flatJ_at hx 0 x.i rfl)))
      have c1 : wr.cell? ⟨b, off + k * 4 + 1, none⟩ = some (.int .i64 x.n) := (hb.cell (p := ⟨b, off + k * 4 + 1, none⟩) hB).trans (hcl (k * 4 + 1) _ (ints_get (flatJ_at hx 1 x.n rfl)))
      have c2 : wr.cell? ⟨b, off + k * 4 + 2, none⟩ = some (.int .i64 x.l) := (hb.cell (p := ⟨b, off + k * 4 + 2, none⟩) hB).trans (hcl (k * 4 + 2) _ (ints_get (flatJ_at hx 2 x.l rfl)))
      have c3 : wr.cell? ⟨b, off + k * 4 + 3, none⟩ = some (.int .i64 x.d) := (hb.cell (p := ⟨b, off + k * 4 + 3, none⟩) hB).trans (hcl (k * 4 + 3) _ (ints_get (flatJ_at hx 3 x.d rfl)))
      have d0 : wr.cell? ⟨b', off' + k * 4, none⟩ = some (.int .i64 x.i) := (hb.cell (p := ⟨b', off' + k * 4, none⟩) hB').trans (hcl' (k * 4) _ (ints_get (flatJ_at hx 0 x.i rfl)))
      have d1 : wr.cell? ⟨b', off' + k * 4 + 1, none⟩ = some (.int .i64 x.n) := (hb.cell (p := ⟨b', off' + k * 4 + 1, none⟩) hB').trans (hcl' (k * 4 + 1) _ (ints_get (flatJ_at hx 1 x.n rfl)))
      have d2 : wr.cell? ⟨b', off' + k * 4 + 2, none⟩ = some (.int .i64 x.l) := (hb.cell (p := ⟨b', off' + k * 4 + 2, none⟩) hB').trans (hcl' (k * 4 + 2) _ (ints_get (flatJ_at hx 2 x.l rfl)))
      have d3 : wr.cell? ⟨b', off' + k * 4 + 3, none⟩ = some (.int .i64 x.d) := (hb.cell (p := ⟨b', off' + k * 4 + 3, none⟩) hB').trans (hcl' (k * 4 + 3) _ (ints_get (flatJ_at hx 3 x.d rfl)))
      have HB := hid hb
      have hlt' : (k : Int) < (xs.length : Int) := by omega
      clear hcl hcl' ha hc hb hx
      go_wp2
      go_quiet (fail)
      go_wp2
      go_roundw
      case rel => exact ⟨k + 1, by omega, by go_num, ⟨HB.out.os, HB.out.tape, HB.out.output, HB.out.size, HB.out.block⟩⟩
      case measure => simp [intOf]; omega
    · obtain rfl : k = xs.length := by omega
      go_wp2
      go_ret
      exact ⟨rfl, hb⟩
set_option maxHeartbeats 1600000 in
theorem sameTickets_same (A B : Option Addr) (c d : Nat) (xs : List Tk) (w : World) (ha : Cells w w.heap.size A (ints (flatT xs))) (hc : Cells w w.heap.size B (ints (flatT xs))) (hn : xs.length ≤ 1000000000) :
    Calls Tryd.prog 26 #[.slice A xs.length c, .slice B xs.length d] w fun e w' => e = .returned (.bool true) ∧ Below w.heap.size w w' := by
  go_enter Tryd.func26, Tryd.ntmps26
  go_wp2
  go_loopw [5] (fun i wr => ∃ k : Nat, k ≤ xs.length ∧ i = .int .i64 k ∧ Below w.heap.size w wr) (fun i _ => xs.length - (intOf i).toNat)
  case atStart => exact ⟨0, Nat.zero_le _, rfl, Below.refl _ _⟩
  case round =>
    obtain ⟨k, hk, rfl, hb⟩ := hrel
    by_cases hlt : k < xs.length
    · obtain ⟨x, hx⟩ : ∃ x, xs[k]? = some x := ⟨_, List.getElem?_eq_getElem hlt⟩
      obtain ⟨b, off, rfl, hB, hcl⟩ := ha (by rw [ints_length, flatT_length]; omega)
      obtain ⟨b', off', rfl, hB', hcl'⟩ := hc (by rw [ints_length, flatT_length]; omega)
      have c0 : wr.cell? ⟨b, off + k * 2, none⟩ = some (.int .i64 x.f) := (hb.cell (p := ⟨b, off + k * 2, none⟩) hB).trans (hcl (k * 2) _ (ints_get (flatT_at hx 0 x.f rfl)))
      have c1 : wr.cell? ⟨b, off + k * 2 + 1, none⟩ = some (.int .i64 x.c) := (hb.cell (p := ⟨b, off + k * 2 + 1, none⟩) hB).trans (hcl (k * 2 + 1) _ (ints_get (flatT_at hx 1 x.c rfl)))
      have d0 : wr.cell? ⟨b', off' + k * 2, none⟩ = some (.int .i64 x.f) := (hb.cell (p := ⟨b', off' + k * 2, none⟩) hB').trans (hcl' (k * 2) _ (ints_get (flatT_at hx 0 x.f rfl)))
      have d1 : wr.cell? ⟨b', off' + k * 2 + 1, none⟩ = some (.int .i64 x.c) := (hb.cell (p := ⟨b', off' + k * 2 + 1, none⟩) hB').trans (hcl' (k * 2 + 1) _ (ints_get (flatT_at hx 1 x.c rfl)))
      have HB := hid hb
      have hlt' : (k : Int) < (xs.length : Int) := by omega
      clear hcl hcl' ha hc hb hx
      go_wp2
      go_quiet (fail)
      go_wp2
      go_roundw
      case rel => exact ⟨k + 1, by omega, by go_num, ⟨HB.out.os, HB.out.tape, HB.out.output, HB.out.size, HB.out.block⟩⟩
      case measure => simp [intOf]; omega
    · obtain rfl : k = xs.length := by omega
      go_wp2
      go_ret
      exact ⟨rfl, hb⟩
theorem sameInts_same (A B : Option Addr) (c d : Nat) (xs : List Int) (w : World) (ha : Cells w w.heap.size A (ints xs)) (hc : Cells w w.heap.size B (ints xs)) (hn : xs.length ≤ 1000000000) :
    Calls Tryd.prog 10 #[.slice A xs.length c, .slice B xs.length d] w fun e w' => e = .returned (.bool true) ∧ Below w.heap.size w w' := by
  go_enter Tryd.func10, Tryd.ntmps10
  go_wp2
  go_loopw [5] (fun i wr => ∃ k : Nat, k ≤ xs.length ∧ i = .int .i64 k ∧ Below w.heap.size w wr) (fun i _ => xs.length - (intOf i).toNat)
  case atStart => exact ⟨0, Nat.zero_le _, rfl, Below.refl _ _⟩
  case round =>
    obtain ⟨k, hk, rfl, hb⟩ := hrel
    by_cases hlt : k < xs.length
    · obtain ⟨x, hx⟩ : ∃ x, xs[k]? = some x := ⟨_, List.getElem?_eq_getElem hlt⟩
      obtain ⟨b, off, rfl, hB, hcl⟩ := ha (by rw [ints_length]; omega)
      obtain ⟨b', off', rfl, hB', hcl'⟩ := hc (by rw [ints_length]; omega)
      have hcell : wr.cell? ⟨b, off + k, none⟩ = some (.int .i64 x) := (hb.cell (p := ⟨b, off + k, none⟩) hB).trans (hcl k _ (ints_get hx))
      have hcell' : wr.cell? ⟨b', off' + k, none⟩ = some (.int .i64 x) := (hb.cell (p := ⟨b', off' + k, none⟩) hB').trans (hcl' k _ (ints_get hx))
      have HB := hid hb
      have hlt' : (k : Int) < (xs.length : Int) := by omega
      clear hcl hcl' ha hc hb hx
      go_wp2
      go_quiet (fail)
      go_wp2
      go_roundw
      case rel => exact ⟨k + 1, by omega, by go_num, ⟨HB.out.os, HB.out.tape, HB.out.output, HB.out.size, HB.out.block⟩⟩
      case measure => simp [intOf]; omega
    · obtain rfl : k = xs.length := by omega
      go_wp2
      go_ret
      exact ⟨rfl, hb⟩
set_option maxHeartbeats 1600000 in
theorem sameSched_same (S : SV) (J J' T T' F F' : Option Addr) (cj cj' ct ct' cf cf' : Nat) (w : World) (h1 : Cells w w.heap.size J (ints (flatJ S.js))) (h1' : Cells w w.heap.size J' (ints (flatJ S.js))) (h2 : Cells w w.heap.size T (ints (flatT S.ts))) (h2' : Cells w w.heap.size T' (ints (flatT S.ts)))
    (h3 : Cells w w.heap.size F (ints S.fs)) (h3' : Cells w w.heap.size F' (ints S.fs)) (b1 : S.js.length ≤ 1000000000) (b2 : S.ts.length ≤ 1000000000) (b3 : S.fs.length ≤ 1000000000) :
    Calls Tryd.prog 11 #[.agg #[.int .i64 S.z, .int .i64 S.n, .int .i64 S.b, .slice J S.js.length cj, .slice T S.ts.length ct, .slice F S.fs.length cf], .agg #[.int .i64 S.z, .int .i64 S.n, .int .i64 S.b, .slice J' S.js.length cj', .slice T' S.ts.length ct', .slice F' S.fs.length cf']] w fun e w' => e = .returned (.bool true) ∧ Below w.heap.size w w' := by
  go_enter Tryd.func11, Tryd.ntmps11
  have b_0 := (Below.refl w.heap.size w)
  have s_0 := b_0.size
  have j_0 := h1
  clear h1
  have jj_0 := h1'
  clear h1'
  have t_0 := h2
  clear h2
  have tt_0 := h2'
  clear h2'
  have f_0 := h3
  clear h3
  have ff_0 := h3'
  clear h3'
  go_wp2_with fail
  refine calls_forget2 (W := w) (b0 := w.heap.size) (t0 := 34) (c0 := #[.int .i64 S.z, .int .i64 S.n, .int .i64 S.b, .slice J S.js.length cj, .slice T S.ts.length ct, .slice F S.fs.length cf]) (b1 := w.heap.size + 1) (t1 := 34) (c1 := #[.int .i64 S.z, .int .i64 S.n, .int .i64 S.b, .slice J' S.js.length cj', .slice T' S.ts.length ct', .slice F' S.fs.length cf']) ?_ ?_ ?_ ?_
  (focus (first | ((repeat (first | (with_reducible assumption) | (with_reducible apply Blk.drew) | (with_reducible apply Blk.drewN) | (with_reducible apply Blk.new; first | rfl | (simp; done)) | (with_reducible apply Blk.alloc) | (with_reducible apply Blk.set_) | (with_reducible apply Blk.past; focus assumption) | (with_reducible apply Blk.far; focus (first | (simp; done) | (simp; omega) | (dsimp only; omega))))); done) | (apply Blk.cast; (case h => (repeat (first | (with_reducible assumption) | (with_reducible apply Blk.drew) | (with_reducible apply Blk.drewN) | (with_reducible apply Blk.new; first | rfl | (simp; done)) | (with_reducible apply Blk.alloc) | (with_reducible apply Blk.set_) | (with_reducible apply Blk.past; focus assumption) | (with_reducible apply Blk.far; focus (first | (simp; done) | (simp; omega) | (dsimp only; omega)))))); (case e => rfl))))
  (focus (first | ((repeat (first | (with_reducible assumption) | (with_reducible apply Blk.drew) | (with_reducible apply Blk.drewN) | (with_reducible apply Blk.new; first | rfl | (simp; done)) | (with_reducible apply Blk.alloc) | (with_reducible apply Blk.set_) | (with_reducible apply Blk.past; focus assumption) | (with_reducible apply Blk.far; focus (first | (simp; done) | (simp; omega) | (dsimp only; omega))))); done) | (apply Blk.cast; (case h => (repeat (first | (with_reducible assumption) | (with_reducible apply Blk.drew) | (with_reducible apply Blk.drewN) | (with_reducible apply Blk.new; first | rfl | (simp; done)) | (with_reducible apply Blk.alloc) | (with_reducible apply Blk.set_) | (with_reducible apply Blk.past; focus assumption) | (with_reducible apply Blk.far; focus (first | (simp; done) | (simp; omega) | (dsimp only; omega)))))); (case e => rfl))))
  (focus (repeat (first | (with_reducible exact Below.refl _ _) | (with_reducible refine Below.trans ?_ (Below.mono (by assumption) (by first | omega | (simp; done) | (simp; omega) | (simp [*]; done)))) | (with_reducible refine Below.alloc ?_ (by first | omega | (simp; done) | (simp; omega) | (simp [*]; done)) _) | (with_reducible refine Below.setCell ?_ (by first | omega | (simp; done) | (simp; omega) | (simp [*]; done)) _) | (with_reducible refine Below.drew ?_) | (with_reducible refine below_drewN ?_))))
  intro X1 x_n y_n hX1
  have sX1 := hX1.size
  have x_lt := x_n.lt
  have y_lt := y_n.lt
  refine (sameJobs_same _ _ _ _ _ _ ((cells_below j_0 hX1 (by omega)).more (by omega)) ((cells_below jj_0 hX1 (by omega)).more (by omega)) b1).mono ?_
  rintro e w1 ⟨rfl, hb1⟩
  have s1 := hb1.size
  have hT1 := hX1.trans (hb1.mono sX1)
  have b_1 := b_0.trans (hT1.mono (by omega))
  have j_1 := cells_below j_0 hT1 (by omega)
  have jj_1 := cells_below jj_0 hT1 (by omega)
  have t_1 := cells_below t_0 hT1 (by omega)
  have tt_1 := cells_below tt_0 hT1 (by omega)
  have f_1 := cells_below f_0 hT1 (by omega)
  have ff_1 := cells_below ff_0 hT1 (by omega)
  have x_1 := Blk.past hb1 x_n
  have y_1 := Blk.past hb1 y_n
  clear j_0 jj_0 t_0 tt_0 f_0 ff_0 b_0 x_n y_n hX1 hT1 hb1
  have cell_x := x_1.cell
  have froz_x := x_1.frozen
  have lt_x := x_1.lt
  have cell_y := y_1.cell
  have froz_y := y_1.frozen
  have lt_y := y_1.lt
  go_wp2_with fail
  refine calls_forget0 (W := w1) ?_ ?_
  (focus (repeat (first | (with_reducible exact Below.refl _ _) | (with_reducible refine Below.trans ?_ (Below.mono (by assumption) (by first | omega | (simp; done) | (simp; omega) | (simp [*]; done)))) | (with_reducible refine Below.alloc ?_ (by first | omega | (simp; done) | (simp; omega) | (simp [*]; done)) _) | (with_reducible refine Below.setCell ?_ (by first | omega | (simp; done) | (simp; omega) | (simp [*]; done)) _) | (with_reducible refine Below.drew ?_) | (with_reducible refine below_drewN ?_))))
  intro X2 hX2
  have sX2 := hX2.size
  refine (sameTickets_same _ _ _ _ _ _ ((cells_below t_1 hX2 (by omega)).more (by omega)) ((cells_below tt_1 hX2 (by omega)).more (by omega)) b2).mono ?_
  rintro e w2 ⟨rfl, hb2⟩
  have s2 := hb2.size
  have hT2 := hX2.trans (hb2.mono sX2)
  have b_2 := b_1.trans (hT2.mono (by omega))
  have j_2 := cells_below j_1 hT2 (by omega)
  have jj_2 := cells_below jj_1 hT2 (by omega)
  have t_2 := cells_below t_1 hT2 (by omega)
  have tt_2 := cells_below tt_1 hT2 (by omega)
  have f_2 := cells_below f_1 hT2 (by omega)
  have ff_2 := cells_below ff_1 hT2 (by omega)
  have x_2 := Blk.past hT2 x_1
  have y_2 := Blk.past hT2 y_1
  clear j_1 jj_1 t_1 tt_1 f_1 ff_1 x_1 y_1 b_1 cell_x froz_x lt_x cell_y froz_y lt_y hX2 hT2 hb2
  have cell_x := x_2.cell
  have froz_x := x_2.frozen
  have lt_x := x_2.lt
  have cell_y := y_2.cell
  have froz_y := y_2.frozen
  have lt_y := y_2.lt
  go_wp2_with fail
  refine calls_forget0 (W := w2) ?_ ?_
  (focus (repeat (first | (with_reducible exact Below.refl _ _) | (with_reducible refine Below.trans ?_ (Below.mono (by assumption) (by first | omega | (simp; done) | (simp; omega) | (simp [*]; done)))) | (with_reducible refine Below.alloc ?_ (by first | omega | (simp; done) | (simp; omega) | (simp [*]; done)) _) | (with_reducible refine Below.setCell ?_ (by first | omega | (simp; done) | (simp; omega) | (simp [*]; done)) _) | (with_reducible refine Below.drew ?_) | (with_reducible refine below_drewN ?_))))
  intro X3 hX3
  have sX3 := hX3.size
  refine (sameInts_same _ _ _ _ _ _ ((cells_below f_2 hX3 (by omega)).more (by omega)) ((cells_below ff_2 hX3 (by omega)).more (by omega)) b3).mono ?_
  rintro e w3 ⟨rfl, hb3⟩
  have s3 := hb3.size
  have hT3 := hX3.trans (hb3.mono sX3)
  have b_3 := b_2.trans (hT3.mono (by omega))
  have j_3 := cells_below j_2 hT3 (by omega)
  have jj_3 := cells_below jj_2 hT3 (by omega)
  have t_3 := cells_below t_2 hT3 (by omega)
  have tt_3 := cells_below tt_2 hT3 (by omega)
  have f_3 := cells_below f_2 hT3 (by omega)
  have ff_3 := cells_below ff_2 hT3 (by omega)
  have x_3 := Blk.past hT3 x_2
  have y_3 := Blk.past hT3 y_2
  clear j_2 jj_2 t_2 tt_2 f_2 ff_2 x_2 y_2 b_2 cell_x froz_x lt_x cell_y froz_y lt_y hX3 hT3 hb3
  have cell_x := x_3.cell
  have froz_x := x_3.frozen
  have lt_x := x_3.lt
  have cell_y := y_3.cell
  have froz_y := y_3.frozen
  have lt_y := y_3.lt
  go_wp2
  go_ret
  refine ⟨rfl, b_3.trans ?_⟩
  repeat (first | (with_reducible exact Below.refl _ _) | (with_reducible refine Below.trans ?_ (Below.mono (by assumption) (by first | omega | (simp; done) | (simp; omega) | (simp [*]; done)))) | (with_reducible refine Below.alloc ?_ (by first | omega | (simp; done) | (simp; omega) | (simp [*]; done)) _) | (with_reducible refine Below.setCell ?_ (by first | omega | (simp; done) | (simp; omega) | (simp [*]; done)) _) | (with_reducible refine Below.drew ?_) | (with_reducible refine below_drewN ?_))
end Go.Proofs.YtcdodfekclkonaaDoor
