import Derived.Test.YtihbaieiempjeaaBy
import Derived.Test.YtihbaieiempjeaaDrawC
import Derived.Test.YtihbaieiempjeaaStmtS
import Derived.Test.YtihbaieiempjeaaRw
import Derived.Deep.AppendSrc
import Derived.Maps.AppendAt
/- The reference's drawn statements: valid ones, no part of a loop. -/
namespace Go.Proofs.Ytihbaieiempjeaa
open Go.RowKit

def PlainSt (s : St) : Prop := stmtB s = true ∧ s.o ≠ 12 ∧ s.o ≠ 13
def stV (s : St) : Value := .agg #[.int .i64 s.o, .int .i64 s.d, .int .i64 s.a, .int .i64 s.b, .int .i64 s.c, .int .i64 s.n]
theorem plain1 (d a b c n : Int) (w : World) : Calls Try.prog 99 #[.agg #[.int .i64 1, .int .i64 d, .int .i64 a, .int .i64 b, .int .i64 c, .int .i64 n]] w fun e w' => e = .returned (.agg #[.int .i64 1, .int .i64 d, .int .i64 0, .int .i64 0, .int .i64 0, .int .i64 n]) ∧ Below w.heap.size w w' := sPlainX 1 d a b c n w
theorem plain2 (d a b c n : Int) (w : World) : Calls Try.prog 99 #[.agg #[.int .i64 2, .int .i64 d, .int .i64 a, .int .i64 b, .int .i64 c, .int .i64 n]] w fun e w' => e = .returned (.agg #[.int .i64 2, .int .i64 d, .int .i64 a, .int .i64 0, .int .i64 0, .int .i64 n]) ∧ Below w.heap.size w w' := sPlainX 2 d a b c n w
theorem plain10 (d a b c n : Int) (w : World) : Calls Try.prog 99 #[.agg #[.int .i64 10, .int .i64 d, .int .i64 a, .int .i64 b, .int .i64 c, .int .i64 n]] w fun e w' => e = .returned (.agg #[.int .i64 10, .int .i64 d, .int .i64 a, .int .i64 b, .int .i64 c, .int .i64 0]) ∧ Below w.heap.size w w' := sPlainX 10 d a b c n w
theorem plain11 (d a b c n : Int) (w : World) : Calls Try.prog 99 #[.agg #[.int .i64 11, .int .i64 d, .int .i64 a, .int .i64 b, .int .i64 c, .int .i64 n]] w fun e w' => e = .returned (.agg #[.int .i64 11, .int .i64 0, .int .i64 a, .int .i64 0, .int .i64 0, .int .i64 0]) ∧ Below w.heap.size w w' := sPlainX 11 d a b c n w
theorem plain3 (o d a b c n : Int) (w : World) (h : 3 ≤ o ∧ o ≤ 9) : Calls Try.prog 99 #[.agg #[.int .i64 o, .int .i64 d, .int .i64 a, .int .i64 b, .int .i64 c, .int .i64 n]] w fun e w' => e = .returned (.agg #[.int .i64 o, .int .i64 d, .int .i64 a, .int .i64 b, .int .i64 0, .int .i64 0]) ∧ Below w.heap.size w w' := by
  have q := sPlainX o d a b c n w
  have e3 : inB o 3 9 = true := inB_iff.2 h
  have e1 : (o == 1) = false := by simp; omega
  have e2 : (o == 2) = false := by simp; omega
  have e4 : (o == 10) = false := by simp; omega
  have e5 : (o == 11) = false := by simp; omega
  have e6 : (o == 12) = false := by simp; omega
  rw [e1, e2, e3, e4, e5, e6] at q
  exact q
theorem pl1 {d n : Int} (hd : 0 ≤ d ∧ d ≤ 7) (hn : 0 ≤ n ∧ n ≤ 15) : PlainSt ⟨1, d, 0, 0, 0, n⟩ := by
  refine ⟨?_, by show (1 : Int) ≠ 12; decide, by show (1 : Int) ≠ 13; decide⟩
  unfold stmtB regB
  rw [if_pos rfl]
  simp only [Bool.and_eq_true, inB_iff, beq_iff_eq, true_and]
  exact ⟨hd, hn⟩
theorem pl2 {d a n : Int} (hd : 0 ≤ d ∧ d ≤ 7) (ha : 0 ≤ a ∧ a ≤ 4) (hn : 0 ≤ n ∧ n ≤ 3) : PlainSt ⟨2, d, a, 0, 0, n⟩ := by
  refine ⟨?_, by show (2 : Int) ≠ 12; decide, by show (2 : Int) ≠ 13; decide⟩
  unfold stmtB regB
  rw [if_neg (show ¬ (2 : Int) = 1 by decide), if_pos rfl]
  simp only [Bool.and_eq_true, inB_iff, beq_iff_eq, true_and]
  exact ⟨hd, ha, hn⟩
theorem pl3 {o d a b : Int} (h : 3 ≤ o ∧ o ≤ 9) (hd : 0 ≤ d ∧ d ≤ 7) (ha : 0 ≤ a ∧ a ≤ 7) (hb : 0 ≤ b ∧ b ≤ 7) : PlainSt ⟨o, d, a, b, 0, 0⟩ := by
  refine ⟨?_, by show o ≠ 12; omega, by show o ≠ 13; omega⟩
  unfold stmtB regB
  rw [if_neg (show ¬ o = 1 by omega), if_neg (show ¬ o = 2 by omega), if_pos (inB_iff.2 h)]
  simp only [Bool.and_eq_true, inB_iff, beq_iff_eq, and_true]
  exact ⟨hd, ha, hb⟩
theorem pl10 {d a b c : Int} (hd : 0 ≤ d ∧ d ≤ 7) (ha : 0 ≤ a ∧ a ≤ 7) (hb : 0 ≤ b ∧ b ≤ 7) (hc : 0 ≤ c ∧ c ≤ 7) : PlainSt ⟨10, d, a, b, c, 0⟩ := by
  refine ⟨?_, by show (10 : Int) ≠ 12; decide, by show (10 : Int) ≠ 13; decide⟩
  unfold stmtB regB
  rw [if_neg (show ¬ (10 : Int) = 1 by decide), if_neg (show ¬ (10 : Int) = 2 by decide), if_neg (show ¬ inB 10 3 9 = true by decide), if_pos rfl]
  simp only [Bool.and_eq_true, inB_iff, beq_iff_eq, and_true]
  exact ⟨hd, ha, hb, hc⟩
theorem pl11 {a : Int} (ha : 0 ≤ a ∧ a ≤ 7) : PlainSt ⟨11, 0, a, 0, 0, 0⟩ := by
  refine ⟨?_, by show (11 : Int) ≠ 12; decide, by show (11 : Int) ≠ 13; decide⟩
  unfold stmtB regB
  rw [if_neg (show ¬ (11 : Int) = 1 by decide), if_neg (show ¬ (11 : Int) = 2 by decide), if_neg (show ¬ inB 11 3 9 = true by decide), if_neg (show ¬ (11 : Int) = 10 by decide), if_pos rfl]
  simp only [Bool.and_eq_true, inB_iff, beq_iff_eq, true_and, and_true]
  exact ha
set_option maxRecDepth 100000 in
set_option maxHeartbeats 3200000 in
theorem stmt_is (p : Nat) (A : Option Addr) (c : Nat) (bs : List Int) (w : World) (hc : Cur w p A bs.length c) (hb : Bytes w p A bs) :
    Calls Try.prog 83 #[.pointer (some ⟨p, 0, none⟩)] w fun e w' => ∃ s : St, PlainSt s ∧ e = .returned (.agg #[.int .i64 s.o, .int .i64 s.d, .int .i64 s.a, .int .i64 s.b, .int .i64 s.c, .int .i64 s.n]) ∧ Cur w' p A bs.length c ∧ Touch [p] w w' := by
  obtain ⟨i0, h0, hcu, cu_i0, cu_i1⟩ := hc
  have hp := hcu.lt
  have bc_s := hid hb.small
  have bc_l := hid hb.len
  have HBY := hb.cells
  clear hb
  go_enter Try.func83, Try.ntmps83
  have b_0 := (Below.refl 0 w)
  have s_0 := b_0.size
  have T_0 := Touch.refl [p] w
  have bc_0 := HBY
  clear HBY
  have cu_0 := hcu
  clear hcu
  have cu_lt := cu_0.lt
  have cell_cu := cu_0.cell
  have froz_cu := cu_0.frozen
  have lt_cu := cu_0.lt
  go_wp2_with fail
  refine calls_forget1 (W := w) (b0 := w.heap.size) (t0 := 45) (c0 := #[.int .i64 0, .int .i64 0, .int .i64 0, .int .i64 0, .int .i64 0, .int .i64 0]) ?_ ?_ ?_
  (focus exact blkcBy)
  (focus (exact belBy))
  intro X1 r_n hX1
  have sX1 := hX1.size
  have r_lt := r_n.lt
  refine (below_any 4 _ _ _ _ _ (by omega) (by omega) (show Cur _ _ _ _ _ from ⟨_, _, Blk.past hX1 cu_0, cu_i0, cu_i1⟩) ⟨cells_below bc_0 hX1 (by omega), bc_s.out, bc_l.out⟩).mono ?_
  clear cu_i0 cu_i1
  rintro e w1 ⟨d, rfl, d0, d1, ⟨i_1, h_1, cu_1, cu_i0, cu_i1⟩, hY1⟩
  have s1 := hY1.size
  have b_1 := below0_touch hY1 (b_0.trans (hX1.mono (by omega)))
  have T_1 := (T_0.trans (Touch.of_below hX1)).trans hY1
  have bc_1 := cells_touch hY1 (cells_below bc_0 hX1 (by omega)) (by omega) (by first | (simp; done) | (simp; omega))
  have r_1 := Blk.touch hY1 r_n (by first | (simp; done) | (simp; omega))
  clear T_0 bc_0 cu_0 b_0 cell_cu froz_cu lt_cu r_n hX1 hY1
  have cell_cu := cu_1.cell
  have froz_cu := cu_1.frozen
  have lt_cu := cu_1.lt
  have cell_r := r_1.cell
  have froz_r := r_1.frozen
  have lt_r := r_1.lt
  go_wp2_with fail
  refine calls_forget0 (W := w1) ?_ ?_
  (focus (exact belBy))
  intro X2 hX2
  have sX2 := hX2.size
  refine (below_any 4 _ _ _ _ _ (by omega) (by omega) (show Cur _ _ _ _ _ from ⟨_, _, Blk.past hX2 cu_1, cu_i0, cu_i1⟩) ⟨cells_below bc_1 hX2 (by omega), bc_s.out, bc_l.out⟩).mono ?_
  clear cu_i0 cu_i1
  rintro e w2 ⟨a, rfl, a0, a1, ⟨i_2, h_2, cu_2, cu_i0, cu_i1⟩, hY2⟩
  have s2 := hY2.size
  have b_2 := below0_touch hY2 (b_1.trans (hX2.mono (by omega)))
  have T_2 := (T_1.trans (Touch.of_below hX2)).trans hY2
  have bc_2 := cells_touch hY2 (cells_below bc_1 hX2 (by omega)) (by omega) (by first | (simp; done) | (simp; omega))
  have r_2 := Blk.touch hY2 (Blk.past hX2 r_1) (by first | (simp; done) | (simp; omega))
  clear T_1 bc_1 cu_1 r_1 b_1 cell_cu froz_cu lt_cu cell_r froz_r lt_r hX2 hY2
  have cell_cu := cu_2.cell
  have froz_cu := cu_2.frozen
  have lt_cu := cu_2.lt
  have cell_r := r_2.cell
  have froz_r := r_2.frozen
  have lt_r := r_2.lt
  go_wp2_with fail
  refine calls_forget0 (W := w2) ?_ ?_
  (focus (exact belBy))
  intro X3 hX3
  have sX3 := hX3.size
  refine (below_any 4 _ _ _ _ _ (by omega) (by omega) (show Cur _ _ _ _ _ from ⟨_, _, Blk.past hX3 cu_2, cu_i0, cu_i1⟩) ⟨cells_below bc_2 hX3 (by omega), bc_s.out, bc_l.out⟩).mono ?_
  clear cu_i0 cu_i1
  rintro e w3 ⟨f, rfl, f0, f1, ⟨i_3, h_3, cu_3, cu_i0, cu_i1⟩, hY3⟩
  have s3 := hY3.size
  have b_3 := below0_touch hY3 (b_2.trans (hX3.mono (by omega)))
  have T_3 := (T_2.trans (Touch.of_below hX3)).trans hY3
  have bc_3 := cells_touch hY3 (cells_below bc_2 hX3 (by omega)) (by omega) (by first | (simp; done) | (simp; omega))
  have r_3 := Blk.touch hY3 (Blk.past hX3 r_2) (by first | (simp; done) | (simp; omega))
  clear T_2 bc_2 cu_2 r_2 b_2 cell_cu froz_cu lt_cu cell_r froz_r lt_r hX3 hY3
  have cell_cu := cu_3.cell
  have froz_cu := cu_3.frozen
  have lt_cu := cu_3.lt
  have cell_r := r_3.cell
  have froz_r := r_3.frozen
  have lt_r := r_3.lt
  go_wp2_with fail
  refine calls_forget0 (W := w3) ?_ ?_
  (focus (exact belBy))
  intro X4 hX4
  have sX4 := hX4.size
  refine (below_any 4 _ _ _ _ _ (by omega) (by omega) (show Cur _ _ _ _ _ from ⟨_, _, Blk.past hX4 cu_3, cu_i0, cu_i1⟩) ⟨cells_below bc_3 hX4 (by omega), bc_s.out, bc_l.out⟩).mono ?_
  clear cu_i0 cu_i1
  rintro e w4 ⟨g, rfl, g0, g1, ⟨i_4, h_4, cu_4, cu_i0, cu_i1⟩, hY4⟩
  have s4 := hY4.size
  have b_4 := below0_touch hY4 (b_3.trans (hX4.mono (by omega)))
  have T_4 := (T_3.trans (Touch.of_below hX4)).trans hY4
  have bc_4 := cells_touch hY4 (cells_below bc_3 hX4 (by omega)) (by omega) (by first | (simp; done) | (simp; omega))
  have r_4 := Blk.touch hY4 (Blk.past hX4 r_3) (by first | (simp; done) | (simp; omega))
  clear T_3 bc_3 cu_3 r_3 b_3 cell_cu froz_cu lt_cu cell_r froz_r lt_r hX4 hY4
  have cell_cu := cu_4.cell
  have froz_cu := cu_4.frozen
  have lt_cu := cu_4.lt
  have cell_r := r_4.cell
  have froz_r := r_4.frozen
  have lt_r := r_4.lt
  go_upto_region 2 with fail
  go_wp2_with fail
  refine calls_forget1 (W := w4) (b0 := w4.heap.size) (t0 := 45) (c0 := #[.int .i64 0, .int .i64 d, .int .i64 a, .int .i64 f, .int .i64 g, .int .i64 0]) ?_ ?_ ?_
  (focus exact blkcBy)
  (focus (exact belBy))
  intro X5 z_n hX5
  have sX5 := hX5.size
  have z_lt := z_n.lt
  refine (below_any 12 _ _ _ _ _ (by omega) (by omega) (show Cur _ _ _ _ _ from ⟨_, _, Blk.past hX5 cu_4, cu_i0, cu_i1⟩) ⟨cells_below bc_4 hX5 (by omega), bc_s.out, bc_l.out⟩).mono ?_
  clear cu_i0 cu_i1
  rintro e w5 ⟨q, rfl, q0, q1, ⟨i_5, h_5, cu_5, cu_i0, cu_i1⟩, hY5⟩
  have s5 := hY5.size
  have b_5 := below0_touch hY5 (b_4.trans (hX5.mono (by omega)))
  have T_5 := (T_4.trans (Touch.of_below hX5)).trans hY5
  have bc_5 := cells_touch hY5 (cells_below bc_4 hX5 (by omega)) (by omega) (by first | (simp; done) | (simp; omega))
  have r_5 := Blk.touch hY5 (Blk.past hX5 r_4) (by first | (simp; done) | (simp; omega))
  have z_5 := Blk.touch hY5 z_n (by first | (simp; done) | (simp; omega))
  clear T_4 bc_4 cu_4 r_4 b_4 cell_cu froz_cu lt_cu cell_r froz_r lt_r z_n hX5 hY5
  have cell_cu := cu_5.cell
  have froz_cu := cu_5.frozen
  have lt_cu := cu_5.lt
  have cell_r := r_5.cell
  have froz_r := r_5.frozen
  have lt_r := r_5.lt
  have cell_z := z_5.cell
  have froz_z := z_5.frozen
  have lt_z := z_5.lt
  have HD := hid (show 0 ≤ d ∧ d ≤ 7 by omega)
  have HA := hid (show 0 ≤ a ∧ a ≤ 7 by omega)
  have HF := hid (show 0 ≤ f ∧ f ≤ 7 by omega)
  have HG := hid (show 0 ≤ g ∧ g ≤ 7 by omega)
  clear d0 d1 a0 a1 f0 f1 g0 g1
  have h7 : q = 0 ∨ q = 1 ∨ q = 2 ∨ q = 3 ∨ q = 4 ∨ q = 5 ∨ q = 6 ∨ 7 ≤ q := by omega
  clear q0
  rcases h7 with rfl | rfl | rfl | rfl | rfl | rfl | rfl | q0
  · skip
    have b_20 := (Below.refl 0 w5)
    have s_20 := b_20.size
    have T_20 := T_5
    have bc_20 := bc_5
    clear bc_5
    have cu_20 := cu_5
    clear cu_5
    have cu_lt := cu_20.lt
    have cell_cu := cu_20.cell
    have froz_cu := cu_20.frozen
    have lt_cu := cu_20.lt
    have r_20 := r_5
    clear r_5
    have r_lt := r_20.lt
    have cell_r := r_20.cell
    have froz_r := r_20.frozen
    have lt_r := r_20.lt
    have z_20 := z_5
    clear z_5
    have z_lt := z_20.lt
    have cell_z := z_20.cell
    have froz_z := z_20.frozen
    have lt_z := z_20.lt
    go_wp2_with fail
    refine calls_touch1 (w0 := w5) (L := [w4.heap.size]) (b0 := w4.heap.size) (t0 := 45) (c0 := #[.int .i64 1, .int .i64 d, .int .i64 a, .int .i64 f, .int .i64 g, .int .i64 0]) ?_ ?_ ?_
    (focus exact blkcBy)
    (focus (exact tchBy))
    intro w21 z_21 hX21
    have sX21 := hX21.size
    have b_21 := below0_touch hX21 b_20
    have T_21 := T_20.trans_new hX21 (by first | (simp; done) | (simp; omega))
    have bc_21 := cells_touch hX21 bc_20 (by omega) (by first | (simp; done) | (simp; omega))
    have cu_21 := Blk.touch hX21 cu_20 (by first | (simp; done) | (simp; omega))
    have r_21 := Blk.touch hX21 r_20 (by first | (simp; done) | (simp; omega))
    clear T_20 bc_20 cu_20 r_20 z_20 b_20 cell_cu froz_cu lt_cu cell_r froz_r lt_r cell_z froz_z lt_z hX21
    have cell_cu := cu_21.cell
    have froz_cu := cu_21.frozen
    have lt_cu := cu_21.lt
    have cell_r := r_21.cell
    have froz_r := r_21.frozen
    have lt_r := r_21.lt
    have cell_z := z_21.cell
    have froz_z := z_21.frozen
    have lt_z := z_21.lt
    go_wp2_with fail
    refine calls_forget0 (W := w21) ?_ ?_
    (focus (exact belBy))
    intro X22 hX22
    have sX22 := hX22.size
    refine (below_any 16 _ _ _ _ _ (by omega) (by omega) (show Cur _ _ _ _ _ from ⟨_, _, Blk.past hX22 cu_21, cu_i0, cu_i1⟩) ⟨cells_below bc_21 hX22 (by omega), bc_s.out, bc_l.out⟩).mono ?_
    clear cu_i0 cu_i1
    rintro e w22 ⟨x, rfl, x0, x1, ⟨i_22, h_22, cu_22, cu_i0, cu_i1⟩, hY22⟩
    have s22 := hY22.size
    have b_22 := below0_touch hY22 (b_21.trans (hX22.mono (by omega)))
    have T_22 := (T_21.trans (Touch.of_below hX22)).trans hY22
    have bc_22 := cells_touch hY22 (cells_below bc_21 hX22 (by omega)) (by omega) (by first | (simp; done) | (simp; omega))
    have r_22 := Blk.touch hY22 (Blk.past hX22 r_21) (by first | (simp; done) | (simp; omega))
    have z_22 := Blk.touch hY22 (Blk.past hX22 z_21) (by first | (simp; done) | (simp; omega))
    clear T_21 bc_21 cu_21 r_21 z_21 b_21 cell_cu froz_cu lt_cu cell_r froz_r lt_r cell_z froz_z lt_z hX22 hY22
    have cell_cu := cu_22.cell
    have froz_cu := cu_22.frozen
    have lt_cu := cu_22.lt
    have cell_r := r_22.cell
    have froz_r := r_22.frozen
    have lt_r := r_22.lt
    have cell_z := z_22.cell
    have froz_z := z_22.frozen
    have lt_z := z_22.lt
    have HX := hid (show 0 ≤ x ∧ x ≤ 15 by omega)
    go_wp2_with fail
    refine calls_touch1 (w0 := w22) (L := [w4.heap.size]) (b0 := w4.heap.size) (t0 := 45) (c0 := #[.int .i64 1, .int .i64 d, .int .i64 a, .int .i64 f, .int .i64 g, .int .i64 x]) ?_ ?_ ?_
    (focus exact blkcBy)
    (focus (exact tchBy))
    intro w23 z_23 hX23
    have sX23 := hX23.size
    have b_23 := below0_touch hX23 b_22
    have T_23 := T_22.trans_new hX23 (by first | (simp; done) | (simp; omega))
    have bc_23 := cells_touch hX23 bc_22 (by omega) (by first | (simp; done) | (simp; omega))
    have cu_23 := Blk.touch hX23 cu_22 (by first | (simp; done) | (simp; omega))
    have r_23 := Blk.touch hX23 r_22 (by first | (simp; done) | (simp; omega))
    clear T_22 bc_22 cu_22 r_22 z_22 b_22 cell_cu froz_cu lt_cu cell_r froz_r lt_r cell_z froz_z lt_z hX23
    have cell_cu := cu_23.cell
    have froz_cu := cu_23.frozen
    have lt_cu := cu_23.lt
    have cell_r := r_23.cell
    have froz_r := r_23.frozen
    have lt_r := r_23.lt
    have cell_z := z_23.cell
    have froz_z := z_23.frozen
    have lt_z := z_23.lt
    go_wp2_with fail
    refine calls_forget0 (W := w23) ?_ ?_
    (focus (exact belBy))
    intro X24 hX24
    have sX24 := hX24.size
    refine (plain1 _ _ _ _ _ _).mono ?_
    rintro e w24 ⟨rfl, hb24⟩
    have s24 := hb24.size
    have hT24 := hX24.trans (hb24.mono sX24)
    have b_24 := b_23.trans (hT24.mono (by omega))
    have T_24 := T_23.trans (Touch.of_below hT24)
    have bc_24 := cells_below bc_23 hT24 (by omega)
    have cu_24 := Blk.past hT24 cu_23
    have r_24 := Blk.past hT24 r_23
    have z_24 := Blk.past hT24 z_23
    clear T_23 bc_23 cu_23 r_23 z_23 b_23 cell_cu froz_cu lt_cu cell_r froz_r lt_r cell_z froz_z lt_z hX24 hT24 hb24
    have cell_cu := cu_24.cell
    have froz_cu := cu_24.frozen
    have lt_cu := cu_24.lt
    have cell_r := r_24.cell
    have froz_r := r_24.frozen
    have lt_r := r_24.lt
    have cell_z := z_24.cell
    have froz_z := z_24.frozen
    have lt_z := z_24.lt
    go_wp2_with fail
    ((try simp only [Exit.inBlock, Exit.then]); apply bodyPost_ret0; focus ((try simp only [results, Try.results83]); (try go_simp); (try rfl)))
    refine ⟨⟨1, d, 0, 0, 0, x⟩, pl1 HD.out HX.out, rfl, ?_, ?_⟩
    · exact Cur.touch (L := [w.heap.size]) ⟨_, _, cu_24, cu_i0, cu_i1⟩ (by exact tchBy) (by simp; omega)
    · exact T_24.trans_new (M := [w.heap.size]) (by exact tchBy) (by simp)
  · skip
    have b_20 := (Below.refl 0 w5)
    have s_20 := b_20.size
    have T_20 := T_5
    have bc_20 := bc_5
    clear bc_5
    have cu_20 := cu_5
    clear cu_5
    have cu_lt := cu_20.lt
    have cell_cu := cu_20.cell
    have froz_cu := cu_20.frozen
    have lt_cu := cu_20.lt
    have r_20 := r_5
    clear r_5
    have r_lt := r_20.lt
    have cell_r := r_20.cell
    have froz_r := r_20.frozen
    have lt_r := r_20.lt
    have z_20 := z_5
    clear z_5
    have z_lt := z_20.lt
    have cell_z := z_20.cell
    have froz_z := z_20.frozen
    have lt_z := z_20.lt
    go_wp2_with fail
    refine calls_touch1 (w0 := w5) (L := [w4.heap.size]) (b0 := w4.heap.size) (t0 := 45) (c0 := #[.int .i64 2, .int .i64 d, .int .i64 a, .int .i64 f, .int .i64 g, .int .i64 0]) ?_ ?_ ?_
    (focus exact blkcBy)
    (focus (exact tchBy))
    intro w21 z_21 hX21
    have sX21 := hX21.size
    have b_21 := below0_touch hX21 b_20
    have T_21 := T_20.trans_new hX21 (by first | (simp; done) | (simp; omega))
    have bc_21 := cells_touch hX21 bc_20 (by omega) (by first | (simp; done) | (simp; omega))
    have cu_21 := Blk.touch hX21 cu_20 (by first | (simp; done) | (simp; omega))
    have r_21 := Blk.touch hX21 r_20 (by first | (simp; done) | (simp; omega))
    clear T_20 bc_20 cu_20 r_20 z_20 b_20 cell_cu froz_cu lt_cu cell_r froz_r lt_r cell_z froz_z lt_z hX21
    have cell_cu := cu_21.cell
    have froz_cu := cu_21.frozen
    have lt_cu := cu_21.lt
    have cell_r := r_21.cell
    have froz_r := r_21.frozen
    have lt_r := r_21.lt
    have cell_z := z_21.cell
    have froz_z := z_21.frozen
    have lt_z := z_21.lt
    go_wp2_with fail
    refine calls_forget0 (W := w21) ?_ ?_
    (focus (exact belBy))
    intro X22 hX22
    have sX22 := hX22.size
    refine (below_any 3 _ _ _ _ _ (by omega) (by omega) (show Cur _ _ _ _ _ from ⟨_, _, Blk.past hX22 cu_21, cu_i0, cu_i1⟩) ⟨cells_below bc_21 hX22 (by omega), bc_s.out, bc_l.out⟩).mono ?_
    clear cu_i0 cu_i1
    rintro e w22 ⟨x, rfl, x0, x1, ⟨i_22, h_22, cu_22, cu_i0, cu_i1⟩, hY22⟩
    have s22 := hY22.size
    have b_22 := below0_touch hY22 (b_21.trans (hX22.mono (by omega)))
    have T_22 := (T_21.trans (Touch.of_below hX22)).trans hY22
    have bc_22 := cells_touch hY22 (cells_below bc_21 hX22 (by omega)) (by omega) (by first | (simp; done) | (simp; omega))
    have r_22 := Blk.touch hY22 (Blk.past hX22 r_21) (by first | (simp; done) | (simp; omega))
    have z_22 := Blk.touch hY22 (Blk.past hX22 z_21) (by first | (simp; done) | (simp; omega))
    clear T_21 bc_21 cu_21 r_21 z_21 b_21 cell_cu froz_cu lt_cu cell_r froz_r lt_r cell_z froz_z lt_z hX22 hY22
    have cell_cu := cu_22.cell
    have froz_cu := cu_22.frozen
    have lt_cu := cu_22.lt
    have cell_r := r_22.cell
    have froz_r := r_22.frozen
    have lt_r := r_22.lt
    have cell_z := z_22.cell
    have froz_z := z_22.frozen
    have lt_z := z_22.lt
    have HX := hid (show 0 ≤ x ∧ x ≤ 4 by omega)
    go_wp2_with fail
    refine calls_touch1 (w0 := w22) (L := [w4.heap.size]) (b0 := w4.heap.size) (t0 := 45) (c0 := #[.int .i64 2, .int .i64 d, .int .i64 x, .int .i64 f, .int .i64 g, .int .i64 0]) ?_ ?_ ?_
    (focus exact blkcBy)
    (focus (exact tchBy))
    intro w23 z_23 hX23
    have sX23 := hX23.size
    have b_23 := below0_touch hX23 b_22
    have T_23 := T_22.trans_new hX23 (by first | (simp; done) | (simp; omega))
    have bc_23 := cells_touch hX23 bc_22 (by omega) (by first | (simp; done) | (simp; omega))
    have cu_23 := Blk.touch hX23 cu_22 (by first | (simp; done) | (simp; omega))
    have r_23 := Blk.touch hX23 r_22 (by first | (simp; done) | (simp; omega))
    clear T_22 bc_22 cu_22 r_22 z_22 b_22 cell_cu froz_cu lt_cu cell_r froz_r lt_r cell_z froz_z lt_z hX23
    have cell_cu := cu_23.cell
    have froz_cu := cu_23.frozen
    have lt_cu := cu_23.lt
    have cell_r := r_23.cell
    have froz_r := r_23.frozen
    have lt_r := r_23.lt
    have cell_z := z_23.cell
    have froz_z := z_23.frozen
    have lt_z := z_23.lt
    go_wp2_with fail
    refine calls_forget0 (W := w23) ?_ ?_
    (focus (exact belBy))
    intro X24 hX24
    have sX24 := hX24.size
    refine (below_any 2 _ _ _ _ _ (by omega) (by omega) (show Cur _ _ _ _ _ from ⟨_, _, Blk.past hX24 cu_23, cu_i0, cu_i1⟩) ⟨cells_below bc_23 hX24 (by omega), bc_s.out, bc_l.out⟩).mono ?_
    clear cu_i0 cu_i1
    rintro e w24 ⟨y, rfl, y0, y1, ⟨i_24, h_24, cu_24, cu_i0, cu_i1⟩, hY24⟩
    have s24 := hY24.size
    have b_24 := below0_touch hY24 (b_23.trans (hX24.mono (by omega)))
    have T_24 := (T_23.trans (Touch.of_below hX24)).trans hY24
    have bc_24 := cells_touch hY24 (cells_below bc_23 hX24 (by omega)) (by omega) (by first | (simp; done) | (simp; omega))
    have r_24 := Blk.touch hY24 (Blk.past hX24 r_23) (by first | (simp; done) | (simp; omega))
    have z_24 := Blk.touch hY24 (Blk.past hX24 z_23) (by first | (simp; done) | (simp; omega))
    clear T_23 bc_23 cu_23 r_23 z_23 b_23 cell_cu froz_cu lt_cu cell_r froz_r lt_r cell_z froz_z lt_z hX24 hY24
    have cell_cu := cu_24.cell
    have froz_cu := cu_24.frozen
    have lt_cu := cu_24.lt
    have cell_r := r_24.cell
    have froz_r := r_24.frozen
    have lt_r := r_24.lt
    have cell_z := z_24.cell
    have froz_z := z_24.frozen
    have lt_z := z_24.lt
    have HY := hid (show 0 ≤ y ∧ y ≤ 3 by omega)
    go_wp2_with fail
    refine calls_touch1 (w0 := w24) (L := [w4.heap.size]) (b0 := w4.heap.size) (t0 := 45) (c0 := #[.int .i64 2, .int .i64 d, .int .i64 x, .int .i64 f, .int .i64 g, .int .i64 y]) ?_ ?_ ?_
    (focus exact blkcBy)
    (focus (exact tchBy))
    intro w25 z_25 hX25
    have sX25 := hX25.size
    have b_25 := below0_touch hX25 b_24
    have T_25 := T_24.trans_new hX25 (by first | (simp; done) | (simp; omega))
    have bc_25 := cells_touch hX25 bc_24 (by omega) (by first | (simp; done) | (simp; omega))
    have cu_25 := Blk.touch hX25 cu_24 (by first | (simp; done) | (simp; omega))
    have r_25 := Blk.touch hX25 r_24 (by first | (simp; done) | (simp; omega))
    clear T_24 bc_24 cu_24 r_24 z_24 b_24 cell_cu froz_cu lt_cu cell_r froz_r lt_r cell_z froz_z lt_z hX25
    have cell_cu := cu_25.cell
    have froz_cu := cu_25.frozen
    have lt_cu := cu_25.lt
    have cell_r := r_25.cell
    have froz_r := r_25.frozen
    have lt_r := r_25.lt
    have cell_z := z_25.cell
    have froz_z := z_25.frozen
    have lt_z := z_25.lt
    go_wp2_with fail
    refine calls_forget0 (W := w25) ?_ ?_
    (focus (exact belBy))
    intro X26 hX26
    have sX26 := hX26.size
    refine (plain2 _ _ _ _ _ _).mono ?_
    rintro e w26 ⟨rfl, hb26⟩
    have s26 := hb26.size
    have hT26 := hX26.trans (hb26.mono sX26)
    have b_26 := b_25.trans (hT26.mono (by omega))
    have T_26 := T_25.trans (Touch.of_below hT26)
    have bc_26 := cells_below bc_25 hT26 (by omega)
    have cu_26 := Blk.past hT26 cu_25
    have r_26 := Blk.past hT26 r_25
    have z_26 := Blk.past hT26 z_25
    clear T_25 bc_25 cu_25 r_25 z_25 b_25 cell_cu froz_cu lt_cu cell_r froz_r lt_r cell_z froz_z lt_z hX26 hT26 hb26
    have cell_cu := cu_26.cell
    have froz_cu := cu_26.frozen
    have lt_cu := cu_26.lt
    have cell_r := r_26.cell
    have froz_r := r_26.frozen
    have lt_r := r_26.lt
    have cell_z := z_26.cell
    have froz_z := z_26.frozen
    have lt_z := z_26.lt
    go_wp2_with fail
    ((try simp only [Exit.inBlock, Exit.then]); apply bodyPost_ret0; focus ((try simp only [results, Try.results83]); (try go_simp); (try rfl)))
    refine ⟨⟨2, d, x, 0, 0, y⟩, pl2 HD.out HX.out HY.out, rfl, ?_, ?_⟩
    · exact Cur.touch (L := [w.heap.size]) ⟨_, _, cu_26, cu_i0, cu_i1⟩ (by exact tchBy) (by simp; omega)
    · exact T_26.trans_new (M := [w.heap.size]) (by exact tchBy) (by simp)
  · skip
    have b_20 := (Below.refl 0 w5)
    have s_20 := b_20.size
    have T_20 := T_5
    have bc_20 := bc_5
    clear bc_5
    have cu_20 := cu_5
    clear cu_5
    have cu_lt := cu_20.lt
    have cell_cu := cu_20.cell
    have froz_cu := cu_20.frozen
    have lt_cu := cu_20.lt
    have r_20 := r_5
    clear r_5
    have r_lt := r_20.lt
    have cell_r := r_20.cell
    have froz_r := r_20.frozen
    have lt_r := r_20.lt
    have z_20 := z_5
    clear z_5
    have z_lt := z_20.lt
    have cell_z := z_20.cell
    have froz_z := z_20.frozen
    have lt_z := z_20.lt
    go_wp2_with fail
    refine calls_touch1 (w0 := w5) (L := [w4.heap.size]) (b0 := w4.heap.size) (t0 := 45) (c0 := #[.int .i64 2, .int .i64 d, .int .i64 a, .int .i64 f, .int .i64 g, .int .i64 0]) ?_ ?_ ?_
    (focus exact blkcBy)
    (focus (exact tchBy))
    intro w21 z_21 hX21
    have sX21 := hX21.size
    have b_21 := below0_touch hX21 b_20
    have T_21 := T_20.trans_new hX21 (by first | (simp; done) | (simp; omega))
    have bc_21 := cells_touch hX21 bc_20 (by omega) (by first | (simp; done) | (simp; omega))
    have cu_21 := Blk.touch hX21 cu_20 (by first | (simp; done) | (simp; omega))
    have r_21 := Blk.touch hX21 r_20 (by first | (simp; done) | (simp; omega))
    clear T_20 bc_20 cu_20 r_20 z_20 b_20 cell_cu froz_cu lt_cu cell_r froz_r lt_r cell_z froz_z lt_z hX21
    have cell_cu := cu_21.cell
    have froz_cu := cu_21.frozen
    have lt_cu := cu_21.lt
    have cell_r := r_21.cell
    have froz_r := r_21.frozen
    have lt_r := r_21.lt
    have cell_z := z_21.cell
    have froz_z := z_21.frozen
    have lt_z := z_21.lt
    go_wp2_with fail
    refine calls_forget0 (W := w21) ?_ ?_
    (focus (exact belBy))
    intro X22 hX22
    have sX22 := hX22.size
    refine (below_any 3 _ _ _ _ _ (by omega) (by omega) (show Cur _ _ _ _ _ from ⟨_, _, Blk.past hX22 cu_21, cu_i0, cu_i1⟩) ⟨cells_below bc_21 hX22 (by omega), bc_s.out, bc_l.out⟩).mono ?_
    clear cu_i0 cu_i1
    rintro e w22 ⟨x, rfl, x0, x1, ⟨i_22, h_22, cu_22, cu_i0, cu_i1⟩, hY22⟩
    have s22 := hY22.size
    have b_22 := below0_touch hY22 (b_21.trans (hX22.mono (by omega)))
    have T_22 := (T_21.trans (Touch.of_below hX22)).trans hY22
    have bc_22 := cells_touch hY22 (cells_below bc_21 hX22 (by omega)) (by omega) (by first | (simp; done) | (simp; omega))
    have r_22 := Blk.touch hY22 (Blk.past hX22 r_21) (by first | (simp; done) | (simp; omega))
    have z_22 := Blk.touch hY22 (Blk.past hX22 z_21) (by first | (simp; done) | (simp; omega))
    clear T_21 bc_21 cu_21 r_21 z_21 b_21 cell_cu froz_cu lt_cu cell_r froz_r lt_r cell_z froz_z lt_z hX22 hY22
    have cell_cu := cu_22.cell
    have froz_cu := cu_22.frozen
    have lt_cu := cu_22.lt
    have cell_r := r_22.cell
    have froz_r := r_22.frozen
    have lt_r := r_22.lt
    have cell_z := z_22.cell
    have froz_z := z_22.frozen
    have lt_z := z_22.lt
    have HX := hid (show 0 ≤ x ∧ x ≤ 4 by omega)
    go_wp2_with fail
    refine calls_touch1 (w0 := w22) (L := [w4.heap.size]) (b0 := w4.heap.size) (t0 := 45) (c0 := #[.int .i64 2, .int .i64 d, .int .i64 x, .int .i64 f, .int .i64 g, .int .i64 0]) ?_ ?_ ?_
    (focus exact blkcBy)
    (focus (exact tchBy))
    intro w23 z_23 hX23
    have sX23 := hX23.size
    have b_23 := below0_touch hX23 b_22
    have T_23 := T_22.trans_new hX23 (by first | (simp; done) | (simp; omega))
    have bc_23 := cells_touch hX23 bc_22 (by omega) (by first | (simp; done) | (simp; omega))
    have cu_23 := Blk.touch hX23 cu_22 (by first | (simp; done) | (simp; omega))
    have r_23 := Blk.touch hX23 r_22 (by first | (simp; done) | (simp; omega))
    clear T_22 bc_22 cu_22 r_22 z_22 b_22 cell_cu froz_cu lt_cu cell_r froz_r lt_r cell_z froz_z lt_z hX23
    have cell_cu := cu_23.cell
    have froz_cu := cu_23.frozen
    have lt_cu := cu_23.lt
    have cell_r := r_23.cell
    have froz_r := r_23.frozen
    have lt_r := r_23.lt
    have cell_z := z_23.cell
    have froz_z := z_23.frozen
    have lt_z := z_23.lt
    go_wp2_with fail
    refine calls_forget0 (W := w23) ?_ ?_
    (focus (exact belBy))
    intro X24 hX24
    have sX24 := hX24.size
    refine (below_any 2 _ _ _ _ _ (by omega) (by omega) (show Cur _ _ _ _ _ from ⟨_, _, Blk.past hX24 cu_23, cu_i0, cu_i1⟩) ⟨cells_below bc_23 hX24 (by omega), bc_s.out, bc_l.out⟩).mono ?_
    clear cu_i0 cu_i1
    rintro e w24 ⟨y, rfl, y0, y1, ⟨i_24, h_24, cu_24, cu_i0, cu_i1⟩, hY24⟩
    have s24 := hY24.size
    have b_24 := below0_touch hY24 (b_23.trans (hX24.mono (by omega)))
    have T_24 := (T_23.trans (Touch.of_below hX24)).trans hY24
    have bc_24 := cells_touch hY24 (cells_below bc_23 hX24 (by omega)) (by omega) (by first | (simp; done) | (simp; omega))
    have r_24 := Blk.touch hY24 (Blk.past hX24 r_23) (by first | (simp; done) | (simp; omega))
    have z_24 := Blk.touch hY24 (Blk.past hX24 z_23) (by first | (simp; done) | (simp; omega))
    clear T_23 bc_23 cu_23 r_23 z_23 b_23 cell_cu froz_cu lt_cu cell_r froz_r lt_r cell_z froz_z lt_z hX24 hY24
    have cell_cu := cu_24.cell
    have froz_cu := cu_24.frozen
    have lt_cu := cu_24.lt
    have cell_r := r_24.cell
    have froz_r := r_24.frozen
    have lt_r := r_24.lt
    have cell_z := z_24.cell
    have froz_z := z_24.frozen
    have lt_z := z_24.lt
    have HY := hid (show 0 ≤ y ∧ y ≤ 3 by omega)
    go_wp2_with fail
    refine calls_touch1 (w0 := w24) (L := [w4.heap.size]) (b0 := w4.heap.size) (t0 := 45) (c0 := #[.int .i64 2, .int .i64 d, .int .i64 x, .int .i64 f, .int .i64 g, .int .i64 y]) ?_ ?_ ?_
    (focus exact blkcBy)
    (focus (exact tchBy))
    intro w25 z_25 hX25
    have sX25 := hX25.size
    have b_25 := below0_touch hX25 b_24
    have T_25 := T_24.trans_new hX25 (by first | (simp; done) | (simp; omega))
    have bc_25 := cells_touch hX25 bc_24 (by omega) (by first | (simp; done) | (simp; omega))
    have cu_25 := Blk.touch hX25 cu_24 (by first | (simp; done) | (simp; omega))
    have r_25 := Blk.touch hX25 r_24 (by first | (simp; done) | (simp; omega))
    clear T_24 bc_24 cu_24 r_24 z_24 b_24 cell_cu froz_cu lt_cu cell_r froz_r lt_r cell_z froz_z lt_z hX25
    have cell_cu := cu_25.cell
    have froz_cu := cu_25.frozen
    have lt_cu := cu_25.lt
    have cell_r := r_25.cell
    have froz_r := r_25.frozen
    have lt_r := r_25.lt
    have cell_z := z_25.cell
    have froz_z := z_25.frozen
    have lt_z := z_25.lt
    go_wp2_with fail
    refine calls_forget0 (W := w25) ?_ ?_
    (focus (exact belBy))
    intro X26 hX26
    have sX26 := hX26.size
    refine (plain2 _ _ _ _ _ _).mono ?_
    rintro e w26 ⟨rfl, hb26⟩
    have s26 := hb26.size
    have hT26 := hX26.trans (hb26.mono sX26)
    have b_26 := b_25.trans (hT26.mono (by omega))
    have T_26 := T_25.trans (Touch.of_below hT26)
    have bc_26 := cells_below bc_25 hT26 (by omega)
    have cu_26 := Blk.past hT26 cu_25
    have r_26 := Blk.past hT26 r_25
    have z_26 := Blk.past hT26 z_25
    clear T_25 bc_25 cu_25 r_25 z_25 b_25 cell_cu froz_cu lt_cu cell_r froz_r lt_r cell_z froz_z lt_z hX26 hT26 hb26
    have cell_cu := cu_26.cell
    have froz_cu := cu_26.frozen
    have lt_cu := cu_26.lt
    have cell_r := r_26.cell
    have froz_r := r_26.frozen
    have lt_r := r_26.lt
    have cell_z := z_26.cell
    have froz_z := z_26.frozen
    have lt_z := z_26.lt
    go_wp2_with fail
    ((try simp only [Exit.inBlock, Exit.then]); apply bodyPost_ret0; focus ((try simp only [results, Try.results83]); (try go_simp); (try rfl)))
    refine ⟨⟨2, d, x, 0, 0, y⟩, pl2 HD.out HX.out HY.out, rfl, ?_, ?_⟩
    · exact Cur.touch (L := [w.heap.size]) ⟨_, _, cu_26, cu_i0, cu_i1⟩ (by exact tchBy) (by simp; omega)
    · exact T_26.trans_new (M := [w.heap.size]) (by exact tchBy) (by simp)
  · skip
    have b_20 := (Below.refl 0 w5)
    have s_20 := b_20.size
    have T_20 := T_5
    have bc_20 := bc_5
    clear bc_5
    have cu_20 := cu_5
    clear cu_5
    have cu_lt := cu_20.lt
    have cell_cu := cu_20.cell
    have froz_cu := cu_20.frozen
    have lt_cu := cu_20.lt
    have r_20 := r_5
    clear r_5
    have r_lt := r_20.lt
    have cell_r := r_20.cell
    have froz_r := r_20.frozen
    have lt_r := r_20.lt
    have z_20 := z_5
    clear z_5
    have z_lt := z_20.lt
    have cell_z := z_20.cell
    have froz_z := z_20.frozen
    have lt_z := z_20.lt
    go_wp2_with fail
    refine calls_touch1 (w0 := w5) (L := [w4.heap.size]) (b0 := w4.heap.size) (t0 := 45) (c0 := #[.int .i64 2, .int .i64 d, .int .i64 a, .int .i64 f, .int .i64 g, .int .i64 0]) ?_ ?_ ?_
    (focus exact blkcBy)
    (focus (exact tchBy))
    intro w21 z_21 hX21
    have sX21 := hX21.size
    have b_21 := below0_touch hX21 b_20
    have T_21 := T_20.trans_new hX21 (by first | (simp; done) | (simp; omega))
    have bc_21 := cells_touch hX21 bc_20 (by omega) (by first | (simp; done) | (simp; omega))
    have cu_21 := Blk.touch hX21 cu_20 (by first | (simp; done) | (simp; omega))
    have r_21 := Blk.touch hX21 r_20 (by first | (simp; done) | (simp; omega))
    clear T_20 bc_20 cu_20 r_20 z_20 b_20 cell_cu froz_cu lt_cu cell_r froz_r lt_r cell_z froz_z lt_z hX21
    have cell_cu := cu_21.cell
    have froz_cu := cu_21.frozen
    have lt_cu := cu_21.lt
    have cell_r := r_21.cell
    have froz_r := r_21.frozen
    have lt_r := r_21.lt
    have cell_z := z_21.cell
    have froz_z := z_21.frozen
    have lt_z := z_21.lt
    go_wp2_with fail
    refine calls_forget0 (W := w21) ?_ ?_
    (focus (exact belBy))
    intro X22 hX22
    have sX22 := hX22.size
    refine (below_any 3 _ _ _ _ _ (by omega) (by omega) (show Cur _ _ _ _ _ from ⟨_, _, Blk.past hX22 cu_21, cu_i0, cu_i1⟩) ⟨cells_below bc_21 hX22 (by omega), bc_s.out, bc_l.out⟩).mono ?_
    clear cu_i0 cu_i1
    rintro e w22 ⟨x, rfl, x0, x1, ⟨i_22, h_22, cu_22, cu_i0, cu_i1⟩, hY22⟩
    have s22 := hY22.size
    have b_22 := below0_touch hY22 (b_21.trans (hX22.mono (by omega)))
    have T_22 := (T_21.trans (Touch.of_below hX22)).trans hY22
    have bc_22 := cells_touch hY22 (cells_below bc_21 hX22 (by omega)) (by omega) (by first | (simp; done) | (simp; omega))
    have r_22 := Blk.touch hY22 (Blk.past hX22 r_21) (by first | (simp; done) | (simp; omega))
    have z_22 := Blk.touch hY22 (Blk.past hX22 z_21) (by first | (simp; done) | (simp; omega))
    clear T_21 bc_21 cu_21 r_21 z_21 b_21 cell_cu froz_cu lt_cu cell_r froz_r lt_r cell_z froz_z lt_z hX22 hY22
    have cell_cu := cu_22.cell
    have froz_cu := cu_22.frozen
    have lt_cu := cu_22.lt
    have cell_r := r_22.cell
    have froz_r := r_22.frozen
    have lt_r := r_22.lt
    have cell_z := z_22.cell
    have froz_z := z_22.frozen
    have lt_z := z_22.lt
    have HX := hid (show 0 ≤ x ∧ x ≤ 4 by omega)
    go_wp2_with fail
    refine calls_touch1 (w0 := w22) (L := [w4.heap.size]) (b0 := w4.heap.size) (t0 := 45) (c0 := #[.int .i64 2, .int .i64 d, .int .i64 x, .int .i64 f, .int .i64 g, .int .i64 0]) ?_ ?_ ?_
    (focus exact blkcBy)
    (focus (exact tchBy))
    intro w23 z_23 hX23
    have sX23 := hX23.size
    have b_23 := below0_touch hX23 b_22
    have T_23 := T_22.trans_new hX23 (by first | (simp; done) | (simp; omega))
    have bc_23 := cells_touch hX23 bc_22 (by omega) (by first | (simp; done) | (simp; omega))
    have cu_23 := Blk.touch hX23 cu_22 (by first | (simp; done) | (simp; omega))
    have r_23 := Blk.touch hX23 r_22 (by first | (simp; done) | (simp; omega))
    clear T_22 bc_22 cu_22 r_22 z_22 b_22 cell_cu froz_cu lt_cu cell_r froz_r lt_r cell_z froz_z lt_z hX23
    have cell_cu := cu_23.cell
    have froz_cu := cu_23.frozen
    have lt_cu := cu_23.lt
    have cell_r := r_23.cell
    have froz_r := r_23.frozen
    have lt_r := r_23.lt
    have cell_z := z_23.cell
    have froz_z := z_23.frozen
    have lt_z := z_23.lt
    go_wp2_with fail
    refine calls_forget0 (W := w23) ?_ ?_
    (focus (exact belBy))
    intro X24 hX24
    have sX24 := hX24.size
    refine (below_any 2 _ _ _ _ _ (by omega) (by omega) (show Cur _ _ _ _ _ from ⟨_, _, Blk.past hX24 cu_23, cu_i0, cu_i1⟩) ⟨cells_below bc_23 hX24 (by omega), bc_s.out, bc_l.out⟩).mono ?_
    clear cu_i0 cu_i1
    rintro e w24 ⟨y, rfl, y0, y1, ⟨i_24, h_24, cu_24, cu_i0, cu_i1⟩, hY24⟩
    have s24 := hY24.size
    have b_24 := below0_touch hY24 (b_23.trans (hX24.mono (by omega)))
    have T_24 := (T_23.trans (Touch.of_below hX24)).trans hY24
    have bc_24 := cells_touch hY24 (cells_below bc_23 hX24 (by omega)) (by omega) (by first | (simp; done) | (simp; omega))
    have r_24 := Blk.touch hY24 (Blk.past hX24 r_23) (by first | (simp; done) | (simp; omega))
    have z_24 := Blk.touch hY24 (Blk.past hX24 z_23) (by first | (simp; done) | (simp; omega))
    clear T_23 bc_23 cu_23 r_23 z_23 b_23 cell_cu froz_cu lt_cu cell_r froz_r lt_r cell_z froz_z lt_z hX24 hY24
    have cell_cu := cu_24.cell
    have froz_cu := cu_24.frozen
    have lt_cu := cu_24.lt
    have cell_r := r_24.cell
    have froz_r := r_24.frozen
    have lt_r := r_24.lt
    have cell_z := z_24.cell
    have froz_z := z_24.frozen
    have lt_z := z_24.lt
    have HY := hid (show 0 ≤ y ∧ y ≤ 3 by omega)
    go_wp2_with fail
    refine calls_touch1 (w0 := w24) (L := [w4.heap.size]) (b0 := w4.heap.size) (t0 := 45) (c0 := #[.int .i64 2, .int .i64 d, .int .i64 x, .int .i64 f, .int .i64 g, .int .i64 y]) ?_ ?_ ?_
    (focus exact blkcBy)
    (focus (exact tchBy))
    intro w25 z_25 hX25
    have sX25 := hX25.size
    have b_25 := below0_touch hX25 b_24
    have T_25 := T_24.trans_new hX25 (by first | (simp; done) | (simp; omega))
    have bc_25 := cells_touch hX25 bc_24 (by omega) (by first | (simp; done) | (simp; omega))
    have cu_25 := Blk.touch hX25 cu_24 (by first | (simp; done) | (simp; omega))
    have r_25 := Blk.touch hX25 r_24 (by first | (simp; done) | (simp; omega))
    clear T_24 bc_24 cu_24 r_24 z_24 b_24 cell_cu froz_cu lt_cu cell_r froz_r lt_r cell_z froz_z lt_z hX25
    have cell_cu := cu_25.cell
    have froz_cu := cu_25.frozen
    have lt_cu := cu_25.lt
    have cell_r := r_25.cell
    have froz_r := r_25.frozen
    have lt_r := r_25.lt
    have cell_z := z_25.cell
    have froz_z := z_25.frozen
    have lt_z := z_25.lt
    go_wp2_with fail
    refine calls_forget0 (W := w25) ?_ ?_
    (focus (exact belBy))
    intro X26 hX26
    have sX26 := hX26.size
    refine (plain2 _ _ _ _ _ _).mono ?_
    rintro e w26 ⟨rfl, hb26⟩
    have s26 := hb26.size
    have hT26 := hX26.trans (hb26.mono sX26)
    have b_26 := b_25.trans (hT26.mono (by omega))
    have T_26 := T_25.trans (Touch.of_below hT26)
    have bc_26 := cells_below bc_25 hT26 (by omega)
    have cu_26 := Blk.past hT26 cu_25
    have r_26 := Blk.past hT26 r_25
    have z_26 := Blk.past hT26 z_25
    clear T_25 bc_25 cu_25 r_25 z_25 b_25 cell_cu froz_cu lt_cu cell_r froz_r lt_r cell_z froz_z lt_z hX26 hT26 hb26
    have cell_cu := cu_26.cell
    have froz_cu := cu_26.frozen
    have lt_cu := cu_26.lt
    have cell_r := r_26.cell
    have froz_r := r_26.frozen
    have lt_r := r_26.lt
    have cell_z := z_26.cell
    have froz_z := z_26.frozen
    have lt_z := z_26.lt
    go_wp2_with fail
    ((try simp only [Exit.inBlock, Exit.then]); apply bodyPost_ret0; focus ((try simp only [results, Try.results83]); (try go_simp); (try rfl)))
    refine ⟨⟨2, d, x, 0, 0, y⟩, pl2 HD.out HX.out HY.out, rfl, ?_, ?_⟩
    · exact Cur.touch (L := [w.heap.size]) ⟨_, _, cu_26, cu_i0, cu_i1⟩ (by exact tchBy) (by simp; omega)
    · exact T_26.trans_new (M := [w.heap.size]) (by exact tchBy) (by simp)
  · skip
    have b_20 := (Below.refl 0 w5)
    have s_20 := b_20.size
    have T_20 := T_5
    have bc_20 := bc_5
    clear bc_5
    have cu_20 := cu_5
    clear cu_5
    have cu_lt := cu_20.lt
    have cell_cu := cu_20.cell
    have froz_cu := cu_20.frozen
    have lt_cu := cu_20.lt
    have r_20 := r_5
    clear r_5
    have r_lt := r_20.lt
    have cell_r := r_20.cell
    have froz_r := r_20.frozen
    have lt_r := r_20.lt
    have z_20 := z_5
    clear z_5
    have z_lt := z_20.lt
    have cell_z := z_20.cell
    have froz_z := z_20.frozen
    have lt_z := z_20.lt
    go_wp2_with fail
    refine calls_touch1 (w0 := w5) (L := [w4.heap.size]) (b0 := w4.heap.size) (t0 := 45) (c0 := #[.int .i64 10, .int .i64 d, .int .i64 a, .int .i64 f, .int .i64 g, .int .i64 0]) ?_ ?_ ?_
    (focus exact blkcBy)
    (focus (exact tchBy))
    intro w21 z_21 hX21
    have sX21 := hX21.size
    have b_21 := below0_touch hX21 b_20
    have T_21 := T_20.trans_new hX21 (by first | (simp; done) | (simp; omega))
    have bc_21 := cells_touch hX21 bc_20 (by omega) (by first | (simp; done) | (simp; omega))
    have cu_21 := Blk.touch hX21 cu_20 (by first | (simp; done) | (simp; omega))
    have r_21 := Blk.touch hX21 r_20 (by first | (simp; done) | (simp; omega))
    clear T_20 bc_20 cu_20 r_20 z_20 b_20 cell_cu froz_cu lt_cu cell_r froz_r lt_r cell_z froz_z lt_z hX21
    have cell_cu := cu_21.cell
    have froz_cu := cu_21.frozen
    have lt_cu := cu_21.lt
    have cell_r := r_21.cell
    have froz_r := r_21.frozen
    have lt_r := r_21.lt
    have cell_z := z_21.cell
    have froz_z := z_21.frozen
    have lt_z := z_21.lt
    go_wp2_with fail
    refine calls_forget0 (W := w21) ?_ ?_
    (focus (exact belBy))
    intro X22 hX22
    have sX22 := hX22.size
    refine (plain10 _ _ _ _ _ _).mono ?_
    rintro e w22 ⟨rfl, hb22⟩
    have s22 := hb22.size
    have hT22 := hX22.trans (hb22.mono sX22)
    have b_22 := b_21.trans (hT22.mono (by omega))
    have T_22 := T_21.trans (Touch.of_below hT22)
    have bc_22 := cells_below bc_21 hT22 (by omega)
    have cu_22 := Blk.past hT22 cu_21
    have r_22 := Blk.past hT22 r_21
    have z_22 := Blk.past hT22 z_21
    clear T_21 bc_21 cu_21 r_21 z_21 b_21 cell_cu froz_cu lt_cu cell_r froz_r lt_r cell_z froz_z lt_z hX22 hT22 hb22
    have cell_cu := cu_22.cell
    have froz_cu := cu_22.frozen
    have lt_cu := cu_22.lt
    have cell_r := r_22.cell
    have froz_r := r_22.frozen
    have lt_r := r_22.lt
    have cell_z := z_22.cell
    have froz_z := z_22.frozen
    have lt_z := z_22.lt
    go_wp2_with fail
    ((try simp only [Exit.inBlock, Exit.then]); apply bodyPost_ret0; focus ((try simp only [results, Try.results83]); (try go_simp); (try rfl)))
    refine ⟨⟨10, d, a, f, g, 0⟩, pl10 HD.out HA.out HF.out HG.out, rfl, ?_, ?_⟩
    · exact Cur.touch (L := [w.heap.size]) ⟨_, _, cu_22, cu_i0, cu_i1⟩ (by exact tchBy) (by simp; omega)
    · exact T_22.trans_new (M := [w.heap.size]) (by exact tchBy) (by simp)
  · skip
    have b_20 := (Below.refl 0 w5)
    have s_20 := b_20.size
    have T_20 := T_5
    have bc_20 := bc_5
    clear bc_5
    have cu_20 := cu_5
    clear cu_5
    have cu_lt := cu_20.lt
    have cell_cu := cu_20.cell
    have froz_cu := cu_20.frozen
    have lt_cu := cu_20.lt
    have r_20 := r_5
    clear r_5
    have r_lt := r_20.lt
    have cell_r := r_20.cell
    have froz_r := r_20.frozen
    have lt_r := r_20.lt
    have z_20 := z_5
    clear z_5
    have z_lt := z_20.lt
    have cell_z := z_20.cell
    have froz_z := z_20.frozen
    have lt_z := z_20.lt
    go_wp2_with fail
    refine calls_touch1 (w0 := w5) (L := [w4.heap.size]) (b0 := w4.heap.size) (t0 := 45) (c0 := #[.int .i64 11, .int .i64 d, .int .i64 a, .int .i64 f, .int .i64 g, .int .i64 0]) ?_ ?_ ?_
    (focus exact blkcBy)
    (focus (exact tchBy))
    intro w21 z_21 hX21
    have sX21 := hX21.size
    have b_21 := below0_touch hX21 b_20
    have T_21 := T_20.trans_new hX21 (by first | (simp; done) | (simp; omega))
    have bc_21 := cells_touch hX21 bc_20 (by omega) (by first | (simp; done) | (simp; omega))
    have cu_21 := Blk.touch hX21 cu_20 (by first | (simp; done) | (simp; omega))
    have r_21 := Blk.touch hX21 r_20 (by first | (simp; done) | (simp; omega))
    clear T_20 bc_20 cu_20 r_20 z_20 b_20 cell_cu froz_cu lt_cu cell_r froz_r lt_r cell_z froz_z lt_z hX21
    have cell_cu := cu_21.cell
    have froz_cu := cu_21.frozen
    have lt_cu := cu_21.lt
    have cell_r := r_21.cell
    have froz_r := r_21.frozen
    have lt_r := r_21.lt
    have cell_z := z_21.cell
    have froz_z := z_21.frozen
    have lt_z := z_21.lt
    go_wp2_with fail
    refine calls_forget0 (W := w21) ?_ ?_
    (focus (exact belBy))
    intro X22 hX22
    have sX22 := hX22.size
    refine (plain11 _ _ _ _ _ _).mono ?_
    rintro e w22 ⟨rfl, hb22⟩
    have s22 := hb22.size
    have hT22 := hX22.trans (hb22.mono sX22)
    have b_22 := b_21.trans (hT22.mono (by omega))
    have T_22 := T_21.trans (Touch.of_below hT22)
    have bc_22 := cells_below bc_21 hT22 (by omega)
    have cu_22 := Blk.past hT22 cu_21
    have r_22 := Blk.past hT22 r_21
    have z_22 := Blk.past hT22 z_21
    clear T_21 bc_21 cu_21 r_21 z_21 b_21 cell_cu froz_cu lt_cu cell_r froz_r lt_r cell_z froz_z lt_z hX22 hT22 hb22
    have cell_cu := cu_22.cell
    have froz_cu := cu_22.frozen
    have lt_cu := cu_22.lt
    have cell_r := r_22.cell
    have froz_r := r_22.frozen
    have lt_r := r_22.lt
    have cell_z := z_22.cell
    have froz_z := z_22.frozen
    have lt_z := z_22.lt
    go_wp2_with fail
    ((try simp only [Exit.inBlock, Exit.then]); apply bodyPost_ret0; focus ((try simp only [results, Try.results83]); (try go_simp); (try rfl)))
    refine ⟨⟨11, 0, a, 0, 0, 0⟩, pl11 HA.out, rfl, ?_, ?_⟩
    · exact Cur.touch (L := [w.heap.size]) ⟨_, _, cu_22, cu_i0, cu_i1⟩ (by exact tchBy) (by simp; omega)
    · exact T_22.trans_new (M := [w.heap.size]) (by exact tchBy) (by simp)
  · skip
    have b_20 := (Below.refl 0 w5)
    have s_20 := b_20.size
    have T_20 := T_5
    have bc_20 := bc_5
    clear bc_5
    have cu_20 := cu_5
    clear cu_5
    have cu_lt := cu_20.lt
    have cell_cu := cu_20.cell
    have froz_cu := cu_20.frozen
    have lt_cu := cu_20.lt
    have r_20 := r_5
    clear r_5
    have r_lt := r_20.lt
    have cell_r := r_20.cell
    have froz_r := r_20.frozen
    have lt_r := r_20.lt
    have z_20 := z_5
    clear z_5
    have z_lt := z_20.lt
    have cell_z := z_20.cell
    have froz_z := z_20.frozen
    have lt_z := z_20.lt
    go_wp2_with fail
    refine calls_touch1 (w0 := w5) (L := [w4.heap.size]) (b0 := w4.heap.size) (t0 := 45) (c0 := #[.int .i64 11, .int .i64 d, .int .i64 a, .int .i64 f, .int .i64 g, .int .i64 0]) ?_ ?_ ?_
    (focus exact blkcBy)
    (focus (exact tchBy))
    intro w21 z_21 hX21
    have sX21 := hX21.size
    have b_21 := below0_touch hX21 b_20
    have T_21 := T_20.trans_new hX21 (by first | (simp; done) | (simp; omega))
    have bc_21 := cells_touch hX21 bc_20 (by omega) (by first | (simp; done) | (simp; omega))
    have cu_21 := Blk.touch hX21 cu_20 (by first | (simp; done) | (simp; omega))
    have r_21 := Blk.touch hX21 r_20 (by first | (simp; done) | (simp; omega))
    clear T_20 bc_20 cu_20 r_20 z_20 b_20 cell_cu froz_cu lt_cu cell_r froz_r lt_r cell_z froz_z lt_z hX21
    have cell_cu := cu_21.cell
    have froz_cu := cu_21.frozen
    have lt_cu := cu_21.lt
    have cell_r := r_21.cell
    have froz_r := r_21.frozen
    have lt_r := r_21.lt
    have cell_z := z_21.cell
    have froz_z := z_21.frozen
    have lt_z := z_21.lt
    go_wp2_with fail
    refine calls_forget0 (W := w21) ?_ ?_
    (focus (exact belBy))
    intro X22 hX22
    have sX22 := hX22.size
    refine (plain11 _ _ _ _ _ _).mono ?_
    rintro e w22 ⟨rfl, hb22⟩
    have s22 := hb22.size
    have hT22 := hX22.trans (hb22.mono sX22)
    have b_22 := b_21.trans (hT22.mono (by omega))
    have T_22 := T_21.trans (Touch.of_below hT22)
    have bc_22 := cells_below bc_21 hT22 (by omega)
    have cu_22 := Blk.past hT22 cu_21
    have r_22 := Blk.past hT22 r_21
    have z_22 := Blk.past hT22 z_21
    clear T_21 bc_21 cu_21 r_21 z_21 b_21 cell_cu froz_cu lt_cu cell_r froz_r lt_r cell_z froz_z lt_z hX22 hT22 hb22
    have cell_cu := cu_22.cell
    have froz_cu := cu_22.frozen
    have lt_cu := cu_22.lt
    have cell_r := r_22.cell
    have froz_r := r_22.frozen
    have lt_r := r_22.lt
    have cell_z := z_22.cell
    have froz_z := z_22.frozen
    have lt_z := z_22.lt
    go_wp2_with fail
    ((try simp only [Exit.inBlock, Exit.then]); apply bodyPost_ret0; focus ((try simp only [results, Try.results83]); (try go_simp); (try rfl)))
    refine ⟨⟨11, 0, a, 0, 0, 0⟩, pl11 HA.out, rfl, ?_, ?_⟩
    · exact Cur.touch (L := [w.heap.size]) ⟨_, _, cu_22, cu_i0, cu_i1⟩ (by exact tchBy) (by simp; omega)
    · exact T_22.trans_new (M := [w.heap.size]) (by exact tchBy) (by simp)
  · skip
    have t0 : (q == 0) = false := by simp; omega
    have t1 : (q == 1) = false := by simp; omega
    have t2 : (q == 2) = false := by simp; omega
    have t3 : (q == 3) = false := by simp; omega
    have t4 : (q == 4) = false := by simp; omega
    have t5 : (q == 5) = false := by simp; omega
    have t6 : (q == 6) = false := by simp; omega
    have HK := hid q0
    have b_20 := (Below.refl 0 w5)
    have s_20 := b_20.size
    have T_20 := T_5
    have bc_20 := bc_5
    clear bc_5
    have cu_20 := cu_5
    clear cu_5
    have cu_lt := cu_20.lt
    have cell_cu := cu_20.cell
    have froz_cu := cu_20.frozen
    have lt_cu := cu_20.lt
    have r_20 := r_5
    clear r_5
    have r_lt := r_20.lt
    have cell_r := r_20.cell
    have froz_r := r_20.frozen
    have lt_r := r_20.lt
    have z_20 := z_5
    clear z_5
    have z_lt := z_20.lt
    have cell_z := z_20.cell
    have froz_z := z_20.frozen
    have lt_z := z_20.lt
    go_wp2_with fail
    refine calls_forget0 (W := w5) ?_ ?_
    (focus (exact belBy))
    intro X21 hX21
    have sX21 := hX21.size
    refine (below_any 7 _ _ _ _ _ (by omega) (by omega) (show Cur _ _ _ _ _ from ⟨_, _, Blk.past hX21 cu_20, cu_i0, cu_i1⟩) ⟨cells_below bc_20 hX21 (by omega), bc_s.out, bc_l.out⟩).mono ?_
    clear cu_i0 cu_i1
    rintro e w21 ⟨x, rfl, x0, x1, ⟨i_21, h_21, cu_21, cu_i0, cu_i1⟩, hY21⟩
    have s21 := hY21.size
    have b_21 := below0_touch hY21 (b_20.trans (hX21.mono (by omega)))
    have T_21 := (T_20.trans (Touch.of_below hX21)).trans hY21
    have bc_21 := cells_touch hY21 (cells_below bc_20 hX21 (by omega)) (by omega) (by first | (simp; done) | (simp; omega))
    have r_21 := Blk.touch hY21 (Blk.past hX21 r_20) (by first | (simp; done) | (simp; omega))
    have z_21 := Blk.touch hY21 (Blk.past hX21 z_20) (by first | (simp; done) | (simp; omega))
    clear T_20 bc_20 cu_20 r_20 z_20 b_20 cell_cu froz_cu lt_cu cell_r froz_r lt_r cell_z froz_z lt_z hX21 hY21
    have cell_cu := cu_21.cell
    have froz_cu := cu_21.frozen
    have lt_cu := cu_21.lt
    have cell_r := r_21.cell
    have froz_r := r_21.frozen
    have lt_r := r_21.lt
    have cell_z := z_21.cell
    have froz_z := z_21.frozen
    have lt_z := z_21.lt
    have HX : IntKind.i64.wrap (3 + x) = 3 + x := IntWalk.i64_in _ (by omega)
    have H39 := hid (show 3 ≤ 3 + x ∧ 3 + x ≤ 9 by omega)
    go_wp2_with fail
    refine calls_touch1 (w0 := w21) (L := [w4.heap.size]) (b0 := w4.heap.size) (t0 := 45) (c0 := #[.int .i64 (3 + x), .int .i64 d, .int .i64 a, .int .i64 f, .int .i64 g, .int .i64 0]) ?_ ?_ ?_
    (focus exact blkcBy)
    (focus (exact tchBy))
    intro w22 z_22 hX22
    have sX22 := hX22.size
    have b_22 := below0_touch hX22 b_21
    have T_22 := T_21.trans_new hX22 (by first | (simp; done) | (simp; omega))
    have bc_22 := cells_touch hX22 bc_21 (by omega) (by first | (simp; done) | (simp; omega))
    have cu_22 := Blk.touch hX22 cu_21 (by first | (simp; done) | (simp; omega))
    have r_22 := Blk.touch hX22 r_21 (by first | (simp; done) | (simp; omega))
    clear T_21 bc_21 cu_21 r_21 z_21 b_21 cell_cu froz_cu lt_cu cell_r froz_r lt_r cell_z froz_z lt_z hX22
    have cell_cu := cu_22.cell
    have froz_cu := cu_22.frozen
    have lt_cu := cu_22.lt
    have cell_r := r_22.cell
    have froz_r := r_22.frozen
    have lt_r := r_22.lt
    have cell_z := z_22.cell
    have froz_z := z_22.frozen
    have lt_z := z_22.lt
    go_wp2_with fail
    refine calls_forget0 (W := w22) ?_ ?_
    (focus (exact belBy))
    intro X23 hX23
    have sX23 := hX23.size
    refine (plain3 _ _ _ _ _ _ _ H39.out).mono ?_
    rintro e w23 ⟨rfl, hb23⟩
    have s23 := hb23.size
    have hT23 := hX23.trans (hb23.mono sX23)
    have b_23 := b_22.trans (hT23.mono (by omega))
    have T_23 := T_22.trans (Touch.of_below hT23)
    have bc_23 := cells_below bc_22 hT23 (by omega)
    have cu_23 := Blk.past hT23 cu_22
    have r_23 := Blk.past hT23 r_22
    have z_23 := Blk.past hT23 z_22
    clear T_22 bc_22 cu_22 r_22 z_22 b_22 cell_cu froz_cu lt_cu cell_r froz_r lt_r cell_z froz_z lt_z hX23 hT23 hb23
    have cell_cu := cu_23.cell
    have froz_cu := cu_23.frozen
    have lt_cu := cu_23.lt
    have cell_r := r_23.cell
    have froz_r := r_23.frozen
    have lt_r := r_23.lt
    have cell_z := z_23.cell
    have froz_z := z_23.frozen
    have lt_z := z_23.lt
    go_wp2_with fail
    ((try simp only [Exit.inBlock, Exit.then]); apply bodyPost_ret0; focus ((try simp only [results, Try.results83]); (try go_simp); (try rfl)))
    refine ⟨⟨3 + x, d, a, f, 0, 0⟩, pl3 H39.out HD.out HA.out HF.out, rfl, ?_, ?_⟩
    · exact Cur.touch (L := [w.heap.size]) ⟨_, _, cu_23, cu_i0, cu_i1⟩ (by exact tchBy) (by simp; omega)
    · exact T_23.trans_new (M := [w.heap.size]) (by exact tchBy) (by simp)
end Go.Proofs.Ytihbaieiempjeaa
/- append of numbers that are all nothing: append(s, make([]int, n)...). -/
namespace Go.Proofs.Ytihbaieiempjeaa
open Go.RowKit

theorem zeros_one {cs : Array Value} (h : ∀ v ∈ cs, v.oneCell' = true) : ∀ u ∈ cs.toList, u.oneCell' = true := fun u hu => h u (by simpa using hu)
theorem grown_setCells (b : Nat) : ∀ (vs : List Value) (o : Nat) (w : World), w.grownBy (w.setCells b o vs) (some b)
  | [], _, w => ⟨rfl, rfl, rfl, Nat.le_refl _, fun _ _ _ => rfl⟩
  | v :: r, o, w => by
    have h1 : w.grownBy (w.setCell ⟨b, o, none⟩ v) (some b) := ⟨rfl, rfl, rfl, by simp, fun k _ hne => Below.heap_setCell w ⟨b, o, none⟩ v k (fun e => hne (by rw [e]))⟩
    exact h1.trans (grown_setCells b r (o + 1) _)
theorem run_zeros (w : World) (base : Nat) (ty : TypeId) (n m : Nat) (A : Option Addr) (c : Nat) (xs : List Value) (hown : w.ownsRow base 3 1 (.slice A n c) n xs) (hn : n + m ≤ 100000) (hm : 0 < m) :
    ∃ v' w', (Builtin.append_ #[25, 3] ty #[.slice A n c, .int .i64 (m : Int)]).run Try.prog w = .ok v' w' ∧ w.grownBy w' (Value.slice A n c).ownBlock ∧ ∃ A' c', v' = .slice A' (n + m) c' := by
  obtain ⟨i, hi, hz, hs, hb⟩ := info_parts infoI
  have ht := Try.underlying25
  have hti := Try.underlying3
  have hw : IntKind.i64.wrap (m : Int) = m := IntWalk.i64_in _ (by omega)
  have h0 : ¬ ((m : Int) < 0) := by omega
  have hfit : ¬ (281474976710656 < (m : Int) * 8) := by omega
  have hmz : ¬ (m = 0) := by omega
  have hzc : (Builtin.zeroCells (Value.int IntKind.i64 0).cells m).size = m := by rw [size_zeroCells]; simp [Value.cells]
  have hz1 : ∀ u ∈ (Builtin.zeroCells (Value.int IntKind.i64 0).cells m).toList, u.oneCell' = true := by
    intro u hu
    have hu : u ∈ Builtin.zeroCells (Value.int IntKind.i64 0).cells m := by simpa using hu
    unfold Builtin.zeroCells at hu
    simp [Value.cells] at hu
    obtain ⟨_, _, rfl⟩ := hu
    simp [Nat.mod_one, Value.oneCell']
  by_cases hroom : n + m ≤ c
  · rcases hown.2 with ⟨hv, _⟩ | ⟨g, cap, cur, hv, hbg, hg, hnc, hcm, hcs, htake⟩
    · injection hv with _ e1 e2
      omega
    · injection hv with e1 _ e2
      subst e1 e2
      have hst := run_storeCells_cells (P := Try.prog) g n (Builtin.zeroCells (Value.int IntKind.i64 0).cells m).toList 0 w (fun j hj => by simp at hj; simp [World.cell?, hg]; omega) (fun j hj => by simp [World.frozen?, hg]) hz1
      simp only [Nat.add_zero] at hst
      refine ⟨.slice (some ⟨g, 0, none⟩) (n + m) c, w.setCells g n (Builtin.zeroCells (Value.int IntKind.i64 0).cells m).toList, ?_, ?_, _, _, rfl⟩
      · simp [Builtin.append_, run_underlying ht, run_underlying hti, sizeOf, typeInfo, zeroValue, hi, hz, hs, hb, asInt, asIntOf, hw, h0, hfit, hmz, hroom, Addr.add_lit, hst]
      · exact grown_setCells _ _ _ _
  · have holds : ∃ olds : List Value, (Builtin.firstCells 1 n (.slice A n c)).run Try.prog w.drew = .ok olds.toArray w.drew := by
      rcases hown.2 with ⟨hv, _⟩ | ⟨g, cap, cur, hv, _⟩
      · injection hv with e1 e2 e3
        subst e1 e2 e3
        exact ⟨[], run_firstCells_none w.drew 1 0 0 0⟩
      · injection hv with e1 _ e2
        subst e1 e2
        exact ⟨xs, run_firstCells_some w.drew 1 n ⟨g, 0, none⟩ n c xs hown.1 (by simpa using hown.cells (g := g) rfl)⟩
    obtain ⟨olds, hold⟩ := holds
    have hg63 : ¬ (9223372036854775807 < (n : Int) + (m : Int)) := by omega
    have hnc : ¬ (281474976710656 < Builtin.nextslicecap (n + m) c * 8) := by
      have := growslice_fits (bytes := 8) (show c < n + m by omega) (by omega)
      omega
    refine ⟨.slice (some ⟨w.heap.size, 0, none⟩) (n + m) (grownCap w (n + m) c 3), w.drew.alloc (.cells ((olds.toArray ++ (Builtin.zeroCells (Value.int IntKind.i64 0).cells m)) ++ Builtin.zeroCells (Value.int IntKind.i64 0).cells (grownCap w (n + m) c 3 - (n + m))) 3), ?_, ⟨rfl, rfl, rfl, by simp, fun k hk _ => heap_alloc_old w.drew _ hk⟩, _, _, rfl⟩
    simp [Builtin.append_, run_underlying ht, run_underlying hti, sizeOf, typeInfo, zeroValue, hi, hz, hs, hb, asInt, asIntOf, hw, h0, hfit, hmz, hroom, Question.forced, hold, newRow, grownCap, hg63, hnc]
theorem wpList_zeros {w : World} {ops : Array Oper} {rest : List Oper} {o : Oper} {a : Act} {Q : Exit → Act → World → Prop} (hgd : o.guard = none) (s x : Operand) (ho : o.op = .call { callee := .builtin .append, args := #[s, x], argTypes := #[25, 3] })
    {base n c : Nat} {A : Option Addr} {xs : List Value} (m : Nat) (hs : a.eval s = .slice A n c) (hx : a.eval x = .int .i64 (m : Int)) (hown : w.ownsRow base 3 1 (.slice A n c) n xs) (hn : n + m ≤ 100000) (hm : 0 < m)
    (h : ∀ A' c' w', w.grownBy w' (Value.slice A n c).ownBlock → wpList Try.prog ops Q rest (a.put o.dst (.slice A' (n + m) c')) w') : wpList Try.prog ops Q (o :: rest) a w := by
  refine wpList_plain hgd fun K hK => ?_
  obtain ⟨v', w', hr, h2, A', c', rfl⟩ := run_zeros w base o.type n m A c xs hown hn hm
  unfold Oper.wp execOp
  simp only [ho, resolve, invoke, builtin, Sem.run_bind, Sem.run_pure, Result.andThen_ok, List.map_toArray, List.map_cons, List.map_nil, hs, hx, hr]
  exact hK _ _ (h A' c' w' h2)
end Go.Proofs.Ytihbaieiempjeaa
/- The reference's drawn cases of a garbling. -/
namespace Go.Proofs.Ytihbaieiempjeaa
open Go.RowKit

/- In this text: blkcBy2. -/
set_option linter.unusedVariables false in
set_option maxRecDepth 100000 in
set_option maxHeartbeats 1600000 in
theorem input_any (p : Nat) (A : Option Addr) (c : Nat) (bs : List Int) (w : World) (hc : Cur w p A bs.length c) (hb : Bytes w p A bs) :
    Calls Try.prog 26 #[.pointer (some ⟨p, 0, none⟩)] w fun e w' => ∃ A' n' c', e = .returned (.slice A' n' c') ∧ Cur w' p A bs.length c ∧ Touch [p] w w' := by
  have HB := hid hb
  have HC := hid hc
  have hp := hc.lt
  clear hb hc
  go_enter Try.func26, Try.ntmps26
  go_wp2_with fail
  go_loopw [3, 4] (fun o i wr => ∃ (k : Nat) (xs : List Int) (A' : Option Addr) (c' : Nat), k ≤ 20 ∧ i = .int .i64 k ∧ xs.length = k ∧ o = .slice A' k c' ∧ (∀ x ∈ xs, 0 ≤ x ∧ x < 2) ∧
    wr.ownsRow w.heap.size 3 1 (.slice A' k c') k (ints xs) ∧ Cur wr p A bs.length c ∧ Touch [p] w wr) (fun _ i _ => 20 - (intOf i).toNat)
  case atStart => exact ⟨0, [], some ⟨w.heap.size, 0, none⟩, 0, Nat.zero_le _, rfl, rfl, rfl, by simp, own_lit (size := 1) #[] 0 rfl (Nat.le_refl _) (Nat.zero_le _) rfl, HC.out.alloc _, (Touch.refl _ _).alloc _⟩
  case round =>
    obtain ⟨k, xs, A', c', hk, rfl, hlen, rfl, hsm, hown, hcu, htw⟩ := hrel
    have zw := htw.size
    have HL := hid hlen
    have HS := hid hsm
    have HO := hid hown
    have HU := hid hcu
    have HD := hid htw
    clear hlen hsm hown hcu htw
    by_cases hlt : k < 20
    · have hlt' : (k : Int) < 20 := by omega
      go_wp2_with fail
      refine (below_any 2 _ _ _ _ _ (by omega) (by omega) HU.out (HB.out.touch HD.out (by omega))).mono ?_
      rintro e w2 ⟨r, rfl, hr0, hr1, hc2, hT⟩
      have z2 := hT.size
      have ho2 := own_touch' hT HO.out (fun q hq => by have h1 := own_in HO.out q hq; simp; omega)
      have HO2 := hid ho2
      have HU2 := hid hc2
      have HD2 := hid (HD.out.trans hT)
      clear hc2 hT ho2
      go_wp2_with (at_builtin; refine wpList_appi rfl _ _ 25 rfl w.heap.size 3 (.int .i64 0) 1 8 Try.underlying25 infoInt rfl (by decide) _ k _ rfl (HO2.out.alloc _) ⟨w2.heap.size, 0, none⟩ 1 1 _ rfl rfl (one_new _ _ _) (one_one _) (by omega) (by decide) (by simp; omega) ?_)
      intro A3 c3 w3 ho3 hg3 li3
      have hg := grown_alloc hg3
      have z3 := hg.size
      have hlo : ∀ q, (Value.slice A' k c').ownBlock = some q → w.heap.size ≤ q := fun q hq => (own_in HO2.out q hq).1
      have hc3 := HU2.out.grown hg (fun q hq => by have h1 := hlo q hq; omega)
      have ht3 := HD2.out.grown hg hlo
      rw [← ints_snoc] at ho3
      have HO3 := hid ho3
      have HU3 := hid hc3
      have HD3 := hid ht3
      clear hg hg3 li3 hlo ho3 hc3 ht3
      go_wp2
      go_roundw
      case rel => exact ⟨k + 1, xs ++ [r], A3, c3, by omega, by go_num, by rw [List.length_append, HL.out]; rfl, rfl, mem_snoc HS.out ⟨hr0, hr1⟩, HO3.out, HU3.out, HD3.out⟩
      case measure => simp [intOf]; omega
    · obtain rfl : k = 20 := by omega
      go_wp2_with (at_builtin; refine wpList_zeros rfl _ _ rfl 60 rfl rfl HO.out (by decide) (by decide) ?_)
      intro A3 c3 w3 hg
      have hlo : ∀ q, (Value.slice A' 20 c').ownBlock = some q → w.heap.size ≤ q := fun q hq => (own_in HO.out q hq).1
      have hc3 := HU.out.grown hg (fun q hq => by have h1 := hlo q hq; omega)
      have ht3 := HD.out.grown hg hlo
      have HF := hid (And.intro hc3 ht3)
      clear hg hlo hc3 ht3
      go_wp2
      go_ret
      exact ⟨_, _, _, rfl, HF.out⟩
theorem give_garb {w w6 w7 : World} {b1 n1 n2 : Nat} {v1 v2 : Value} {xs ys : List Value} (h1 : w6.ownsRow b1 TG 3 v1 n1 xs) (h2 : w6.ownsRow b1 3 1 v2 n2 ys) (hb : Below w.heap.size w w6) (hl : w.heap.size + 1 < b1) (ht : Touch [w.heap.size, w.heap.size + 1] w6 w7) :
    w7.ownsRow w.heap.size TG 3 v1 n1 xs ∧ w7.ownsRow w.heap.size 3 1 v2 n2 ys ∧ Below w.heap.size w w7 := by
  refine ⟨own_weak (own_touch' ht h1 (fun q hq => ?_)) (by omega), own_weak (own_touch' ht h2 (fun q hq => ?_)) (by omega), ht.below' hb (fun i hi => ?_) hb.size⟩
  · have := (own_in h1 q hq).1
    simp
    omega
  · have := (own_in h2 q hq).1
    simp
    omega
  · simp at hi
    omega
set_option linter.unusedVariables false in
set_option maxRecDepth 100000 in
set_option maxHeartbeats 1600000 in
theorem garbling_is (A : Option Addr) (c : Nat) (bs : List Int) (w : World) (hb : Bytes w w.heap.size A bs) :
    Calls Try.prog 7 #[.slice A bs.length c] w fun e w' => ∃ (gs : List Gt) (os : List Int) (G : Option Addr) (cg : Nat) (O : Option Addr) (co : Nat) (B : Option Addr) (nb cb : Nat) (s a : Int), (circB gs os = true ∧ gs.length ≤ 24 ∧ os.length ≤ 5) ∧ (tapeOkB s a = true ∧ a ≤ 50) ∧
      e = .returned (.tuple #[.agg #[.slice G gs.length cg, .slice O os.length co], .slice B nb cb, .agg #[.int .i64 s, .int .i64 a]]) ∧ w'.ownsRow w.heap.size TG 3 (.slice G gs.length cg) gs.length (ints (flatG gs)) ∧ w'.ownsRow w.heap.size 3 1 (.slice O os.length co) os.length (ints os) ∧ Below w.heap.size w w' := by
  have HB := hid hb
  clear hb
  go_enter Try.func7, Try.ntmps7
  have b_0 := (Below.refl w.heap.size w)
  have s_0 := b_0.size
  go_upto_region 1 with fail
  refine wp_forget2 (w0 := w) (B := w.heap.size) (b0 := w.heap.size) (t0 := 27) (c0 := #[.slice none 0 0, .slice none 0 0]) (b1 := w.heap.size + 1) (t1 := 29) (c1 := #[.int .i64 0, .int .i64 0]) ?_ ?_ ?_ ?_
  (focus exact blkcBy2)
  (focus exact blkcBy2)
  (focus (exact belBy))
  intro w1 r1_1 r2_1 hX1
  have sX1 := hX1.size
  have r1_lt := r1_1.lt
  have r2_lt := r2_1.lt
  have b_1 := b_0.trans (hX1.mono (by omega))
  clear b_0 hX1
  have cell_r1 := r1_1.cell
  have froz_r1 := r1_1.frozen
  have lt_r1 := r1_1.lt
  have cell_r2 := r2_1.cell
  have froz_r2 := r2_1.frozen
  have lt_r2 := r2_1.lt
  have H1 := hid (And.intro r1_1 (And.intro r2_1 b_1))
  clear r1_1 r2_1 b_1 cell_r1 froz_r1 lt_r1 cell_r2 froz_r2 lt_r2
  go_wp2_with fail
  refine (new_any _ _ _ _ ((HB.out.step H1.out.2.2).more (by omega))).mono ?_
  rintro e w2 ⟨rfl, hc2, hb2⟩
  have s2 := hb2.size
  have z2 := hc2.lt
  have H2 := hid (And.intro (H1.out.1.past hb2) (And.intro (H1.out.2.1.past hb2) (And.intro (H1.out.2.2.trans (hb2.mono (by omega))) hc2)))
  obtain ⟨p, hp⟩ : ∃ p, w1.heap.size = p := ⟨_, rfl⟩
  rw [hp] at H2 z2 ⊢
  have pw : w.heap.size + 1 < p := by omega
  clear hc2 hb2 H1 hp
  go_wp2_with fail
  refine (circuit_is p _ _ _ _ H2.out.2.2.2 ((HB.out.step H2.out.2.2.1).more (by omega))).mono ?_
  rintro e w3 ⟨gs, os, G, cg, O, co, hok, rfl, hg, ho, hc3, hT⟩
  have z3 := hT.size
  have hm : ∀ q, q ≠ p → q ∉ [p] := fun q hq => by simp [hq]
  have HOK := hid hok
  have H3 := hid (And.intro (Blk.touch hT H2.out.1 (hm _ (by omega))) (And.intro (Blk.touch hT H2.out.2.1 (hm _ (by omega))) (And.intro (hT.below H2.out.2.2.1 (by simp; omega)) (And.intro hc3 (And.intro hg ho)))))
  clear hT hg ho hc3 hok H2
  have b_3 := (Below.refl w3.heap.size w3)
  have s_3 := b_3.size
  go_upto_region 3 with fail
  refine wp_forget1 (w0 := w3) (B := w3.heap.size) (b0 := w3.heap.size) (t0 := 27) (c0 := #[.slice G gs.length cg, .slice O os.length co]) ?_ ?_ ?_
  (focus exact blkcBy2)
  (focus (exact belBy))
  intro w4 cb_4 hX4
  have sX4 := hX4.size
  have cb_lt := cb_4.lt
  have b_4 := b_3.trans (hX4.mono (by omega))
  clear b_3 hX4
  have cell_cb := cb_4.cell
  have froz_cb := cb_4.frozen
  have lt_cb := cb_4.lt
  have z4 := b_4.size
  have hc4 := H3.out.2.2.2.1.below b_4
  have H4 := hid (And.intro (H3.out.1.past b_4) (And.intro (H3.out.2.1.past b_4) (And.intro (H3.out.2.2.1.trans (b_4.mono (by omega))) (And.intro hc4 (And.intro (own_below H3.out.2.2.2.2.1 b_4) (And.intro (own_below H3.out.2.2.2.2.2 b_4) cb_4))))))
  clear cb_4 b_4 cell_cb froz_cb lt_cb hc4 H3
  go_wp2_with fail
  refine (input_any p _ _ _ _ H4.out.2.2.2.1 ((HB.out.step H4.out.2.2.1).more (by omega))).mono ?_
  rintro e w5 ⟨B, nb, kb, rfl, hc5, hT⟩
  have z5 := hT.size
  have r1 := Blk.touch hT H4.out.1 (hm _ (by omega))
  have r2 := Blk.touch hT H4.out.2.1 (hm _ (by omega))
  have cb := Blk.touch hT H4.out.2.2.2.2.2.2 (hm _ (by omega))
  have H5 := hid (And.intro r1 (And.intro r2 (And.intro (hT.below H4.out.2.2.1 (by simp; omega)) (And.intro hc5 (And.intro (own_touch' hT H4.out.2.2.2.2.1 (fun q hq => hm q (by have := (own_in H4.out.2.2.2.2.1 q hq).1; omega))) (And.intro (own_touch' hT H4.out.2.2.2.2.2.1 (fun q hq => hm q (by have := (own_in H4.out.2.2.2.2.2.1 q hq).1; omega))) cb))))))
  have cell_cb := cb.cell
  have froz_cb := cb.frozen
  have lt_cb := cb.lt
  have cell_r1 := r1.cell
  have froz_r1 := r1.frozen
  have lt_r1 := r1.lt
  have cell_r2 := r2.cell
  have froz_r2 := r2.frozen
  have lt_r2 := r2.lt
  clear hT hc5 r1 r2 cb H4
  go_upto_region 4 with fail
  go_region_law ((refine step_wanted rfl ?_; unfold Oper.wp; go_simp; refine Calls.mono (tape_any p A c bs _ (H5.out.2.2.2.1.below (by exact belBy)) ((HB.out.step (H5.out.2.2.1.trans (Below.mono (show Below w5.heap.size w5 _ by exact belBy) (by omega)))).more (by omega))) ?_; rintro e w6 ⟨s, a, rfl, ht, hc6, hT6⟩; have HTT := hid ht; have hTT := Touch.trans (Touch.of_below (L := [p]) (show Below w5.heap.size w5 _ by exact belBy)) hT6; have q1 := Blk.touch hTT H5.out.1 (hm _ (by omega)); have q2 := Blk.touch hTT H5.out.2.1 (hm _ (by omega)); have q3 := Blk.touch hTT H5.out.2.2.2.2.2.2 (hm _ (by omega)); have cell_1 := q1.cell; have froz_1 := q1.frozen; have lt_1 := q1.lt; have cell_2 := q2.cell; have froz_2 := q2.frozen; have lt_2 := q2.lt; have cell_3 := q3.cell; have lt_3 := q3.lt; try dsimp only))
  all_goals
    have H6 := hid (And.intro (own_touch' hTT H5.out.2.2.2.2.1 (fun q hq => hm q (by have := (own_in H5.out.2.2.2.2.1 q hq).1; omega))) (And.intro (own_touch' hTT H5.out.2.2.2.2.2.1 (fun q hq => hm q (by have := (own_in H5.out.2.2.2.2.2.1 q hq).1; omega))) (hTT.below H5.out.2.2.1 (by simp; omega))))
    have z6 := hTT.size
    have HQ := hid (And.intro q1 q2)
    clear q1 q2 q3 ht hc6 hT6 hTT cell_r1 froz_r1 lt_r1 cell_r2 froz_r2 lt_r2 cell_cb froz_cb lt_cb
    go_wp2
    ((try simp only [Exit.inBlock, Exit.then]); apply bodyPost_ret0; focus ((try simp only [results, Try.results7]); (try go_simp); (try rfl)))
    exact ⟨gs, os, G, cg, O, co, B, nb, kb, s, a, HOK.out, HTT.out, rfl, give_garb H6.out.1 H6.out.2.1 H6.out.2.2 (by omega) (by exact tchBy)⟩
end Go.Proofs.Ytihbaieiempjeaa
/- The reference's drawn programs, with loops: their statements, whatever they are. -/
namespace Go.Proofs.Ytihbaieiempjeaa
open Go.RowKit

set_option maxRecDepth 100000 in
theorem once_any (n : Int) (p : Nat) (A : Option Addr) (c : Nat) (bs : List Int) (w : World) (hn : 1 ≤ n) (hn2 : n ≤ 1000000000000) (hc : Cur w p A bs.length c) (hb : Bytes w p A bs) :
    Calls Try.prog 95 #[.pointer (some ⟨p, 0, none⟩), .int .i64 n] w fun e w' => ∃ b, e = .returned (.bool b) ∧ Cur w' p A bs.length c ∧ Touch [p] w w' := by
  go_enter Try.func95, Try.ntmps95
  go_wp2_with fail
  refine (below_any _ _ _ _ _ _ hn hn2 hc hb).mono ?_
  rintro e w1 ⟨r, rfl, hr0, hr1, hc1, hT1⟩
  go_wp2
  go_ret
  exact ⟨_, rfl, hc1, hT1⟩
abbrev TSt : Nat := 45
def oneS (s : St) : List Value := [.int .i64 s.o, .int .i64 s.d, .int .i64 s.a, .int .i64 s.b, .int .i64 s.c, .int .i64 s.n]
/-- What a block's loop carries. -/
structure BlkI (w : World) (p n c : Nat) (A : Option Addr) (L : List St) (m : Nat) (A' : Option Addr) (c' : Nat) (wr : World) : Prop where
  l : L.length = m
  o : wr.ownsRow w.heap.size TSt 6 (.slice A' m c') m (ints (flatS L))
  cu : Cur wr p A n c
  t : Touch [p] w wr
section
variable {w : World} {p n c m k : Nat} {A : Option Addr} {L M : List St} {A' A3 : Option Addr} {c' c3 : Nat} {wr X w3 : World}
theorem BlkI.draw (h : BlkI w p n c A L m A' c' wr) (hp : p < w.heap.size) (hT : Touch [p] wr X) (hc : Cur X p A n c) : BlkI w p n c A L m A' c' X :=
  ⟨h.l, own_touch' hT h.o (fun q hq => by have := (own_in h.o q hq).1; simp; omega), hc, h.t.trans hT⟩
theorem BlkI.app (h : BlkI w p n c A L m A' c' wr) (hp : p < w.heap.size) (hM : M.length = k) (h1 : w3.ownsRow w.heap.size TSt 6 (.slice A3 (m + k) c3) (m + k) (ints (flatS L) ++ ints (flatS M))) (hg : wr.grownBy w3 (Value.slice A' m c').ownBlock) : BlkI w p n c A (L ++ M) (m + k) A3 c3 w3 := by
  have hlo : ∀ q, (Value.slice A' m c').ownBlock = some q → w.heap.size ≤ q := fun q hq => (own_in h.o q hq).1
  refine ⟨by rw [List.length_append, h.l, hM], ?_, h.cu.grown hg (fun q hq => by have := hlo q hq; omega), h.t.grown hg hlo⟩
  rw [flatS_append, ints_app]
  exact h1
end
theorem app_st1 {w : World} {ops : Array Oper} {rest : List Oper} {o : Oper} {a : Act} {Q : Exit → Act → World → Prop} (hgd : o.guard = none) (s x : Operand) (ho : o.op = .call { callee := .builtin .append, args := #[s, x], argTypes := #[39, 39] })
    {base n : Nat} {v : Value} {xs : List Value} (hs : a.eval s = v) (hown : w.ownsRow base TSt 6 v n xs) {b m k : Nat} {off : Nat} (M : List St) (hx : a.eval x = .slice (some ⟨b, off, none⟩) m k) (hl : M.length = m)
    (hc : ∀ j u, (ints (flatS M))[j]? = some u → w.cell? ⟨b, off + j, none⟩ = some u) (hb : n + m ≤ 1000000) (hbase : base ≤ w.heap.size)
    (h : ∀ A c w', w'.ownsRow base TSt 6 (.slice A (n + m) c) (n + m) (xs ++ ints (flatS M)) → w.grownBy w' v.ownBlock → wpList Try.prog ops Q rest (a.put o.dst (.slice A (n + m) c)) w') : wpList Try.prog ops Q (o :: rest) a w :=
  wpList_appi hgd s x _ ho base _ _ 6 48 Try.underlying39 infoSt rfl (by decide) v n xs hs hown ⟨b, off, none⟩ m k (ints (flatS M)) hx (by rw [ints_length, flatS_length, hl]) (cells_add hc) (ints_one _) (by omega) (by decide) hbase fun A c w' h1 h2 _ => h A c w' h1 h2
def BlockC (d f : Nat) : Prop := ∀ (n p : Nat) (A : Option Addr) (c : Nat) (bs : List Int) (w : World), n ≤ 8 → Cur w p A bs.length c → Bytes w p A bs →
  Calls Try.prog 63 #[.pointer (some ⟨p, 0, none⟩), .int .i64 (n : Int), .int .i64 (d : Int)] w fun e w' => ∃ (L : List St) (m g c' : Nat), n ≤ m ∧ m ≤ n * f ∧ e = .returned (.slice (some ⟨g, 0, none⟩) m c') ∧ BlkI w p bs.length c A L m (some ⟨g, 0, none⟩) c' w'
set_option linter.unusedVariables false in
set_option maxRecDepth 100000 in
set_option maxHeartbeats 3200000 in
theorem block_step (d f f' : Nat) (hd : d ≤ 2) (hf : f' ≤ 10) (hrec : d < 2 → BlockC (d + 1) f ∧ 2 + 2 * f ≤ f') (h1 : 1 ≤ f') : BlockC d f' := by
  intro n p A c bs w hn hc hb
  have HB := hid hb
  have HC := hid hc
  have HREC := hid hrec
  have hp := hc.lt
  clear hb hc hrec
  go_enter Try.func63, Try.ntmps63
  go_wp2_with fail
  go_loopw [7, 8] (fun o i wr => ∃ (k m : Nat) (L : List St) (A' : Option Addr) (c' : Nat), k ≤ n ∧ i = .int .i64 (k : Int) ∧ o = .slice A' m c' ∧ k ≤ m ∧ m ≤ k * f' ∧ (m = 0 → ∃ g, A' = some ⟨g, 0, none⟩) ∧ BlkI w p bs.length c A L m A' c' wr) (fun _ i _ => n - (intOf i).toNat)
  case atStart => exact ⟨0, 0, [], some ⟨w.heap.size, 0, none⟩, 0, Nat.zero_le _, rfl, rfl, Nat.le_refl _, Nat.zero_le _, (fun _ => ⟨_, rfl⟩), rfl, own_lit (size := 6) #[] 0 rfl (Nat.le_refl _) (Nat.zero_le _) rfl, HC.out.alloc _, (Touch.refl _ _).alloc _⟩
  case round =>
    obtain ⟨k, m, L, A', c', hk, rfl, rfl, hkl, hlf, hz0, hI⟩ := hrel
    have HZ0 := hid hz0
    clear hz0
    have h9 : k * f' ≤ 8 * 10 := Nat.mul_le_mul (by omega) hf
    have hmb : m ≤ 80 := by omega
    clear h9
    have hsm : (k + 1) * f' = k * f' + f' := Nat.succ_mul k f'
    have zw := hI.t.size
    have HI := hid hI
    have HM := hid hsm
    have HLF := hid hlf
    clear hI hsm hlf
    by_cases hlt : k < n
    · have hlt' : (k : Int) < (n : Int) := by omega
      have HST : ∀ w2, BlkI w p bs.length c A L m A' c' w2 → Calls Try.prog 83 #[.pointer (some ⟨p, 0, none⟩)] w2 fun e w' => ∃ s : St, PlainSt s ∧ e = .returned (.agg #[.int .i64 s.o, .int .i64 s.d, .int .i64 s.a, .int .i64 s.b, .int .i64 s.c, .int .i64 s.n]) ∧ Cur w' p A bs.length c ∧ Touch [p] w2 w' := fun w2 h => stmt_is p A c bs w2 h.cu (HB.out.touch h.t (by omega))
      have HST := hid HST
      by_cases hdl : d < 2 ∧ m < 12
      · obtain ⟨g1, g2⟩ := hdl
        have g1' : (d : Int) < 2 := by omega
        have g2' : (m : Int) < 12 := by omega
        go_wp2_with fail
        refine (once_any 8 _ _ _ _ _ (by omega) (by omega) HI.out.cu (HB.out.touch HI.out.t (by omega))).mono ?_
        rintro e w2 ⟨b, rfl, hc2, hT⟩
        have H2 := hid (HI.out.draw hp hT hc2)
        have z2 := H2.out.t.size
        clear hc2 hT
        cases b
        · clear HI
          go_wp2_with fail
          refine Calls.mono (HST.out _ H2.out) ?_
          rintro e w3 ⟨st, hst, rfl, hc3, hT⟩
          have H3 := hid (H2.out.draw hp hT hc3)
          have z3 := H3.out.t.size
          clear hc3 hT hst H2
          go_wp2_with (at_builtin; refine app_st1 rfl _ _ rfl (base := w.heap.size) (xs := ints (flatS L)) rfl (H3.out.o.alloc _) [st] rfl rfl (top_cells _ (oneS st) _) (by omega) (by simp; omega) ?_)
          intro A4 c4 w4 ho4 hg4
          have H4 := hid (H3.out.app (k := 1) hp rfl ho4 (grown_alloc hg4))
          have z4 := H4.out.t.size
          clear ho4 hg4 H3
          go_wp2
          go_roundw
          case rel => exact ⟨k + 1, m + 1, _, A4, c4, by omega, by go_num, rfl, by omega, by have h1 := HM.out; have h2 := HLF.out; omega, (fun h => by omega), H4.out⟩
          case measure => simp [intOf]; omega
        · obtain ⟨hrc, hff⟩ := HREC.out g1
          have HRC := hid hrc
          clear hrc HI
          go_wp2_with fail
          refine (below_any 3 _ _ _ _ _ (by omega) (by omega) H2.out.cu (HB.out.touch H2.out.t (by omega))).mono ?_
          rintro e w3 ⟨r, rfl, hr0, hr1, hc3, hT⟩
          have H3 := hid (H2.out.draw hp hT hc3)
          have z3 := H3.out.t.size
          clear hc3 hT H2
          go_wp2_with (at_builtin; refine app_st1 rfl _ _ rfl (base := w.heap.size) (xs := ints (flatS L)) rfl (H3.out.o.alloc _) [⟨12, 0, 0, 0, 0, 1 + r⟩] rfl rfl (top_cells _ [_, _, _, _, _, _] _) (by omega) (by simp; omega) ?_)
          intro A4 c4 w4 ho4 hg4
          have H4 := hid (H3.out.app (k := 1) hp rfl ho4 (grown_alloc hg4))
          have z4 := H4.out.t.size
          clear ho4 hg4 H3
          go_wp2_with fail
          refine (below_any 2 _ _ _ _ _ (by omega) (by omega) H4.out.cu (HB.out.touch H4.out.t (by omega))).mono ?_
          rintro e w5 ⟨r2, rfl, hs0, hs1, hc5, hT⟩
          have H5 := hid (H4.out.draw hp hT hc5)
          have z5 := H5.out.t.size
          obtain ⟨n2, hn2⟩ : ∃ n2 : Nat, 1 + r2 = (n2 : Int) := ⟨(1 + r2).toNat, by omega⟩
          have hn22 : n2 ≤ 2 := by omega
          have hn21 : 1 ≤ n2 := by omega
          have hrc := HRC.out n2 p A c bs w5 (by omega) H5.out.cu (HB.out.touch H5.out.t (by omega))
          have hw : IntKind.i64.wrap (1 + r2) = 1 + r2 := IntWalk.i64_in _ (by omega)
          have hwd : IntKind.i64.wrap ((d : Int) + 1) = (d : Int) + 1 := IntWalk.i64_in _ (by omega)
          rw [show ((d + 1 : Nat) : Int) = (d : Int) + 1 from rfl, ← hn2] at hrc
          have HRC5 := hid hrc
          have HN2 := hid hn2
          clear hc5 hT H4 hrc hn2 HRC
          go_wp2_with fail
          refine Calls.mono HRC5.out ?_
          rintro e w6 ⟨M, m6, g6, c6, hm1, hm2, rfl, hB6⟩
          have hm3 : m6 ≤ 2 * f := Nat.le_trans hm2 (Nat.mul_le_mul_right f hn22)
          have H6 := hid (H5.out.draw hp hB6.t hB6.cu)
          have z6 := H6.out.t.size
          have hce := (own_cells hB6.o (by omega)).2
          have HM6 := hid (And.intro hB6.l hce)
          have hml := hB6.l
          clear hB6 hce HRC5 hm2 H5 hml
          go_wp2_with (at_builtin; refine app_st1 rfl _ _ rfl (base := w.heap.size) (xs := _) rfl H6.out.o M rfl HM6.out.1 (fun j u hu => by rw [Nat.zero_add]; exact HM6.out.2 j u hu) (by omega) (by omega) ?_)
          intro A7 c7 w7 ho7 hg7
          have H7 := hid (H6.out.app hp HM6.out.1 ho7 hg7)
          obtain ⟨L7, hL7⟩ : ∃ l, L ++ [⟨12, 0, 0, 0, 0, 1 + r⟩] ++ M = l := ⟨_, rfl⟩
          rw [hL7] at H7
          clear hL7
          have z7 := H7.out.t.size
          clear ho7 hg7 H6
          go_wp2_with (at_builtin; refine app_st1 rfl _ _ rfl (base := w.heap.size) (xs := _) rfl (H7.out.o.alloc _) [⟨13, 0, 0, 0, 0, 0⟩] rfl rfl (top_cells _ [_, _, _, _, _, _] _) (by omega) (by simp; omega) ?_)
          intro A8 c8 w8 ho8 hg8
          have H8 := hid (H7.out.app (k := 1) hp rfl ho8 (grown_alloc hg8))
          have z8 := H8.out.t.size
          clear ho8 hg8 H7
          go_wp2
          go_roundw
          case rel => exact ⟨k + 1, m + 1 + m6 + 1, _, A8, c8, by omega, by go_num, rfl, by omega, by have h1 := HM.out; have h2 := HLF.out; omega, (fun h => by omega), H8.out⟩
          case measure => simp [intOf]; omega
      · by_cases g1 : d < 2
        · have g1' : (d : Int) < 2 := by omega
          have g2' : ¬ (m : Int) < 12 := by omega
          have H2 := HI
          have z2 := zw
          clear HI
          go_wp2_with fail
          refine Calls.mono (HST.out _ H2.out) ?_
          rintro e w3 ⟨st, hst, rfl, hc3, hT⟩
          have H3 := hid (H2.out.draw hp hT hc3)
          have z3 := H3.out.t.size
          clear hc3 hT hst H2
          go_wp2_with (at_builtin; refine app_st1 rfl _ _ rfl (base := w.heap.size) (xs := ints (flatS L)) rfl (H3.out.o.alloc _) [st] rfl rfl (top_cells _ (oneS st) _) (by omega) (by simp; omega) ?_)
          intro A4 c4 w4 ho4 hg4
          have H4 := hid (H3.out.app (k := 1) hp rfl ho4 (grown_alloc hg4))
          have z4 := H4.out.t.size
          clear ho4 hg4 H3
          go_wp2
          go_roundw
          case rel => exact ⟨k + 1, m + 1, _, A4, c4, by omega, by go_num, rfl, by omega, by have h1 := HM.out; have h2 := HLF.out; omega, (fun h => by omega), H4.out⟩
          case measure => simp [intOf]; omega
        · have g1' : ¬ (d : Int) < 2 := by omega
          have H2 := HI
          have z2 := zw
          clear HI
          go_wp2_with fail
          refine Calls.mono (HST.out _ H2.out) ?_
          rintro e w3 ⟨st, hst, rfl, hc3, hT⟩
          have H3 := hid (H2.out.draw hp hT hc3)
          have z3 := H3.out.t.size
          clear hc3 hT hst H2
          go_wp2_with (at_builtin; refine app_st1 rfl _ _ rfl (base := w.heap.size) (xs := ints (flatS L)) rfl (H3.out.o.alloc _) [st] rfl rfl (top_cells _ (oneS st) _) (by omega) (by simp; omega) ?_)
          intro A4 c4 w4 ho4 hg4
          have H4 := hid (H3.out.app (k := 1) hp rfl ho4 (grown_alloc hg4))
          have z4 := H4.out.t.size
          clear ho4 hg4 H3
          go_wp2
          go_roundw
          case rel => exact ⟨k + 1, m + 1, _, A4, c4, by omega, by go_num, rfl, by omega, by have h1 := HM.out; have h2 := HLF.out; omega, (fun h => by omega), H4.out⟩
          case measure => simp [intOf]; omega
    · obtain rfl : k = n := by omega
      obtain ⟨g, rfl⟩ : ∃ g, A' = some ⟨g, 0, none⟩ := by
        rcases HI.out.o.2 with ⟨hv, _⟩ | ⟨g, cap, cur, hv, _⟩
        · injection hv with _ h2 _
          exact HZ0.out h2
        · injection hv with hv
          exact ⟨g, hv⟩
      go_wp2
      go_ret
      exact ⟨L, m, g, c', hkl, HLF.out, rfl, HI.out⟩
theorem block2 : BlockC 2 1 := block_step 2 0 1 (by decide) (by decide) (fun h => absurd h (by decide)) (by decide)
theorem block1 : BlockC 1 4 := block_step 1 1 4 (by decide) (by decide) (fun _ => ⟨block2, by decide⟩) (by decide)
theorem block0 : BlockC 0 10 := block_step 0 4 10 (by decide) (by decide) (fun _ => ⟨block1, by decide⟩) (by decide)
set_option linter.unusedVariables false in
set_option maxRecDepth 100000 in
set_option maxHeartbeats 3200000 in
theorem case_is (p : Nat) (A : Option Addr) (c : Nat) (bs : List Int) (w : World) (hc : Cur w p A bs.length c) (hb : Bytes w p A bs) :
    Calls Try.prog 36 #[.pointer (some ⟨p, 0, none⟩)] w fun e w' => ∃ (L : List St) (A' : Option Addr) (c' : Nat), L.length ≤ 83 ∧ e = .returned (.slice A' L.length c') ∧ w'.ownsRow w.heap.size TSt 6 (.slice A' L.length c') L.length (ints (flatS L)) ∧ Touch [p] w w' := by
  have HB := hid hb
  have HC := hid hc
  have hp := hc.lt
  clear hb hc
  go_enter Try.func36, Try.ntmps36
  go_upto_region 2 with fail
  obtain ⟨w1, hw1⟩ : ∃ z, w.alloc (.cells #[.int .i64 2, .int .i64 0, .int .i64 0, .int .i64 0, .int .i64 0, .int .i64 0, .int .i64 2, .int .i64 1, .int .i64 1, .int .i64 0, .int .i64 0, .int .i64 0] TSt) = z := ⟨_, rfl⟩
  have h1 : BlkI w p bs.length c A [⟨2, 0, 0, 0, 0, 0⟩, ⟨2, 1, 1, 0, 0, 0⟩] 2 (some ⟨w.heap.size, 0, none⟩) 2 w1 := by
    rw [← hw1]
    exact ⟨rfl, own_lit (size := 6) #[.int .i64 2, .int .i64 0, .int .i64 0, .int .i64 0, .int .i64 0, .int .i64 0, .int .i64 2, .int .i64 1, .int .i64 1, .int .i64 0, .int .i64 0, .int .i64 0] 2 rfl (Nat.le_refl _) (by decide) rfl, HC.out.alloc _, (Touch.refl _ _).alloc _⟩
  have H1 := hid h1
  have z1 := h1.t.size
  rw [hw1]
  clear h1 hw1
  go_wp2_with fail
  refine (below_any 9 _ _ _ _ _ (by omega) (by omega) H1.out.cu (HB.out.touch H1.out.t (by omega))).mono ?_
  rintro e w2 ⟨r, rfl, hr0, hr1, hc2, hT⟩
  have H2 := hid (H1.out.draw hp hT hc2)
  have z2 := H2.out.t.size
  obtain ⟨n, rfl⟩ := Int.eq_ofNat_of_zero_le hr0
  clear hc2 hT H1
  go_wp2_with fail
  refine Calls.mono (block0 n p A c bs w2 (by omega) H2.out.cu (HB.out.touch H2.out.t (by omega))) ?_
  rintro e w3 ⟨M, m, g, c3, hm1, hm2, rfl, hB⟩
  have H3 := hid (H2.out.draw hp hB.t hB.cu)
  have z3 := H3.out.t.size
  have hm80 : m ≤ 80 := by omega
  have HM3 := hid (And.intro hB.l (fun (j : Nat) (u : Value) (hu : (ints (flatS M))[j]? = some u) => show w3.cell? ⟨g, 0 + j, none⟩ = some u from by
    rw [Nat.zero_add]
    refine (own_cells hB.o ?_).2 j u hu
    have h1 := (List.getElem?_eq_some_iff.1 hu).1
    rw [ints_length, flatS_length, hB.l] at h1
    omega))
  clear hB H2 hm1 hm2
  go_wp2_with (at_builtin; refine app_st1 rfl _ _ rfl (base := w.heap.size) (xs := _) rfl H3.out.o M rfl HM3.out.1 HM3.out.2 (by omega) (by omega) ?_)
  intro A4 c4 w4 ho4 hg4
  have H4 := hid (H3.out.app hp HM3.out.1 ho4 hg4)
  have z4 := H4.out.t.size
  clear ho4 hg4 H3 HM3
  go_wp2_with fail
  refine (below_any 4 _ _ _ _ _ (by omega) (by omega) H4.out.cu (HB.out.touch H4.out.t (by omega))).mono ?_
  rintro e w5 ⟨x, rfl, hx0, hx1, hc5, hT⟩
  have H5 := hid (H4.out.draw hp hT hc5)
  have z5 := H5.out.t.size
  clear hc5 hT H4
  go_wp2_with (at_builtin; refine app_st1 rfl _ _ rfl (base := w.heap.size) (xs := _) rfl (H5.out.o.alloc _) [⟨11, 0, x, 0, 0, 0⟩] rfl rfl (top_cells _ [_, _, _, _, _, _] _) (by omega) (by simp; omega) ?_)
  intro A6 c6 w6 ho6 hg6
  have H6 := hid (H5.out.app (k := 1) hp rfl ho6 (grown_alloc hg6))
  clear ho6 hg6 H5
  go_wp2
  go_ret
  obtain ⟨L7, hL7⟩ : ∃ l, [⟨2, 0, 0, 0, 0, 0⟩, ⟨2, 1, 1, 0, 0, 0⟩] ++ M ++ [⟨11, 0, x, 0, 0, 0⟩] = l := ⟨_, rfl⟩
  rw [hL7] at H6
  clear hL7
  have hl := H6.out.l
  have ho := H6.out.o
  rw [← hl] at ho
  exact ⟨L7, A6, c6, by omega, by rw [hl]; rfl, ho, H6.out.t⟩
set_option linter.unusedVariables false in
set_option maxRecDepth 100000 in
theorem drawProg_is (A : Option Addr) (c : Nat) (bs : List Int) (w : World) (hb : Bytes w w.heap.size A bs) :
    Calls Try.prog 10 #[.slice A bs.length c] w fun e w' => ∃ (L : List St) (A' : Option Addr) (c' : Nat), L.length ≤ 83 ∧ e = .returned (.slice A' L.length c') ∧ w'.ownsRow w.heap.size TSt 6 (.slice A' L.length c') L.length (ints (flatS L)) ∧ Below w.heap.size w w' := by
  have HB := hid hb
  clear hb
  go_enter Try.func10, Try.ntmps10
  go_wp2_with fail
  refine (new_any _ _ _ _ HB.out).mono ?_
  rintro e w2 ⟨rfl, hc2, hb2⟩
  have z2 := hb2.size
  have HC2 := hid (And.intro hc2 hb2)
  clear hc2 hb2
  go_wp2_with fail
  refine (case_is _ _ _ _ _ HC2.out.1 ((HB.out.step HC2.out.2))).mono ?_
  rintro e w3 ⟨L, A', c', hl, rfl, ho, hT⟩
  have HF := hid (And.intro ho hT)
  clear ho hT
  go_wp2
  go_ret
  exact ⟨L, A', c', hl, rfl, own_weak HF.out.1 z2, HF.out.2.below HC2.out.2 (by simp)⟩
end Go.Proofs.Ytihbaieiempjeaa
