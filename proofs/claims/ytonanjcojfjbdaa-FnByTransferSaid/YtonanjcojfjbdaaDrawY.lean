/- The reference's drawn programs. Only what the laws need of them is kept. -/
import Derived.Test.YtonanjcojfjbdaaDrawX
namespace Go.Proofs.Ytonanjcojfjbdaa
open Go.RowKit

set_option maxRecDepth 100000 in
set_option maxHeartbeats 3200000 in
theorem stmt_any (p : Nat) (A : Option Addr) (c : Nat) (bs : List Int) (w : World) (hc : Cur w p A bs.length c) (hb : Bytes w p A bs) :
    Calls Try.prog 55 #[.pointer (some ⟨p, 0, none⟩)] w fun e w' => ∃ x0 x1 x2 x3 x4 x5 : Int, e = .returned (.agg #[.int .i64 x0, .int .i64 x1, .int .i64 x2, .int .i64 x3, .int .i64 x4, .int .i64 x5]) ∧ Cur w' p A bs.length c ∧ Touch [p] w w' := by
  obtain ⟨i0, h0, hcu, cu_i0, cu_i1⟩ := hc
  have hp := hcu.lt
  have bc_s := hid hb.small
  have bc_l := hid hb.len
  have HBY := hb.cells
  clear hb
  go_enter Try.func55, Try.ntmps55
  have b_0 := (Below.refl 0 w)
  have s_0 := b_0.size
  have T_0 := Touch.refl [p] w
  have bc_0 := HBY
  clear HBY
  have cu_0 := hcu
  clear hcu
  have cu_lt := cu_0.lt
  have cell_cu := cu_0.cell
  have froz_cu := cu_0.frozen
  have lt_cu := cu_0.lt
  go_wp2_with fail
  refine calls_forget1 (W := w) (b0 := w.heap.size) (t0 := 75) (c0 := #[.int .i64 0, .int .i64 0, .int .i64 0, .int .i64 0, .int .i64 0, .int .i64 0]) ?_ ?_ ?_
  (focus (first | ((repeat (first | (with_reducible assumption) | (with_reducible apply Blk.drew) | (with_reducible apply Blk.drewN) | (with_reducible apply Blk.new; first | rfl | (simp; done)) | (with_reducible apply Blk.alloc) | (with_reducible apply Blk.set_) | (with_reducible apply Blk.past; focus assumption) | (with_reducible apply Blk.far; focus (first | (simp; done) | (simp; omega) | (dsimp only; omega))))); done) | (apply Blk.cast; (case h => (repeat (first | (with_reducible assumption) | (with_reducible apply Blk.drew) | (with_reducible apply Blk.drewN) | (with_reducible apply Blk.new; first | rfl | (simp; done)) | (with_reducible apply Blk.alloc) | (with_reducible apply Blk.set_) | (with_reducible apply Blk.past; focus assumption) | (with_reducible apply Blk.far; focus (first | (simp; done) | (simp; omega) | (dsimp only; omega)))))); (case e => rfl))))
  (focus (repeat (first | (with_reducible exact Below.refl _ _) | (with_reducible refine Below.trans ?_ (Below.mono (by assumption) (by first | omega | (simp; done) | (simp; omega) | (simp [*]; done)))) | (with_reducible refine Below.alloc ?_ (by first | omega | (simp; done) | (simp; omega) | (simp [*]; done)) _) | (with_reducible refine Below.setCell ?_ (by first | omega | (simp; done) | (simp; omega) | (simp [*]; done)) _) | (with_reducible refine Below.drew ?_) | (with_reducible refine below_drewN ?_))))
  intro X1 r_n hX1
  have sX1 := hX1.size
  have r_lt := r_n.lt
  refine (below_any 4 _ _ _ _ _ (by omega) (by omega) (show Cur _ _ _ _ _ from ⟨_, _, Blk.past hX1 cu_0, cu_i0, cu_i1⟩) ⟨cells_below bc_0 hX1 (by omega), bc_s.out, bc_l.out⟩).mono ?_
  clear cu_i0 cu_i1
  rintro e w1 ⟨d, rfl, d0, d1, ⟨i_1, h_1, cu_1, cu_i0, cu_i1⟩, hY1⟩
  have s1 := hY1.size
  have b_1 := below0_touch hY1 (b_0.trans (hX1.mono (by omega)))
  have T_1 := (T_0.trans (Touch.of_below hX1)).trans hY1
  have bc_1 := cells_touch hY1 (cells_below bc_0 hX1 (by omega)) (by omega) (by first | (simp; done) | (simp; omega))
  have r_1 := Blk.touch hY1 r_n (by first | (simp; done) | (simp; omega))
  clear T_0 bc_0 cu_0 b_0 cell_cu froz_cu lt_cu r_n hX1 hY1
  have cell_cu := cu_1.cell
  have froz_cu := cu_1.frozen
  have lt_cu := cu_1.lt
  have cell_r := r_1.cell
  have froz_r := r_1.frozen
  have lt_r := r_1.lt
  go_wp2_with fail
  refine calls_forget0 (W := w1) ?_ ?_
  (focus (repeat (first | (with_reducible exact Below.refl _ _) | (with_reducible refine Below.trans ?_ (Below.mono (by assumption) (by first | omega | (simp; done) | (simp; omega) | (simp [*]; done)))) | (with_reducible refine Below.alloc ?_ (by first | omega | (simp; done) | (simp; omega) | (simp [*]; done)) _) | (with_reducible refine Below.setCell ?_ (by first | omega | (simp; done) | (simp; omega) | (simp [*]; done)) _) | (with_reducible refine Below.drew ?_) | (with_reducible refine below_drewN ?_))))
  intro X2 hX2
  have sX2 := hX2.size
  refine (below_any 4 _ _ _ _ _ (by omega) (by omega) (show Cur _ _ _ _ _ from ⟨_, _, Blk.past hX2 cu_1, cu_i0, cu_i1⟩) ⟨cells_below bc_1 hX2 (by omega), bc_s.out, bc_l.out⟩).mono ?_
  clear cu_i0 cu_i1
  rintro e w2 ⟨a, rfl, a0, a1, ⟨i_2, h_2, cu_2, cu_i0, cu_i1⟩, hY2⟩
  have s2 := hY2.size
  have b_2 := below0_touch hY2 (b_1.trans (hX2.mono (by omega)))
  have T_2 := (T_1.trans (Touch.of_below hX2)).trans hY2
  have bc_2 := cells_touch hY2 (cells_below bc_1 hX2 (by omega)) (by omega) (by first | (simp; done) | (simp; omega))
  have r_2 := Blk.touch hY2 (Blk.past hX2 r_1) (by first | (simp; done) | (simp; omega))
  clear T_1 bc_1 cu_1 r_1 b_1 cell_cu froz_cu lt_cu cell_r froz_r lt_r hX2 hY2
  have cell_cu := cu_2.cell
  have froz_cu := cu_2.frozen
  have lt_cu := cu_2.lt
  have cell_r := r_2.cell
  have froz_r := r_2.frozen
  have lt_r := r_2.lt
  go_wp2_with fail
  refine calls_forget0 (W := w2) ?_ ?_
  (focus (repeat (first | (with_reducible exact Below.refl _ _) | (with_reducible refine Below.trans ?_ (Below.mono (by assumption) (by first | omega | (simp; done) | (simp; omega) | (simp [*]; done)))) | (with_reducible refine Below.alloc ?_ (by first | omega | (simp; done) | (simp; omega) | (simp [*]; done)) _) | (with_reducible refine Below.setCell ?_ (by first | omega | (simp; done) | (simp; omega) | (simp [*]; done)) _) | (with_reducible refine Below.drew ?_) | (with_reducible refine below_drewN ?_))))
  intro X3 hX3
  have sX3 := hX3.size
  refine (below_any 4 _ _ _ _ _ (by omega) (by omega) (show Cur _ _ _ _ _ from ⟨_, _, Blk.past hX3 cu_2, cu_i0, cu_i1⟩) ⟨cells_below bc_2 hX3 (by omega), bc_s.out, bc_l.out⟩).mono ?_
  clear cu_i0 cu_i1
  rintro e w3 ⟨f, rfl, f0, f1, ⟨i_3, h_3, cu_3, cu_i0, cu_i1⟩, hY3⟩
  have s3 := hY3.size
  have b_3 := below0_touch hY3 (b_2.trans (hX3.mono (by omega)))
  have T_3 := (T_2.trans (Touch.of_below hX3)).trans hY3
  have bc_3 := cells_touch hY3 (cells_below bc_2 hX3 (by omega)) (by omega) (by first | (simp; done) | (simp; omega))
  have r_3 := Blk.touch hY3 (Blk.past hX3 r_2) (by first | (simp; done) | (simp; omega))
  clear T_2 bc_2 cu_2 r_2 b_2 cell_cu froz_cu lt_cu cell_r froz_r lt_r hX3 hY3
  have cell_cu := cu_3.cell
  have froz_cu := cu_3.frozen
  have lt_cu := cu_3.lt
  have cell_r := r_3.cell
  have froz_r := r_3.frozen
  have lt_r := r_3.lt
  go_wp2_with fail
  refine calls_forget0 (W := w3) ?_ ?_
  (focus (repeat (first | (with_reducible exact Below.refl _ _) | (with_reducible refine Below.trans ?_ (Below.mono (by assumption) (by first | omega | (simp; done) | (simp; omega) | (simp [*]; done)))) | (with_reducible refine Below.alloc ?_ (by first | omega | (simp; done) | (simp; omega) | (simp [*]; done)) _) | (with_reducible refine Below.setCell ?_ (by first | omega | (simp; done) | (simp; omega) | (simp [*]; done)) _) | (with_reducible refine Below.drew ?_) | (with_reducible refine below_drewN ?_))))
  intro X4 hX4
  have sX4 := hX4.size
  refine (below_any 4 _ _ _ _ _ (by omega) (by omega) (show Cur _ _ _ _ _ from ⟨_, _, Blk.past hX4 cu_3, cu_i0, cu_i1⟩) ⟨cells_below bc_3 hX4 (by omega), bc_s.out, bc_l.out⟩).mono ?_
  clear cu_i0 cu_i1
  rintro e w4 ⟨g, rfl, g0, g1, ⟨i_4, h_4, cu_4, cu_i0, cu_i1⟩, hY4⟩
  have s4 := hY4.size
  have b_4 := below0_touch hY4 (b_3.trans (hX4.mono (by omega)))
  have T_4 := (T_3.trans (Touch.of_below hX4)).trans hY4
  have bc_4 := cells_touch hY4 (cells_below bc_3 hX4 (by omega)) (by omega) (by first | (simp; done) | (simp; omega))
  have r_4 := Blk.touch hY4 (Blk.past hX4 r_3) (by first | (simp; done) | (simp; omega))
  clear T_3 bc_3 cu_3 r_3 b_3 cell_cu froz_cu lt_cu cell_r froz_r lt_r hX4 hY4
  have cell_cu := cu_4.cell
  have froz_cu := cu_4.frozen
  have lt_cu := cu_4.lt
  have cell_r := r_4.cell
  have froz_r := r_4.frozen
  have lt_r := r_4.lt
  go_upto_region 2 with fail
  go_wp2_with fail
  refine calls_forget1 (W := w4) (b0 := w4.heap.size) (t0 := 75) (c0 := #[.int .i64 0, .int .i64 d, .int .i64 a, .int .i64 f, .int .i64 g, .int .i64 0]) ?_ ?_ ?_
  (focus (first | ((repeat (first | (with_reducible assumption) | (with_reducible apply Blk.drew) | (with_reducible apply Blk.drewN) | (with_reducible apply Blk.new; first | rfl | (simp; done)) | (with_reducible apply Blk.alloc) | (with_reducible apply Blk.set_) | (with_reducible apply Blk.past; focus assumption) | (with_reducible apply Blk.far; focus (first | (simp; done) | (simp; omega) | (dsimp only; omega))))); done) | (apply Blk.cast; (case h => (repeat (first | (with_reducible assumption) | (with_reducible apply Blk.drew) | (with_reducible apply Blk.drewN) | (with_reducible apply Blk.new; first | rfl | (simp; done)) | (with_reducible apply Blk.alloc) | (with_reducible apply Blk.set_) | (with_reducible apply Blk.past; focus assumption) | (with_reducible apply Blk.far; focus (first | (simp; done) | (simp; omega) | (dsimp only; omega)))))); (case e => rfl))))
  (focus (repeat (first | (with_reducible exact Below.refl _ _) | (with_reducible refine Below.trans ?_ (Below.mono (by assumption) (by first | omega | (simp; done) | (simp; omega) | (simp [*]; done)))) | (with_reducible refine Below.alloc ?_ (by first | omega | (simp; done) | (simp; omega) | (simp [*]; done)) _) | (with_reducible refine Below.setCell ?_ (by first | omega | (simp; done) | (simp; omega) | (simp [*]; done)) _) | (with_reducible refine Below.drew ?_) | (with_reducible refine below_drewN ?_))))
  intro X5 z_n hX5
  have sX5 := hX5.size
  have z_lt := z_n.lt
  refine (below_any 12 _ _ _ _ _ (by omega) (by omega) (show Cur _ _ _ _ _ from ⟨_, _, Blk.past hX5 cu_4, cu_i0, cu_i1⟩) ⟨cells_below bc_4 hX5 (by omega), bc_s.out, bc_l.out⟩).mono ?_
  clear cu_i0 cu_i1
  rintro e w5 ⟨q, rfl, q0, q1, ⟨i_5, h_5, cu_5, cu_i0, cu_i1⟩, hY5⟩
  have s5 := hY5.size
  have b_5 := below0_touch hY5 (b_4.trans (hX5.mono (by omega)))
  have T_5 := (T_4.trans (Touch.of_below hX5)).trans hY5
  have bc_5 := cells_touch hY5 (cells_below bc_4 hX5 (by omega)) (by omega) (by first | (simp; done) | (simp; omega))
  have r_5 := Blk.touch hY5 (Blk.past hX5 r_4) (by first | (simp; done) | (simp; omega))
  have z_5 := Blk.touch hY5 z_n (by first | (simp; done) | (simp; omega))
  clear T_4 bc_4 cu_4 r_4 b_4 cell_cu froz_cu lt_cu cell_r froz_r lt_r z_n hX5 hY5
  have cell_cu := cu_5.cell
  have froz_cu := cu_5.frozen
  have lt_cu := cu_5.lt
  have cell_r := r_5.cell
  have froz_r := r_5.frozen
  have lt_r := r_5.lt
  have cell_z := z_5.cell
  have froz_z := z_5.frozen
  have lt_z := z_5.lt
  clear d0 d1 a0 a1 f0 f1 g0 g1
  have h7 : q = 0 ∨ q = 1 ∨ q = 2 ∨ q = 3 ∨ q = 4 ∨ q = 5 ∨ q = 6 ∨ 7 ≤ q := by omega
  clear q0
  rcases h7 with rfl | rfl | rfl | rfl | rfl | rfl | rfl | q0
  · skip
    have b_20 := (Below.refl 0 w5)
    have s_20 := b_20.size
    have T_20 := T_5
    have bc_20 := bc_5
    clear bc_5
    have cu_20 := cu_5
    clear cu_5
    have cu_lt := cu_20.lt
    have cell_cu := cu_20.cell
    have froz_cu := cu_20.frozen
    have lt_cu := cu_20.lt
    have r_20 := r_5
    clear r_5
    have r_lt := r_20.lt
    have cell_r := r_20.cell
    have froz_r := r_20.frozen
    have lt_r := r_20.lt
    have z_20 := z_5
    clear z_5
    have z_lt := z_20.lt
    have cell_z := z_20.cell
    have froz_z := z_20.frozen
    have lt_z := z_20.lt
    go_wp2_with fail
    refine calls_touch1 (w0 := w5) (L := [w4.heap.size]) (b0 := w4.heap.size) (t0 := 75) (c0 := #[.int .i64 1, .int .i64 d, .int .i64 a, .int .i64 f, .int .i64 g, .int .i64 0]) ?_ ?_ ?_
    (focus (first | ((repeat (first | (with_reducible assumption) | (with_reducible apply Blk.drew) | (with_reducible apply Blk.drewN) | (with_reducible apply Blk.new; first | rfl | (simp; done)) | (with_reducible apply Blk.alloc) | (with_reducible apply Blk.set_) | (with_reducible apply Blk.past; focus assumption) | (with_reducible apply Blk.far; focus (first | (simp; done) | (simp; omega) | (dsimp only; omega))))); done) | (apply Blk.cast; (case h => (repeat (first | (with_reducible assumption) | (with_reducible apply Blk.drew) | (with_reducible apply Blk.drewN) | (with_reducible apply Blk.new; first | rfl | (simp; done)) | (with_reducible apply Blk.alloc) | (with_reducible apply Blk.set_) | (with_reducible apply Blk.past; focus assumption) | (with_reducible apply Blk.far; focus (first | (simp; done) | (simp; omega) | (dsimp only; omega)))))); (case e => rfl))))
    (focus (repeat (first | (with_reducible exact Touch.refl _ _) | (with_reducible assumption) | (with_reducible apply Touch.drew) | (with_reducible apply Touch.drewN) | (with_reducible apply Touch.alloc) | (with_reducible refine Touch.set_ ?_ _ _ (by simp; done)) | (with_reducible refine Touch.set_new ?_ _ _ (by first | omega | (simp; omega) | (dsimp only; omega))))))
    intro w21 z_21 hX21
    have sX21 := hX21.size
    have b_21 := below0_touch hX21 b_20
    have T_21 := T_20.trans_new hX21 (by first | (simp; done) | (simp; omega))
    have bc_21 := cells_touch hX21 bc_20 (by omega) (by first | (simp; done) | (simp; omega))
    have cu_21 := Blk.touch hX21 cu_20 (by first | (simp; done) | (simp; omega))
    have r_21 := Blk.touch hX21 r_20 (by first | (simp; done) | (simp; omega))
    clear T_20 bc_20 cu_20 r_20 z_20 b_20 cell_cu froz_cu lt_cu cell_r froz_r lt_r cell_z froz_z lt_z hX21
    have cell_cu := cu_21.cell
    have froz_cu := cu_21.frozen
    have lt_cu := cu_21.lt
    have cell_r := r_21.cell
    have froz_r := r_21.frozen
    have lt_r := r_21.lt
    have cell_z := z_21.cell
    have froz_z := z_21.frozen
    have lt_z := z_21.lt
    go_wp2_with fail
    refine calls_forget0 (W := w21) ?_ ?_
    (focus (repeat (first | (with_reducible exact Below.refl _ _) | (with_reducible refine Below.trans ?_ (Below.mono (by assumption) (by first | omega | (simp; done) | (simp; omega) | (simp [*]; done)))) | (with_reducible refine Below.alloc ?_ (by first | omega | (simp; done) | (simp; omega) | (simp [*]; done)) _) | (with_reducible refine Below.setCell ?_ (by first | omega | (simp; done) | (simp; omega) | (simp [*]; done)) _) | (with_reducible refine Below.drew ?_) | (with_reducible refine below_drewN ?_))))
    intro X22 hX22
    have sX22 := hX22.size
    refine (below_any 16 _ _ _ _ _ (by omega) (by omega) (show Cur _ _ _ _ _ from ⟨_, _, Blk.past hX22 cu_21, cu_i0, cu_i1⟩) ⟨cells_below bc_21 hX22 (by omega), bc_s.out, bc_l.out⟩).mono ?_
    clear cu_i0 cu_i1
    rintro e w22 ⟨x, rfl, x0, x1, ⟨i_22, h_22, cu_22, cu_i0, cu_i1⟩, hY22⟩
    have s22 := hY22.size
    have b_22 := below0_touch hY22 (b_21.trans (hX22.mono (by omega)))
    have T_22 := (T_21.trans (Touch.of_below hX22)).trans hY22
    have bc_22 := cells_touch hY22 (cells_below bc_21 hX22 (by omega)) (by omega) (by first | (simp; done) | (simp; omega))
    have r_22 := Blk.touch hY22 (Blk.past hX22 r_21) (by first | (simp; done) | (simp; omega))
    have z_22 := Blk.touch hY22 (Blk.past hX22 z_21) (by first | (simp; done) | (simp; omega))
    clear T_21 bc_21 cu_21 r_21 z_21 b_21 cell_cu froz_cu lt_cu cell_r froz_r lt_r cell_z froz_z lt_z hX22 hY22
    have cell_cu := cu_22.cell
    have froz_cu := cu_22.frozen
    have lt_cu := cu_22.lt
    have cell_r := r_22.cell
    have froz_r := r_22.frozen
    have lt_r := r_22.lt
    have cell_z := z_22.cell
    have froz_z := z_22.frozen
    have lt_z := z_22.lt
    go_wp2_with fail
    refine calls_touch1 (w0 := w22) (L := [w4.heap.size]) (b0 := w4.heap.size) (t0 := 75) (c0 := #[.int .i64 1, .int .i64 d, .int .i64 a, .int .i64 f, .int .i64 g, .int .i64 x]) ?_ ?_ ?_
    (focus (first | ((repeat (first | (with_reducible assumption) | (with_reducible apply Blk.drew) | (with_reducible apply Blk.drewN) | (with_reducible apply Blk.new; first | rfl | (simp; done)) | (with_reducible apply Blk.alloc) | (with_reducible apply Blk.set_) | (with_reducible apply Blk.past; focus assumption) | (with_reducible apply Blk.far; focus (first | (simp; done) | (simp; omega) | (dsimp only; omega))))); done) | (apply Blk.cast; (case h => (repeat (first | (with_reducible assumption) | (with_reducible apply Blk.drew) | (with_reducible apply Blk.drewN) | (with_reducible apply Blk.new; first | rfl | (simp; done)) | (with_reducible apply Blk.alloc) | (with_reducible apply Blk.set_) | (with_reducible apply Blk.past; focus assumption) | (with_reducible apply Blk.far; focus (first | (simp; done) | (simp; omega) | (dsimp only; omega)))))); (case e => rfl))))
    (focus (repeat (first | (with_reducible exact Touch.refl _ _) | (with_reducible assumption) | (with_reducible apply Touch.drew) | (with_reducible apply Touch.drewN) | (with_reducible apply Touch.alloc) | (with_reducible refine Touch.set_ ?_ _ _ (by simp; done)) | (with_reducible refine Touch.set_new ?_ _ _ (by first | omega | (simp; omega) | (dsimp only; omega))))))
    intro w23 z_23 hX23
    have sX23 := hX23.size
    have b_23 := below0_touch hX23 b_22
    have T_23 := T_22.trans_new hX23 (by first | (simp; done) | (simp; omega))
    have bc_23 := cells_touch hX23 bc_22 (by omega) (by first | (simp; done) | (simp; omega))
    have cu_23 := Blk.touch hX23 cu_22 (by first | (simp; done) | (simp; omega))
    have r_23 := Blk.touch hX23 r_22 (by first | (simp; done) | (simp; omega))
    clear T_22 bc_22 cu_22 r_22 z_22 b_22 cell_cu froz_cu lt_cu cell_r froz_r lt_r cell_z froz_z lt_z hX23
    have cell_cu := cu_23.cell
    have froz_cu := cu_23.frozen
    have lt_cu := cu_23.lt
    have cell_r := r_23.cell
    have froz_r := r_23.frozen
    have lt_r := r_23.lt
    have cell_z := z_23.cell
    have froz_z := z_23.frozen
    have lt_z := z_23.lt
    go_wp2_with fail
    refine calls_forget0 (W := w23) ?_ ?_
    (focus (repeat (first | (with_reducible exact Below.refl _ _) | (with_reducible refine Below.trans ?_ (Below.mono (by assumption) (by first | omega | (simp; done) | (simp; omega) | (simp [*]; done)))) | (with_reducible refine Below.alloc ?_ (by first | omega | (simp; done) | (simp; omega) | (simp [*]; done)) _) | (with_reducible refine Below.setCell ?_ (by first | omega | (simp; done) | (simp; omega) | (simp [*]; done)) _) | (with_reducible refine Below.drew ?_) | (with_reducible refine below_drewN ?_))))
    intro X24 hX24
    have sX24 := hX24.size
    refine (sPlain8 _ _ _ _ _ _ _).mono ?_
    rintro e w24 ⟨x0, x1, x2, x3, x4, x5, rfl, hb24⟩
    have s24 := hb24.size
    have hT24 := hX24.trans (hb24.mono sX24)
    have b_24 := b_23.trans (hT24.mono (by omega))
    have T_24 := T_23.trans (Touch.of_below hT24)
    have bc_24 := cells_below bc_23 hT24 (by omega)
    have cu_24 := Blk.past hT24 cu_23
    have r_24 := Blk.past hT24 r_23
    have z_24 := Blk.past hT24 z_23
    clear T_23 bc_23 cu_23 r_23 z_23 b_23 cell_cu froz_cu lt_cu cell_r froz_r lt_r cell_z froz_z lt_z hX24 hT24 hb24
    have cell_cu := cu_24.cell
    have froz_cu := cu_24.frozen
    have lt_cu := cu_24.lt
    have cell_r := r_24.cell
    have froz_r := r_24.frozen
    have lt_r := r_24.lt
    have cell_z := z_24.cell
    have froz_z := z_24.frozen
    have lt_z := z_24.lt
    go_wp2_with fail
    ((try simp only [Exit.inBlock, Exit.then]); apply bodyPost_ret0; focus ((try simp only [results, Try.results55]); (try go_simp); (try rfl)))
    refine ⟨x0, x1, x2, x3, x4, x5, rfl, ?_, ?_⟩
    · exact Cur.touch (L := [w.heap.size]) ⟨_, _, cu_24, cu_i0, cu_i1⟩ (by repeat (first | (with_reducible exact Touch.refl _ _) | (with_reducible assumption) | (with_reducible apply Touch.drew) | (with_reducible apply Touch.drewN) | (with_reducible apply Touch.alloc) | (with_reducible refine Touch.set_ ?_ _ _ (by simp; done)) | (with_reducible refine Touch.set_new ?_ _ _ (by first | omega | (simp; omega) | (dsimp only; omega))))) (by simp; omega)
    · exact T_24.trans_new (M := [w.heap.size]) (by repeat (first | (with_reducible exact Touch.refl _ _) | (with_reducible assumption) | (with_reducible apply Touch.drew) | (with_reducible apply Touch.drewN) | (with_reducible apply Touch.alloc) | (with_reducible refine Touch.set_ ?_ _ _ (by simp; done)) | (with_reducible refine Touch.set_new ?_ _ _ (by first | omega | (simp; omega) | (dsimp only; omega))))) (by simp)
  · skip
    have b_20 := (Below.refl 0 w5)
    have s_20 := b_20.size
    have T_20 := T_5
    have bc_20 := bc_5
    clear bc_5
    have cu_20 := cu_5
    clear cu_5
    have cu_lt := cu_20.lt
    have cell_cu := cu_20.cell
    have froz_cu := cu_20.frozen
    have lt_cu := cu_20.lt
    have r_20 := r_5
    clear r_5
    have r_lt := r_20.lt
    have cell_r := r_20.cell
    have froz_r := r_20.frozen
    have lt_r := r_20.lt
    have z_20 := z_5
    clear z_5
    have z_lt := z_20.lt
    have cell_z := z_20.cell
    have froz_z := z_20.frozen
    have lt_z := z_20.lt
    go_wp2_with fail
    refine calls_touch1 (w0 := w5) (L := [w4.heap.size]) (b0 := w4.heap.size) (t0 := 75) (c0 := #[.int .i64 2, .int .i64 d, .int .i64 a, .int .i64 f, .int .i64 g, .int .i64 0]) ?_ ?_ ?_
    (focus (first | ((repeat (first | (with_reducible assumption) | (with_reducible apply Blk.drew) | (with_reducible apply Blk.drewN) | (with_reducible apply Blk.new; first | rfl | (simp; done)) | (with_reducible apply Blk.alloc) | (with_reducible apply Blk.set_) | (with_reducible apply Blk.past; focus assumption) | (with_reducible apply Blk.far; focus (first | (simp; done) | (simp; omega) | (dsimp only; omega))))); done) | (apply Blk.cast; (case h => (repeat (first | (with_reducible assumption) | (with_reducible apply Blk.drew) | (with_reducible apply Blk.drewN) | (with_reducible apply Blk.new; first | rfl | (simp; done)) | (with_reducible apply Blk.alloc) | (with_reducible apply Blk.set_) | (with_reducible apply Blk.past; focus assumption) | (with_reducible apply Blk.far; focus (first | (simp; done) | (simp; omega) | (dsimp only; omega)))))); (case e => rfl))))
    (focus (repeat (first | (with_reducible exact Touch.refl _ _) | (with_reducible assumption) | (with_reducible apply Touch.drew) | (with_reducible apply Touch.drewN) | (with_reducible apply Touch.alloc) | (with_reducible refine Touch.set_ ?_ _ _ (by simp; done)) | (with_reducible refine Touch.set_new ?_ _ _ (by first | omega | (simp; omega) | (dsimp only; omega))))))
    intro w21 z_21 hX21
    have sX21 := hX21.size
    have b_21 := below0_touch hX21 b_20
    have T_21 := T_20.trans_new hX21 (by first | (simp; done) | (simp; omega))
    have bc_21 := cells_touch hX21 bc_20 (by omega) (by first | (simp; done) | (simp; omega))
    have cu_21 := Blk.touch hX21 cu_20 (by first | (simp; done) | (simp; omega))
    have r_21 := Blk.touch hX21 r_20 (by first | (simp; done) | (simp; omega))
    clear T_20 bc_20 cu_20 r_20 z_20 b_20 cell_cu froz_cu lt_cu cell_r froz_r lt_r cell_z froz_z lt_z hX21
    have cell_cu := cu_21.cell
    have froz_cu := cu_21.frozen
    have lt_cu := cu_21.lt
    have cell_r := r_21.cell
    have froz_r := r_21.frozen
    have lt_r := r_21.lt
    have cell_z := z_21.cell
    have froz_z := z_21.frozen
    have lt_z := z_21.lt
    go_wp2_with fail
    refine calls_forget0 (W := w21) ?_ ?_
    (focus (repeat (first | (with_reducible exact Below.refl _ _) | (with_reducible refine Below.trans ?_ (Below.mono (by assumption) (by first | omega | (simp; done) | (simp; omega) | (simp [*]; done)))) | (with_reducible refine Below.alloc ?_ (by first | omega | (simp; done) | (simp; omega) | (simp [*]; done)) _) | (with_reducible refine Below.setCell ?_ (by first | omega | (simp; done) | (simp; omega) | (simp [*]; done)) _) | (with_reducible refine Below.drew ?_) | (with_reducible refine below_drewN ?_))))
    intro X22 hX22
    have sX22 := hX22.size
    refine (below_any 3 _ _ _ _ _ (by omega) (by omega) (show Cur _ _ _ _ _ from ⟨_, _, Blk.past hX22 cu_21, cu_i0, cu_i1⟩) ⟨cells_below bc_21 hX22 (by omega), bc_s.out, bc_l.out⟩).mono ?_
    clear cu_i0 cu_i1
    rintro e w22 ⟨x, rfl, x0, x1, ⟨i_22, h_22, cu_22, cu_i0, cu_i1⟩, hY22⟩
    have s22 := hY22.size
    have b_22 := below0_touch hY22 (b_21.trans (hX22.mono (by omega)))
    have T_22 := (T_21.trans (Touch.of_below hX22)).trans hY22
    have bc_22 := cells_touch hY22 (cells_below bc_21 hX22 (by omega)) (by omega) (by first | (simp; done) | (simp; omega))
    have r_22 := Blk.touch hY22 (Blk.past hX22 r_21) (by first | (simp; done) | (simp; omega))
    have z_22 := Blk.touch hY22 (Blk.past hX22 z_21) (by first | (simp; done) | (simp; omega))
    clear T_21 bc_21 cu_21 r_21 z_21 b_21 cell_cu froz_cu lt_cu cell_r froz_r lt_r cell_z froz_z lt_z hX22 hY22
    have cell_cu := cu_22.cell
    have froz_cu := cu_22.frozen
    have lt_cu := cu_22.lt
    have cell_r := r_22.cell
    have froz_r := r_22.frozen
    have lt_r := r_22.lt
    have cell_z := z_22.cell
    have froz_z := z_22.frozen
    have lt_z := z_22.lt
    go_wp2_with fail
    refine calls_touch1 (w0 := w22) (L := [w4.heap.size]) (b0 := w4.heap.size) (t0 := 75) (c0 := #[.int .i64 2, .int .i64 d, .int .i64 x, .int .i64 f, .int .i64 g, .int .i64 0]) ?_ ?_ ?_
    (focus (first | ((repeat (first | (with_reducible assumption) | (with_reducible apply Blk.drew) | (with_reducible apply Blk.drewN) | (with_reducible apply Blk.new; first | rfl | (simp; done)) | (with_reducible apply Blk.alloc) | (with_reducible apply Blk.set_) | (with_reducible apply Blk.past; focus assumption) | (with_reducible apply Blk.far; focus (first | (simp; done) | (simp; omega) | (dsimp only; omega))))); done) | (apply Blk.cast; (case h => (repeat (first | (with_reducible assumption) | (with_reducible apply Blk.drew) | (with_reducible apply Blk.drewN) | (with_reducible apply Blk.new; first | rfl | (simp; done)) | (with_reducible apply Blk.alloc) | (with_reducible apply Blk.set_) | (with_reducible apply Blk.past; focus assumption) | (with_reducible apply Blk.far; focus (first | (simp; done) | (simp; omega) | (dsimp only; omega)))))); (case e => rfl))))
    (focus (repeat (first | (with_reducible exact Touch.refl _ _) | (with_reducible assumption) | (with_reducible apply Touch.drew) | (with_reducible apply Touch.drewN) | (with_reducible apply Touch.alloc) | (with_reducible refine Touch.set_ ?_ _ _ (by simp; done)) | (with_reducible refine Touch.set_new ?_ _ _ (by first | omega | (simp; omega) | (dsimp only; omega))))))
    intro w23 z_23 hX23
    have sX23 := hX23.size
    have b_23 := below0_touch hX23 b_22
    have T_23 := T_22.trans_new hX23 (by first | (simp; done) | (simp; omega))
    have bc_23 := cells_touch hX23 bc_22 (by omega) (by first | (simp; done) | (simp; omega))
    have cu_23 := Blk.touch hX23 cu_22 (by first | (simp; done) | (simp; omega))
    have r_23 := Blk.touch hX23 r_22 (by first | (simp; done) | (simp; omega))
    clear T_22 bc_22 cu_22 r_22 z_22 b_22 cell_cu froz_cu lt_cu cell_r froz_r lt_r cell_z froz_z lt_z hX23
    have cell_cu := cu_23.cell
    have froz_cu := cu_23.frozen
    have lt_cu := cu_23.lt
    have cell_r := r_23.cell
    have froz_r := r_23.frozen
    have lt_r := r_23.lt
    have cell_z := z_23.cell
    have froz_z := z_23.frozen
    have lt_z := z_23.lt
    go_wp2_with fail
    refine calls_forget0 (W := w23) ?_ ?_
    (focus (repeat (first | (with_reducible exact Below.refl _ _) | (with_reducible refine Below.trans ?_ (Below.mono (by assumption) (by first | omega | (simp; done) | (simp; omega) | (simp [*]; done)))) | (with_reducible refine Below.alloc ?_ (by first | omega | (simp; done) | (simp; omega) | (simp [*]; done)) _) | (with_reducible refine Below.setCell ?_ (by first | omega | (simp; done) | (simp; omega) | (simp [*]; done)) _) | (with_reducible refine Below.drew ?_) | (with_reducible refine below_drewN ?_))))
    intro X24 hX24
    have sX24 := hX24.size
    refine (below_any 2 _ _ _ _ _ (by omega) (by omega) (show Cur _ _ _ _ _ from ⟨_, _, Blk.past hX24 cu_23, cu_i0, cu_i1⟩) ⟨cells_below bc_23 hX24 (by omega), bc_s.out, bc_l.out⟩).mono ?_
    clear cu_i0 cu_i1
    rintro e w24 ⟨y, rfl, y0, y1, ⟨i_24, h_24, cu_24, cu_i0, cu_i1⟩, hY24⟩
    have s24 := hY24.size
    have b_24 := below0_touch hY24 (b_23.trans (hX24.mono (by omega)))
    have T_24 := (T_23.trans (Touch.of_below hX24)).trans hY24
    have bc_24 := cells_touch hY24 (cells_below bc_23 hX24 (by omega)) (by omega) (by first | (simp; done) | (simp; omega))
    have r_24 := Blk.touch hY24 (Blk.past hX24 r_23) (by first | (simp; done) | (simp; omega))
    have z_24 := Blk.touch hY24 (Blk.past hX24 z_23) (by first | (simp; done) | (simp; omega))
    clear T_23 bc_23 cu_23 r_23 z_23 b_23 cell_cu froz_cu lt_cu cell_r froz_r lt_r cell_z froz_z lt_z hX24 hY24
    have cell_cu := cu_24.cell
    have froz_cu := cu_24.frozen
    have lt_cu := cu_24.lt
    have cell_r := r_24.cell
    have froz_r := r_24.frozen
    have lt_r := r_24.lt
    have cell_z := z_24.cell
    have froz_z := z_24.frozen
    have lt_z := z_24.lt
    go_wp2_with fail
    refine calls_touch1 (w0 := w24) (L := [w4.heap.size]) (b0 := w4.heap.size) (t0 := 75) (c0 := #[.int .i64 2, .int .i64 d, .int .i64 x, .int .i64 f, .int .i64 g, .int .i64 y]) ?_ ?_ ?_
    (focus (first | ((repeat (first | (with_reducible assumption) | (with_reducible apply Blk.drew) | (with_reducible apply Blk.drewN) | (with_reducible apply Blk.new; first | rfl | (simp; done)) | (with_reducible apply Blk.alloc) | (with_reducible apply Blk.set_) | (with_reducible apply Blk.past; focus assumption) | (with_reducible apply Blk.far; focus (first | (simp; done) | (simp; omega) | (dsimp only; omega))))); done) | (apply Blk.cast; (case h => (repeat (first | (with_reducible assumption) | (with_reducible apply Blk.drew) | (with_reducible apply Blk.drewN) | (with_reducible apply Blk.new; first | rfl | (simp; done)) | (with_reducible apply Blk.alloc) | (with_reducible apply Blk.set_) | (with_reducible apply Blk.past; focus assumption) | (with_reducible apply Blk.far; focus (first | (simp; done) | (simp; omega) | (dsimp only; omega)))))); (case e => rfl))))
    (focus (repeat (first | (with_reducible exact Touch.refl _ _) | (with_reducible assumption) | (with_reducible apply Touch.drew) | (with_reducible apply Touch.drewN) | (with_reducible apply Touch.alloc) | (with_reducible refine Touch.set_ ?_ _ _ (by simp; done)) | (with_reducible refine Touch.set_new ?_ _ _ (by first | omega | (simp; omega) | (dsimp only; omega))))))
    intro w25 z_25 hX25
    have sX25 := hX25.size
    have b_25 := below0_touch hX25 b_24
    have T_25 := T_24.trans_new hX25 (by first | (simp; done) | (simp; omega))
    have bc_25 := cells_touch hX25 bc_24 (by omega) (by first | (simp; done) | (simp; omega))
    have cu_25 := Blk.touch hX25 cu_24 (by first | (simp; done) | (simp; omega))
    have r_25 := Blk.touch hX25 r_24 (by first | (simp; done) | (simp; omega))
    clear T_24 bc_24 cu_24 r_24 z_24 b_24 cell_cu froz_cu lt_cu cell_r froz_r lt_r cell_z froz_z lt_z hX25
    have cell_cu := cu_25.cell
    have froz_cu := cu_25.frozen
    have lt_cu := cu_25.lt
    have cell_r := r_25.cell
    have froz_r := r_25.frozen
    have lt_r := r_25.lt
    have cell_z := z_25.cell
    have froz_z := z_25.frozen
    have lt_z := z_25.lt
    go_wp2_with fail
    refine calls_forget0 (W := w25) ?_ ?_
    (focus (repeat (first | (with_reducible exact Below.refl _ _) | (with_reducible refine Below.trans ?_ (Below.mono (by assumption) (by first | omega | (simp; done) | (simp; omega) | (simp [*]; done)))) | (with_reducible refine Below.alloc ?_ (by first | omega | (simp; done) | (simp; omega) | (simp [*]; done)) _) | (with_reducible refine Below.setCell ?_ (by first | omega | (simp; done) | (simp; omega) | (simp [*]; done)) _) | (with_reducible refine Below.drew ?_) | (with_reducible refine below_drewN ?_))))
    intro X26 hX26
    have sX26 := hX26.size
    refine (sPlain8 _ _ _ _ _ _ _).mono ?_
    rintro e w26 ⟨x0, x1, x2, x3, x4, x5, rfl, hb26⟩
    have s26 := hb26.size
    have hT26 := hX26.trans (hb26.mono sX26)
    have b_26 := b_25.trans (hT26.mono (by omega))
    have T_26 := T_25.trans (Touch.of_below hT26)
    have bc_26 := cells_below bc_25 hT26 (by omega)
    have cu_26 := Blk.past hT26 cu_25
    have r_26 := Blk.past hT26 r_25
    have z_26 := Blk.past hT26 z_25
    clear T_25 bc_25 cu_25 r_25 z_25 b_25 cell_cu froz_cu lt_cu cell_r froz_r lt_r cell_z froz_z lt_z hX26 hT26 hb26
    have cell_cu := cu_26.cell
    have froz_cu := cu_26.frozen
    have lt_cu := cu_26.lt
    have cell_r := r_26.cell
    have froz_r := r_26.frozen
    have lt_r := r_26.lt
    have cell_z := z_26.cell
    have froz_z := z_26.frozen
    have lt_z := z_26.lt
    go_wp2_with fail
    ((try simp only [Exit.inBlock, Exit.then]); apply bodyPost_ret0; focus ((try simp only [results, Try.results55]); (try go_simp); (try rfl)))
    refine ⟨x0, x1, x2, x3, x4, x5, rfl, ?_, ?_⟩
    · exact Cur.touch (L := [w.heap.size]) ⟨_, _, cu_26, cu_i0, cu_i1⟩ (by repeat (first | (with_reducible exact Touch.refl _ _) | (with_reducible assumption) | (with_reducible apply Touch.drew) | (with_reducible apply Touch.drewN) | (with_reducible apply Touch.alloc) | (with_reducible refine Touch.set_ ?_ _ _ (by simp; done)) | (with_reducible refine Touch.set_new ?_ _ _ (by first | omega | (simp; omega) | (dsimp only; omega))))) (by simp; omega)
    · exact T_26.trans_new (M := [w.heap.size]) (by repeat (first | (with_reducible exact Touch.refl _ _) | (with_reducible assumption) | (with_reducible apply Touch.drew) | (with_reducible apply Touch.drewN) | (with_reducible apply Touch.alloc) | (with_reducible refine Touch.set_ ?_ _ _ (by simp; done)) | (with_reducible refine Touch.set_new ?_ _ _ (by first | omega | (simp; omega) | (dsimp only; omega))))) (by simp)
  · skip
    have b_20 := (Below.refl 0 w5)
    have s_20 := b_20.size
    have T_20 := T_5
    have bc_20 := bc_5
    clear bc_5
    have cu_20 := cu_5
    clear cu_5
    have cu_lt := cu_20.lt
    have cell_cu := cu_20.cell
    have froz_cu := cu_20.frozen
    have lt_cu := cu_20.lt
    have r_20 := r_5
    clear r_5
    have r_lt := r_20.lt
    have cell_r := r_20.cell
    have froz_r := r_20.frozen
    have lt_r := r_20.lt
    have z_20 := z_5
    clear z_5
    have z_lt := z_20.lt
    have cell_z := z_20.cell
    have froz_z := z_20.frozen
    have lt_z := z_20.lt
    go_wp2_with fail
    refine calls_touch1 (w0 := w5) (L := [w4.heap.size]) (b0 := w4.heap.size) (t0 := 75) (c0 := #[.int .i64 2, .int .i64 d, .int .i64 a, .int .i64 f, .int .i64 g, .int .i64 0]) ?_ ?_ ?_
    (focus (first | ((repeat (first | (with_reducible assumption) | (with_reducible apply Blk.drew) | (with_reducible apply Blk.drewN) | (with_reducible apply Blk.new; first | rfl | (simp; done)) | (with_reducible apply Blk.alloc) | (with_reducible apply Blk.set_) | (with_reducible apply Blk.past; focus assumption) | (with_reducible apply Blk.far; focus (first | (simp; done) | (simp; omega) | (dsimp only; omega))))); done) | (apply Blk.cast; (case h => (repeat (first | (with_reducible assumption) | (with_reducible apply Blk.drew) | (with_reducible apply Blk.drewN) | (with_reducible apply Blk.new; first | rfl | (simp; done)) | (with_reducible apply Blk.alloc) | (with_reducible apply Blk.set_) | (with_reducible apply Blk.past; focus assumption) | (with_reducible apply Blk.far; focus (first | (simp; done) | (simp; omega) | (dsimp only; omega)))))); (case e => rfl))))
    (focus (repeat (first | (with_reducible exact Touch.refl _ _) | (with_reducible assumption) | (with_reducible apply Touch.drew) | (with_reducible apply Touch.drewN) | (with_reducible apply Touch.alloc) | (with_reducible refine Touch.set_ ?_ _ _ (by simp; done)) | (with_reducible refine Touch.set_new ?_ _ _ (by first | omega | (simp; omega) | (dsimp only; omega))))))
    intro w21 z_21 hX21
    have sX21 := hX21.size
    have b_21 := below0_touch hX21 b_20
    have T_21 := T_20.trans_new hX21 (by first | (simp; done) | (simp; omega))
    have bc_21 := cells_touch hX21 bc_20 (by omega) (by first | (simp; done) | (simp; omega))
    have cu_21 := Blk.touch hX21 cu_20 (by first | (simp; done) | (simp; omega))
    have r_21 := Blk.touch hX21 r_20 (by first | (simp; done) | (simp; omega))
    clear T_20 bc_20 cu_20 r_20 z_20 b_20 cell_cu froz_cu lt_cu cell_r froz_r lt_r cell_z froz_z lt_z hX21
    have cell_cu := cu_21.cell
    have froz_cu := cu_21.frozen
    have lt_cu := cu_21.lt
    have cell_r := r_21.cell
    have froz_r := r_21.frozen
    have lt_r := r_21.lt
    have cell_z := z_21.cell
    have froz_z := z_21.frozen
    have lt_z := z_21.lt
    go_wp2_with fail
    refine calls_forget0 (W := w21) ?_ ?_
    (focus (repeat (first | (with_reducible exact Below.refl _ _) | (with_reducible refine Below.trans ?_ (Below.mono (by assumption) (by first | omega | (simp; done) | (simp; omega) | (simp [*]; done)))) | (with_reducible refine Below.alloc ?_ (by first | omega | (simp; done) | (simp; omega) | (simp [*]; done)) _) | (with_reducible refine Below.setCell ?_ (by first | omega | (simp; done) | (simp; omega) | (simp [*]; done)) _) | (with_reducible refine Below.drew ?_) | (with_reducible refine below_drewN ?_))))
    intro X22 hX22
    have sX22 := hX22.size
    refine (below_any 3 _ _ _ _ _ (by omega) (by omega) (show Cur _ _ _ _ _ from ⟨_, _, Blk.past hX22 cu_21, cu_i0, cu_i1⟩) ⟨cells_below bc_21 hX22 (by omega), bc_s.out, bc_l.out⟩).mono ?_
    clear cu_i0 cu_i1
    rintro e w22 ⟨x, rfl, x0, x1, ⟨i_22, h_22, cu_22, cu_i0, cu_i1⟩, hY22⟩
    have s22 := hY22.size
    have b_22 := below0_touch hY22 (b_21.trans (hX22.mono (by omega)))
    have T_22 := (T_21.trans (Touch.of_below hX22)).trans hY22
    have bc_22 := cells_touch hY22 (cells_below bc_21 hX22 (by omega)) (by omega) (by first | (simp; done) | (simp; omega))
    have r_22 := Blk.touch hY22 (Blk.past hX22 r_21) (by first | (simp; done) | (simp; omega))
    have z_22 := Blk.touch hY22 (Blk.past hX22 z_21) (by first | (simp; done) | (simp; omega))
    clear T_21 bc_21 cu_21 r_21 z_21 b_21 cell_cu froz_cu lt_cu cell_r froz_r lt_r cell_z froz_z lt_z hX22 hY22
    have cell_cu := cu_22.cell
    have froz_cu := cu_22.frozen
    have lt_cu := cu_22.lt
    have cell_r := r_22.cell
    have froz_r := r_22.frozen
    have lt_r := r_22.lt
    have cell_z := z_22.cell
    have froz_z := z_22.frozen
    have lt_z := z_22.lt
    go_wp2_with fail
    refine calls_touch1 (w0 := w22) (L := [w4.heap.size]) (b0 := w4.heap.size) (t0 := 75) (c0 := #[.int .i64 2, .int .i64 d, .int .i64 x, .int .i64 f, .int .i64 g, .int .i64 0]) ?_ ?_ ?_
    (focus (first | ((repeat (first | (with_reducible assumption) | (with_reducible apply Blk.drew) | (with_reducible apply Blk.drewN) | (with_reducible apply Blk.new; first | rfl | (simp; done)) | (with_reducible apply Blk.alloc) | (with_reducible apply Blk.set_) | (with_reducible apply Blk.past; focus assumption) | (with_reducible apply Blk.far; focus (first | (simp; done) | (simp; omega) | (dsimp only; omega))))); done) | (apply Blk.cast; (case h => (repeat (first | (with_reducible assumption) | (with_reducible apply Blk.drew) | (with_reducible apply Blk.drewN) | (with_reducible apply Blk.new; first | rfl | (simp; done)) | (with_reducible apply Blk.alloc) | (with_reducible apply Blk.set_) | (with_reducible apply Blk.past; focus assumption) | (with_reducible apply Blk.far; focus (first | (simp; done) | (simp; omega) | (dsimp only; omega)))))); (case e => rfl))))
    (focus (repeat (first | (with_reducible exact Touch.refl _ _) | (with_reducible assumption) | (with_reducible apply Touch.drew) | (with_reducible apply Touch.drewN) | (with_reducible apply Touch.alloc) | (with_reducible refine Touch.set_ ?_ _ _ (by simp; done)) | (with_reducible refine Touch.set_new ?_ _ _ (by first | omega | (simp; omega) | (dsimp only; omega))))))
    intro w23 z_23 hX23
    have sX23 := hX23.size
    have b_23 := below0_touch hX23 b_22
    have T_23 := T_22.trans_new hX23 (by first | (simp; done) | (simp; omega))
    have bc_23 := cells_touch hX23 bc_22 (by omega) (by first | (simp; done) | (simp; omega))
    have cu_23 := Blk.touch hX23 cu_22 (by first | (simp; done) | (simp; omega))
    have r_23 := Blk.touch hX23 r_22 (by first | (simp; done) | (simp; omega))
    clear T_22 bc_22 cu_22 r_22 z_22 b_22 cell_cu froz_cu lt_cu cell_r froz_r lt_r cell_z froz_z lt_z hX23
    have cell_cu := cu_23.cell
    have froz_cu := cu_23.frozen
    have lt_cu := cu_23.lt
    have cell_r := r_23.cell
    have froz_r := r_23.frozen
    have lt_r := r_23.lt
    have cell_z := z_23.cell
    have froz_z := z_23.frozen
    have lt_z := z_23.lt
    go_wp2_with fail
    refine calls_forget0 (W := w23) ?_ ?_
    (focus (repeat (first | (with_reducible exact Below.refl _ _) | (with_reducible refine Below.trans ?_ (Below.mono (by assumption) (by first | omega | (simp; done) | (simp; omega) | (simp [*]; done)))) | (with_reducible refine Below.alloc ?_ (by first | omega | (simp; done) | (simp; omega) | (simp [*]; done)) _) | (with_reducible refine Below.setCell ?_ (by first | omega | (simp; done) | (simp; omega) | (simp [*]; done)) _) | (with_reducible refine Below.drew ?_) | (with_reducible refine below_drewN ?_))))
    intro X24 hX24
    have sX24 := hX24.size
    refine (below_any 2 _ _ _ _ _ (by omega) (by omega) (show Cur _ _ _ _ _ from ⟨_, _, Blk.past hX24 cu_23, cu_i0, cu_i1⟩) ⟨cells_below bc_23 hX24 (by omega), bc_s.out, bc_l.out⟩).mono ?_
    clear cu_i0 cu_i1
    rintro e w24 ⟨y, rfl, y0, y1, ⟨i_24, h_24, cu_24, cu_i0, cu_i1⟩, hY24⟩
    have s24 := hY24.size
    have b_24 := below0_touch hY24 (b_23.trans (hX24.mono (by omega)))
    have T_24 := (T_23.trans (Touch.of_below hX24)).trans hY24
    have bc_24 := cells_touch hY24 (cells_below bc_23 hX24 (by omega)) (by omega) (by first | (simp; done) | (simp; omega))
    have r_24 := Blk.touch hY24 (Blk.past hX24 r_23) (by first | (simp; done) | (simp; omega))
    have z_24 := Blk.touch hY24 (Blk.past hX24 z_23) (by first | (simp; done) | (simp; omega))
    clear T_23 bc_23 cu_23 r_23 z_23 b_23 cell_cu froz_cu lt_cu cell_r froz_r lt_r cell_z froz_z lt_z hX24 hY24
    have cell_cu := cu_24.cell
    have froz_cu := cu_24.frozen
    have lt_cu := cu_24.lt
    have cell_r := r_24.cell
    have froz_r := r_24.frozen
    have lt_r := r_24.lt
    have cell_z := z_24.cell
    have froz_z := z_24.frozen
    have lt_z := z_24.lt
    go_wp2_with fail
    refine calls_touch1 (w0 := w24) (L := [w4.heap.size]) (b0 := w4.heap.size) (t0 := 75) (c0 := #[.int .i64 2, .int .i64 d, .int .i64 x, .int .i64 f, .int .i64 g, .int .i64 y]) ?_ ?_ ?_
    (focus (first | ((repeat (first | (with_reducible assumption) | (with_reducible apply Blk.drew) | (with_reducible apply Blk.drewN) | (with_reducible apply Blk.new; first | rfl | (simp; done)) | (with_reducible apply Blk.alloc) | (with_reducible apply Blk.set_) | (with_reducible apply Blk.past; focus assumption) | (with_reducible apply Blk.far; focus (first | (simp; done) | (simp; omega) | (dsimp only; omega))))); done) | (apply Blk.cast; (case h => (repeat (first | (with_reducible assumption) | (with_reducible apply Blk.drew) | (with_reducible apply Blk.drewN) | (with_reducible apply Blk.new; first | rfl | (simp; done)) | (with_reducible apply Blk.alloc) | (with_reducible apply Blk.set_) | (with_reducible apply Blk.past; focus assumption) | (with_reducible apply Blk.far; focus (first | (simp; done) | (simp; omega) | (dsimp only; omega)))))); (case e => rfl))))
    (focus (repeat (first | (with_reducible exact Touch.refl _ _) | (with_reducible assumption) | (with_reducible apply Touch.drew) | (with_reducible apply Touch.drewN) | (with_reducible apply Touch.alloc) | (with_reducible refine Touch.set_ ?_ _ _ (by simp; done)) | (with_reducible refine Touch.set_new ?_ _ _ (by first | omega | (simp; omega) | (dsimp only; omega))))))
    intro w25 z_25 hX25
    have sX25 := hX25.size
    have b_25 := below0_touch hX25 b_24
    have T_25 := T_24.trans_new hX25 (by first | (simp; done) | (simp; omega))
    have bc_25 := cells_touch hX25 bc_24 (by omega) (by first | (simp; done) | (simp; omega))
    have cu_25 := Blk.touch hX25 cu_24 (by first | (simp; done) | (simp; omega))
    have r_25 := Blk.touch hX25 r_24 (by first | (simp; done) | (simp; omega))
    clear T_24 bc_24 cu_24 r_24 z_24 b_24 cell_cu froz_cu lt_cu cell_r froz_r lt_r cell_z froz_z lt_z hX25
    have cell_cu := cu_25.cell
    have froz_cu := cu_25.frozen
    have lt_cu := cu_25.lt
    have cell_r := r_25.cell
    have froz_r := r_25.frozen
    have lt_r := r_25.lt
    have cell_z := z_25.cell
    have froz_z := z_25.frozen
    have lt_z := z_25.lt
    go_wp2_with fail
    refine calls_forget0 (W := w25) ?_ ?_
    (focus (repeat (first | (with_reducible exact Below.refl _ _) | (with_reducible refine Below.trans ?_ (Below.mono (by assumption) (by first | omega | (simp; done) | (simp; omega) | (simp [*]; done)))) | (with_reducible refine Below.alloc ?_ (by first | omega | (simp; done) | (simp; omega) | (simp [*]; done)) _) | (with_reducible refine Below.setCell ?_ (by first | omega | (simp; done) | (simp; omega) | (simp [*]; done)) _) | (with_reducible refine Below.drew ?_) | (with_reducible refine below_drewN ?_))))
    intro X26 hX26
    have sX26 := hX26.size
    refine (sPlain8 _ _ _ _ _ _ _).mono ?_
    rintro e w26 ⟨x0, x1, x2, x3, x4, x5, rfl, hb26⟩
    have s26 := hb26.size
    have hT26 := hX26.trans (hb26.mono sX26)
    have b_26 := b_25.trans (hT26.mono (by omega))
    have T_26 := T_25.trans (Touch.of_below hT26)
    have bc_26 := cells_below bc_25 hT26 (by omega)
    have cu_26 := Blk.past hT26 cu_25
    have r_26 := Blk.past hT26 r_25
    have z_26 := Blk.past hT26 z_25
    clear T_25 bc_25 cu_25 r_25 z_25 b_25 cell_cu froz_cu lt_cu cell_r froz_r lt_r cell_z froz_z lt_z hX26 hT26 hb26
    have cell_cu := cu_26.cell
    have froz_cu := cu_26.frozen
    have lt_cu := cu_26.lt
    have cell_r := r_26.cell
    have froz_r := r_26.frozen
    have lt_r := r_26.lt
    have cell_z := z_26.cell
    have froz_z := z_26.frozen
    have lt_z := z_26.lt
    go_wp2_with fail
    ((try simp only [Exit.inBlock, Exit.then]); apply bodyPost_ret0; focus ((try simp only [results, Try.results55]); (try go_simp); (try rfl)))
    refine ⟨x0, x1, x2, x3, x4, x5, rfl, ?_, ?_⟩
    · exact Cur.touch (L := [w.heap.size]) ⟨_, _, cu_26, cu_i0, cu_i1⟩ (by repeat (first | (with_reducible exact Touch.refl _ _) | (with_reducible assumption) | (with_reducible apply Touch.drew) | (with_reducible apply Touch.drewN) | (with_reducible apply Touch.alloc) | (with_reducible refine Touch.set_ ?_ _ _ (by simp; done)) | (with_reducible refine Touch.set_new ?_ _ _ (by first | omega | (simp; omega) | (dsimp only; omega))))) (by simp; omega)
    · exact T_26.trans_new (M := [w.heap.size]) (by repeat (first | (with_reducible exact Touch.refl _ _) | (with_reducible assumption) | (with_reducible apply Touch.drew) | (with_reducible apply Touch.drewN) | (with_reducible apply Touch.alloc) | (with_reducible refine Touch.set_ ?_ _ _ (by simp; done)) | (with_reducible refine Touch.set_new ?_ _ _ (by first | omega | (simp; omega) | (dsimp only; omega))))) (by simp)
  · skip
    have b_20 := (Below.refl 0 w5)
    have s_20 := b_20.size
    have T_20 := T_5
    have bc_20 := bc_5
    clear bc_5
    have cu_20 := cu_5
    clear cu_5
    have cu_lt := cu_20.lt
    have cell_cu := cu_20.cell
    have froz_cu := cu_20.frozen
    have lt_cu := cu_20.lt
    have r_20 := r_5
    clear r_5
    have r_lt := r_20.lt
    have cell_r := r_20.cell
    have froz_r := r_20.frozen
    have lt_r := r_20.lt
    have z_20 := z_5
    clear z_5
    have z_lt := z_20.lt
    have cell_z := z_20.cell
    have froz_z := z_20.frozen
    have lt_z := z_20.lt
    go_wp2_with fail
    refine calls_touch1 (w0 := w5) (L := [w4.heap.size]) (b0 := w4.heap.size) (t0 := 75) (c0 := #[.int .i64 2, .int .i64 d, .int .i64 a, .int .i64 f, .int .i64 g, .int .i64 0]) ?_ ?_ ?_
    (focus (first | ((repeat (first | (with_reducible assumption) | (with_reducible apply Blk.drew) | (with_reducible apply Blk.drewN) | (with_reducible apply Blk.new; first | rfl | (simp; done)) | (with_reducible apply Blk.alloc) | (with_reducible apply Blk.set_) | (with_reducible apply Blk.past; focus assumption) | (with_reducible apply Blk.far; focus (first | (simp; done) | (simp; omega) | (dsimp only; omega))))); done) | (apply Blk.cast; (case h => (repeat (first | (with_reducible assumption) | (with_reducible apply Blk.drew) | (with_reducible apply Blk.drewN) | (with_reducible apply Blk.new; first | rfl | (simp; done)) | (with_reducible apply Blk.alloc) | (with_reducible apply Blk.set_) | (with_reducible apply Blk.past; focus assumption) | (with_reducible apply Blk.far; focus (first | (simp; done) | (simp; omega) | (dsimp only; omega)))))); (case e => rfl))))
    (focus (repeat (first | (with_reducible exact Touch.refl _ _) | (with_reducible assumption) | (with_reducible apply Touch.drew) | (with_reducible apply Touch.drewN) | (with_reducible apply Touch.alloc) | (with_reducible refine Touch.set_ ?_ _ _ (by simp; done)) | (with_reducible refine Touch.set_new ?_ _ _ (by first | omega | (simp; omega) | (dsimp only; omega))))))
    intro w21 z_21 hX21
    have sX21 := hX21.size
    have b_21 := below0_touch hX21 b_20
    have T_21 := T_20.trans_new hX21 (by first | (simp; done) | (simp; omega))
    have bc_21 := cells_touch hX21 bc_20 (by omega) (by first | (simp; done) | (simp; omega))
    have cu_21 := Blk.touch hX21 cu_20 (by first | (simp; done) | (simp; omega))
    have r_21 := Blk.touch hX21 r_20 (by first | (simp; done) | (simp; omega))
    clear T_20 bc_20 cu_20 r_20 z_20 b_20 cell_cu froz_cu lt_cu cell_r froz_r lt_r cell_z froz_z lt_z hX21
    have cell_cu := cu_21.cell
    have froz_cu := cu_21.frozen
    have lt_cu := cu_21.lt
    have cell_r := r_21.cell
    have froz_r := r_21.frozen
    have lt_r := r_21.lt
    have cell_z := z_21.cell
    have froz_z := z_21.frozen
    have lt_z := z_21.lt
    go_wp2_with fail
    refine calls_forget0 (W := w21) ?_ ?_
    (focus (repeat (first | (with_reducible exact Below.refl _ _) | (with_reducible refine Below.trans ?_ (Below.mono (by assumption) (by first | omega | (simp; done) | (simp; omega) | (simp [*]; done)))) | (with_reducible refine Below.alloc ?_ (by first | omega | (simp; done) | (simp; omega) | (simp [*]; done)) _) | (with_reducible refine Below.setCell ?_ (by first | omega | (simp; done) | (simp; omega) | (simp [*]; done)) _) | (with_reducible refine Below.drew ?_) | (with_reducible refine below_drewN ?_))))
    intro X22 hX22
    have sX22 := hX22.size
    refine (below_any 3 _ _ _ _ _ (by omega) (by omega) (show Cur _ _ _ _ _ from ⟨_, _, Blk.past hX22 cu_21, cu_i0, cu_i1⟩) ⟨cells_below bc_21 hX22 (by omega), bc_s.out, bc_l.out⟩).mono ?_
    clear cu_i0 cu_i1
    rintro e w22 ⟨x, rfl, x0, x1, ⟨i_22, h_22, cu_22, cu_i0, cu_i1⟩, hY22⟩
    have s22 := hY22.size
    have b_22 := below0_touch hY22 (b_21.trans (hX22.mono (by omega)))
    have T_22 := (T_21.trans (Touch.of_below hX22)).trans hY22
    have bc_22 := cells_touch hY22 (cells_below bc_21 hX22 (by omega)) (by omega) (by first | (simp; done) | (simp; omega))
    have r_22 := Blk.touch hY22 (Blk.past hX22 r_21) (by first | (simp; done) | (simp; omega))
    have z_22 := Blk.touch hY22 (Blk.past hX22 z_21) (by first | (simp; done) | (simp; omega))
    clear T_21 bc_21 cu_21 r_21 z_21 b_21 cell_cu froz_cu lt_cu cell_r froz_r lt_r cell_z froz_z lt_z hX22 hY22
    have cell_cu := cu_22.cell
    have froz_cu := cu_22.frozen
    have lt_cu := cu_22.lt
    have cell_r := r_22.cell
    have froz_r := r_22.frozen
    have lt_r := r_22.lt
    have cell_z := z_22.cell
    have froz_z := z_22.frozen
    have lt_z := z_22.lt
    go_wp2_with fail
    refine calls_touch1 (w0 := w22) (L := [w4.heap.size]) (b0 := w4.heap.size) (t0 := 75) (c0 := #[.int .i64 2, .int .i64 d, .int .i64 x, .int .i64 f, .int .i64 g, .int .i64 0]) ?_ ?_ ?_
    (focus (first | ((repeat (first | (with_reducible assumption) | (with_reducible apply Blk.drew) | (with_reducible apply Blk.drewN) | (with_reducible apply Blk.new; first | rfl | (simp; done)) | (with_reducible apply Blk.alloc) | (with_reducible apply Blk.set_) | (with_reducible apply Blk.past; focus assumption) | (with_reducible apply Blk.far; focus (first | (simp; done) | (simp; omega) | (dsimp only; omega))))); done) | (apply Blk.cast; (case h => (repeat (first | (with_reducible assumption) | (with_reducible apply Blk.drew) | (with_reducible apply Blk.drewN) | (with_reducible apply Blk.new; first | rfl | (simp; done)) | (with_reducible apply Blk.alloc) | (with_reducible apply Blk.set_) | (with_reducible apply Blk.past; focus assumption) | (with_reducible apply Blk.far; focus (first | (simp; done) | (simp; omega) | (dsimp only; omega)))))); (case e => rfl))))
    (focus (repeat (first | (with_reducible exact Touch.refl _ _) | (with_reducible assumption) | (with_reducible apply Touch.drew) | (with_reducible apply Touch.drewN) | (with_reducible apply Touch.alloc) | (with_reducible refine Touch.set_ ?_ _ _ (by simp; done)) | (with_reducible refine Touch.set_new ?_ _ _ (by first | omega | (simp; omega) | (dsimp only; omega))))))
    intro w23 z_23 hX23
    have sX23 := hX23.size
    have b_23 := below0_touch hX23 b_22
    have T_23 := T_22.trans_new hX23 (by first | (simp; done) | (simp; omega))
    have bc_23 := cells_touch hX23 bc_22 (by omega) (by first | (simp; done) | (simp; omega))
    have cu_23 := Blk.touch hX23 cu_22 (by first | (simp; done) | (simp; omega))
    have r_23 := Blk.touch hX23 r_22 (by first | (simp; done) | (simp; omega))
    clear T_22 bc_22 cu_22 r_22 z_22 b_22 cell_cu froz_cu lt_cu cell_r froz_r lt_r cell_z froz_z lt_z hX23
    have cell_cu := cu_23.cell
    have froz_cu := cu_23.frozen
    have lt_cu := cu_23.lt
    have cell_r := r_23.cell
    have froz_r := r_23.frozen
    have lt_r := r_23.lt
    have cell_z := z_23.cell
    have froz_z := z_23.frozen
    have lt_z := z_23.lt
    go_wp2_with fail
    refine calls_forget0 (W := w23) ?_ ?_
    (focus (repeat (first | (with_reducible exact Below.refl _ _) | (with_reducible refine Below.trans ?_ (Below.mono (by assumption) (by first | omega | (simp; done) | (simp; omega) | (simp [*]; done)))) | (with_reducible refine Below.alloc ?_ (by first | omega | (simp; done) | (simp; omega) | (simp [*]; done)) _) | (with_reducible refine Below.setCell ?_ (by first | omega | (simp; done) | (simp; omega) | (simp [*]; done)) _) | (with_reducible refine Below.drew ?_) | (with_reducible refine below_drewN ?_))))
    intro X24 hX24
    have sX24 := hX24.size
    refine (below_any 2 _ _ _ _ _ (by omega) (by omega) (show Cur _ _ _ _ _ from ⟨_, _, Blk.past hX24 cu_23, cu_i0, cu_i1⟩) ⟨cells_below bc_23 hX24 (by omega), bc_s.out, bc_l.out⟩).mono ?_
    clear cu_i0 cu_i1
    rintro e w24 ⟨y, rfl, y0, y1, ⟨i_24, h_24, cu_24, cu_i0, cu_i1⟩, hY24⟩
    have s24 := hY24.size
    have b_24 := below0_touch hY24 (b_23.trans (hX24.mono (by omega)))
    have T_24 := (T_23.trans (Touch.of_below hX24)).trans hY24
    have bc_24 := cells_touch hY24 (cells_below bc_23 hX24 (by omega)) (by omega) (by first | (simp; done) | (simp; omega))
    have r_24 := Blk.touch hY24 (Blk.past hX24 r_23) (by first | (simp; done) | (simp; omega))
    have z_24 := Blk.touch hY24 (Blk.past hX24 z_23) (by first | (simp; done) | (simp; omega))
    clear T_23 bc_23 cu_23 r_23 z_23 b_23 cell_cu froz_cu lt_cu cell_r froz_r lt_r cell_z froz_z lt_z hX24 hY24
    have cell_cu := cu_24.cell
    have froz_cu := cu_24.frozen
    have lt_cu := cu_24.lt
    have cell_r := r_24.cell
    have froz_r := r_24.frozen
    have lt_r := r_24.lt
    have cell_z := z_24.cell
    have froz_z := z_24.frozen
    have lt_z := z_24.lt
    go_wp2_with fail
    refine calls_touch1 (w0 := w24) (L := [w4.heap.size]) (b0 := w4.heap.size) (t0 := 75) (c0 := #[.int .i64 2, .int .i64 d, .int .i64 x, .int .i64 f, .int .i64 g, .int .i64 y]) ?_ ?_ ?_
    (focus (first | ((repeat (first | (with_reducible assumption) | (with_reducible apply Blk.drew) | (with_reducible apply Blk.drewN) | (with_reducible apply Blk.new; first | rfl | (simp; done)) | (with_reducible apply Blk.alloc) | (with_reducible apply Blk.set_) | (with_reducible apply Blk.past; focus assumption) | (with_reducible apply Blk.far; focus (first | (simp; done) | (simp; omega) | (dsimp only; omega))))); done) | (apply Blk.cast; (case h => (repeat (first | (with_reducible assumption) | (with_reducible apply Blk.drew) | (with_reducible apply Blk.drewN) | (with_reducible apply Blk.new; first | rfl | (simp; done)) | (with_reducible apply Blk.alloc) | (with_reducible apply Blk.set_) | (with_reducible apply Blk.past; focus assumption) | (with_reducible apply Blk.far; focus (first | (simp; done) | (simp; omega) | (dsimp only; omega)))))); (case e => rfl))))
    (focus (repeat (first | (with_reducible exact Touch.refl _ _) | (with_reducible assumption) | (with_reducible apply Touch.drew) | (with_reducible apply Touch.drewN) | (with_reducible apply Touch.alloc) | (with_reducible refine Touch.set_ ?_ _ _ (by simp; done)) | (with_reducible refine Touch.set_new ?_ _ _ (by first | omega | (simp; omega) | (dsimp only; omega))))))
    intro w25 z_25 hX25
    have sX25 := hX25.size
    have b_25 := below0_touch hX25 b_24
    have T_25 := T_24.trans_new hX25 (by first | (simp; done) | (simp; omega))
    have bc_25 := cells_touch hX25 bc_24 (by omega) (by first | (simp; done) | (simp; omega))
    have cu_25 := Blk.touch hX25 cu_24 (by first | (simp; done) | (simp; omega))
    have r_25 := Blk.touch hX25 r_24 (by first | (simp; done) | (simp; omega))
    clear T_24 bc_24 cu_24 r_24 z_24 b_24 cell_cu froz_cu lt_cu cell_r froz_r lt_r cell_z froz_z lt_z hX25
    have cell_cu := cu_25.cell
    have froz_cu := cu_25.frozen
    have lt_cu := cu_25.lt
    have cell_r := r_25.cell
    have froz_r := r_25.frozen
    have lt_r := r_25.lt
    have cell_z := z_25.cell
    have froz_z := z_25.frozen
    have lt_z := z_25.lt
    go_wp2_with fail
    refine calls_forget0 (W := w25) ?_ ?_
    (focus (repeat (first | (with_reducible exact Below.refl _ _) | (with_reducible refine Below.trans ?_ (Below.mono (by assumption) (by first | omega | (simp; done) | (simp; omega) | (simp [*]; done)))) | (with_reducible refine Below.alloc ?_ (by first | omega | (simp; done) | (simp; omega) | (simp [*]; done)) _) | (with_reducible refine Below.setCell ?_ (by first | omega | (simp; done) | (simp; omega) | (simp [*]; done)) _) | (with_reducible refine Below.drew ?_) | (with_reducible refine below_drewN ?_))))
    intro X26 hX26
    have sX26 := hX26.size
    refine (sPlain8 _ _ _ _ _ _ _).mono ?_
    rintro e w26 ⟨x0, x1, x2, x3, x4, x5, rfl, hb26⟩
    have s26 := hb26.size
    have hT26 := hX26.trans (hb26.mono sX26)
    have b_26 := b_25.trans (hT26.mono (by omega))
    have T_26 := T_25.trans (Touch.of_below hT26)
    have bc_26 := cells_below bc_25 hT26 (by omega)
    have cu_26 := Blk.past hT26 cu_25
    have r_26 := Blk.past hT26 r_25
    have z_26 := Blk.past hT26 z_25
    clear T_25 bc_25 cu_25 r_25 z_25 b_25 cell_cu froz_cu lt_cu cell_r froz_r lt_r cell_z froz_z lt_z hX26 hT26 hb26
    have cell_cu := cu_26.cell
    have froz_cu := cu_26.frozen
    have lt_cu := cu_26.lt
    have cell_r := r_26.cell
    have froz_r := r_26.frozen
    have lt_r := r_26.lt
    have cell_z := z_26.cell
    have froz_z := z_26.frozen
    have lt_z := z_26.lt
    go_wp2_with fail
    ((try simp only [Exit.inBlock, Exit.then]); apply bodyPost_ret0; focus ((try simp only [results, Try.results55]); (try go_simp); (try rfl)))
    refine ⟨x0, x1, x2, x3, x4, x5, rfl, ?_, ?_⟩
    · exact Cur.touch (L := [w.heap.size]) ⟨_, _, cu_26, cu_i0, cu_i1⟩ (by repeat (first | (with_reducible exact Touch.refl _ _) | (with_reducible assumption) | (with_reducible apply Touch.drew) | (with_reducible apply Touch.drewN) | (with_reducible apply Touch.alloc) | (with_reducible refine Touch.set_ ?_ _ _ (by simp; done)) | (with_reducible refine Touch.set_new ?_ _ _ (by first | omega | (simp; omega) | (dsimp only; omega))))) (by simp; omega)
    · exact T_26.trans_new (M := [w.heap.size]) (by repeat (first | (with_reducible exact Touch.refl _ _) | (with_reducible assumption) | (with_reducible apply Touch.drew) | (with_reducible apply Touch.drewN) | (with_reducible apply Touch.alloc) | (with_reducible refine Touch.set_ ?_ _ _ (by simp; done)) | (with_reducible refine Touch.set_new ?_ _ _ (by first | omega | (simp; omega) | (dsimp only; omega))))) (by simp)
  · skip
    have b_20 := (Below.refl 0 w5)
    have s_20 := b_20.size
    have T_20 := T_5
    have bc_20 := bc_5
    clear bc_5
    have cu_20 := cu_5
    clear cu_5
    have cu_lt := cu_20.lt
    have cell_cu := cu_20.cell
    have froz_cu := cu_20.frozen
    have lt_cu := cu_20.lt
    have r_20 := r_5
    clear r_5
    have r_lt := r_20.lt
    have cell_r := r_20.cell
    have froz_r := r_20.frozen
    have lt_r := r_20.lt
    have z_20 := z_5
    clear z_5
    have z_lt := z_20.lt
    have cell_z := z_20.cell
    have froz_z := z_20.frozen
    have lt_z := z_20.lt
    go_wp2_with fail
    refine calls_touch1 (w0 := w5) (L := [w4.heap.size]) (b0 := w4.heap.size) (t0 := 75) (c0 := #[.int .i64 10, .int .i64 d, .int .i64 a, .int .i64 f, .int .i64 g, .int .i64 0]) ?_ ?_ ?_
    (focus (first | ((repeat (first | (with_reducible assumption) | (with_reducible apply Blk.drew) | (with_reducible apply Blk.drewN) | (with_reducible apply Blk.new; first | rfl | (simp; done)) | (with_reducible apply Blk.alloc) | (with_reducible apply Blk.set_) | (with_reducible apply Blk.past; focus assumption) | (with_reducible apply Blk.far; focus (first | (simp; done) | (simp; omega) | (dsimp only; omega))))); done) | (apply Blk.cast; (case h => (repeat (first | (with_reducible assumption) | (with_reducible apply Blk.drew) | (with_reducible apply Blk.drewN) | (with_reducible apply Blk.new; first | rfl | (simp; done)) | (with_reducible apply Blk.alloc) | (with_reducible apply Blk.set_) | (with_reducible apply Blk.past; focus assumption) | (with_reducible apply Blk.far; focus (first | (simp; done) | (simp; omega) | (dsimp only; omega)))))); (case e => rfl))))
    (focus (repeat (first | (with_reducible exact Touch.refl _ _) | (with_reducible assumption) | (with_reducible apply Touch.drew) | (with_reducible apply Touch.drewN) | (with_reducible apply Touch.alloc) | (with_reducible refine Touch.set_ ?_ _ _ (by simp; done)) | (with_reducible refine Touch.set_new ?_ _ _ (by first | omega | (simp; omega) | (dsimp only; omega))))))
    intro w21 z_21 hX21
    have sX21 := hX21.size
    have b_21 := below0_touch hX21 b_20
    have T_21 := T_20.trans_new hX21 (by first | (simp; done) | (simp; omega))
    have bc_21 := cells_touch hX21 bc_20 (by omega) (by first | (simp; done) | (simp; omega))
    have cu_21 := Blk.touch hX21 cu_20 (by first | (simp; done) | (simp; omega))
    have r_21 := Blk.touch hX21 r_20 (by first | (simp; done) | (simp; omega))
    clear T_20 bc_20 cu_20 r_20 z_20 b_20 cell_cu froz_cu lt_cu cell_r froz_r lt_r cell_z froz_z lt_z hX21
    have cell_cu := cu_21.cell
    have froz_cu := cu_21.frozen
    have lt_cu := cu_21.lt
    have cell_r := r_21.cell
    have froz_r := r_21.frozen
    have lt_r := r_21.lt
    have cell_z := z_21.cell
    have froz_z := z_21.frozen
    have lt_z := z_21.lt
    go_wp2_with fail
    refine calls_forget0 (W := w21) ?_ ?_
    (focus (repeat (first | (with_reducible exact Below.refl _ _) | (with_reducible refine Below.trans ?_ (Below.mono (by assumption) (by first | omega | (simp; done) | (simp; omega) | (simp [*]; done)))) | (with_reducible refine Below.alloc ?_ (by first | omega | (simp; done) | (simp; omega) | (simp [*]; done)) _) | (with_reducible refine Below.setCell ?_ (by first | omega | (simp; done) | (simp; omega) | (simp [*]; done)) _) | (with_reducible refine Below.drew ?_) | (with_reducible refine below_drewN ?_))))
    intro X22 hX22
    have sX22 := hX22.size
    refine (sPlain8 _ _ _ _ _ _ _).mono ?_
    rintro e w22 ⟨x0, x1, x2, x3, x4, x5, rfl, hb22⟩
    have s22 := hb22.size
    have hT22 := hX22.trans (hb22.mono sX22)
    have b_22 := b_21.trans (hT22.mono (by omega))
    have T_22 := T_21.trans (Touch.of_below hT22)
    have bc_22 := cells_below bc_21 hT22 (by omega)
    have cu_22 := Blk.past hT22 cu_21
    have r_22 := Blk.past hT22 r_21
    have z_22 := Blk.past hT22 z_21
    clear T_21 bc_21 cu_21 r_21 z_21 b_21 cell_cu froz_cu lt_cu cell_r froz_r lt_r cell_z froz_z lt_z hX22 hT22 hb22
    have cell_cu := cu_22.cell
    have froz_cu := cu_22.frozen
    have lt_cu := cu_22.lt
    have cell_r := r_22.cell
    have froz_r := r_22.frozen
    have lt_r := r_22.lt
    have cell_z := z_22.cell
    have froz_z := z_22.frozen
    have lt_z := z_22.lt
    go_wp2_with fail
    ((try simp only [Exit.inBlock, Exit.then]); apply bodyPost_ret0; focus ((try simp only [results, Try.results55]); (try go_simp); (try rfl)))
    refine ⟨x0, x1, x2, x3, x4, x5, rfl, ?_, ?_⟩
    · exact Cur.touch (L := [w.heap.size]) ⟨_, _, cu_22, cu_i0, cu_i1⟩ (by repeat (first | (with_reducible exact Touch.refl _ _) | (with_reducible assumption) | (with_reducible apply Touch.drew) | (with_reducible apply Touch.drewN) | (with_reducible apply Touch.alloc) | (with_reducible refine Touch.set_ ?_ _ _ (by simp; done)) | (with_reducible refine Touch.set_new ?_ _ _ (by first | omega | (simp; omega) | (dsimp only; omega))))) (by simp; omega)
    · exact T_22.trans_new (M := [w.heap.size]) (by repeat (first | (with_reducible exact Touch.refl _ _) | (with_reducible assumption) | (with_reducible apply Touch.drew) | (with_reducible apply Touch.drewN) | (with_reducible apply Touch.alloc) | (with_reducible refine Touch.set_ ?_ _ _ (by simp; done)) | (with_reducible refine Touch.set_new ?_ _ _ (by first | omega | (simp; omega) | (dsimp only; omega))))) (by simp)
  · skip
    have b_20 := (Below.refl 0 w5)
    have s_20 := b_20.size
    have T_20 := T_5
    have bc_20 := bc_5
    clear bc_5
    have cu_20 := cu_5
    clear cu_5
    have cu_lt := cu_20.lt
    have cell_cu := cu_20.cell
    have froz_cu := cu_20.frozen
    have lt_cu := cu_20.lt
    have r_20 := r_5
    clear r_5
    have r_lt := r_20.lt
    have cell_r := r_20.cell
    have froz_r := r_20.frozen
    have lt_r := r_20.lt
    have z_20 := z_5
    clear z_5
    have z_lt := z_20.lt
    have cell_z := z_20.cell
    have froz_z := z_20.frozen
    have lt_z := z_20.lt
    go_wp2_with fail
    refine calls_touch1 (w0 := w5) (L := [w4.heap.size]) (b0 := w4.heap.size) (t0 := 75) (c0 := #[.int .i64 11, .int .i64 d, .int .i64 a, .int .i64 f, .int .i64 g, .int .i64 0]) ?_ ?_ ?_
    (focus (first | ((repeat (first | (with_reducible assumption) | (with_reducible apply Blk.drew) | (with_reducible apply Blk.drewN) | (with_reducible apply Blk.new; first | rfl | (simp; done)) | (with_reducible apply Blk.alloc) | (with_reducible apply Blk.set_) | (with_reducible apply Blk.past; focus assumption) | (with_reducible apply Blk.far; focus (first | (simp; done) | (simp; omega) | (dsimp only; omega))))); done) | (apply Blk.cast; (case h => (repeat (first | (with_reducible assumption) | (with_reducible apply Blk.drew) | (with_reducible apply Blk.drewN) | (with_reducible apply Blk.new; first | rfl | (simp; done)) | (with_reducible apply Blk.alloc) | (with_reducible apply Blk.set_) | (with_reducible apply Blk.past; focus assumption) | (with_reducible apply Blk.far; focus (first | (simp; done) | (simp; omega) | (dsimp only; omega)))))); (case e => rfl))))
    (focus (repeat (first | (with_reducible exact Touch.refl _ _) | (with_reducible assumption) | (with_reducible apply Touch.drew) | (with_reducible apply Touch.drewN) | (with_reducible apply Touch.alloc) | (with_reducible refine Touch.set_ ?_ _ _ (by simp; done)) | (with_reducible refine Touch.set_new ?_ _ _ (by first | omega | (simp; omega) | (dsimp only; omega))))))
    intro w21 z_21 hX21
    have sX21 := hX21.size
    have b_21 := below0_touch hX21 b_20
    have T_21 := T_20.trans_new hX21 (by first | (simp; done) | (simp; omega))
    have bc_21 := cells_touch hX21 bc_20 (by omega) (by first | (simp; done) | (simp; omega))
    have cu_21 := Blk.touch hX21 cu_20 (by first | (simp; done) | (simp; omega))
    have r_21 := Blk.touch hX21 r_20 (by first | (simp; done) | (simp; omega))
    clear T_20 bc_20 cu_20 r_20 z_20 b_20 cell_cu froz_cu lt_cu cell_r froz_r lt_r cell_z froz_z lt_z hX21
    have cell_cu := cu_21.cell
    have froz_cu := cu_21.frozen
    have lt_cu := cu_21.lt
    have cell_r := r_21.cell
    have froz_r := r_21.frozen
    have lt_r := r_21.lt
    have cell_z := z_21.cell
    have froz_z := z_21.frozen
    have lt_z := z_21.lt
    go_wp2_with fail
    refine calls_forget0 (W := w21) ?_ ?_
    (focus (repeat (first | (with_reducible exact Below.refl _ _) | (with_reducible refine Below.trans ?_ (Below.mono (by assumption) (by first | omega | (simp; done) | (simp; omega) | (simp [*]; done)))) | (with_reducible refine Below.alloc ?_ (by first | omega | (simp; done) | (simp; omega) | (simp [*]; done)) _) | (with_reducible refine Below.setCell ?_ (by first | omega | (simp; done) | (simp; omega) | (simp [*]; done)) _) | (with_reducible refine Below.drew ?_) | (with_reducible refine below_drewN ?_))))
    intro X22 hX22
    have sX22 := hX22.size
    refine (sPlain8 _ _ _ _ _ _ _).mono ?_
    rintro e w22 ⟨x0, x1, x2, x3, x4, x5, rfl, hb22⟩
    have s22 := hb22.size
    have hT22 := hX22.trans (hb22.mono sX22)
    have b_22 := b_21.trans (hT22.mono (by omega))
    have T_22 := T_21.trans (Touch.of_below hT22)
    have bc_22 := cells_below bc_21 hT22 (by omega)
    have cu_22 := Blk.past hT22 cu_21
    have r_22 := Blk.past hT22 r_21
    have z_22 := Blk.past hT22 z_21
    clear T_21 bc_21 cu_21 r_21 z_21 b_21 cell_cu froz_cu lt_cu cell_r froz_r lt_r cell_z froz_z lt_z hX22 hT22 hb22
    have cell_cu := cu_22.cell
    have froz_cu := cu_22.frozen
    have lt_cu := cu_22.lt
    have cell_r := r_22.cell
    have froz_r := r_22.frozen
    have lt_r := r_22.lt
    have cell_z := z_22.cell
    have froz_z := z_22.frozen
    have lt_z := z_22.lt
    go_wp2_with fail
    ((try simp only [Exit.inBlock, Exit.then]); apply bodyPost_ret0; focus ((try simp only [results, Try.results55]); (try go_simp); (try rfl)))
    refine ⟨x0, x1, x2, x3, x4, x5, rfl, ?_, ?_⟩
    · exact Cur.touch (L := [w.heap.size]) ⟨_, _, cu_22, cu_i0, cu_i1⟩ (by repeat (first | (with_reducible exact Touch.refl _ _) | (with_reducible assumption) | (with_reducible apply Touch.drew) | (with_reducible apply Touch.drewN) | (with_reducible apply Touch.alloc) | (with_reducible refine Touch.set_ ?_ _ _ (by simp; done)) | (with_reducible refine Touch.set_new ?_ _ _ (by first | omega | (simp; omega) | (dsimp only; omega))))) (by simp; omega)
    · exact T_22.trans_new (M := [w.heap.size]) (by repeat (first | (with_reducible exact Touch.refl _ _) | (with_reducible assumption) | (with_reducible apply Touch.drew) | (with_reducible apply Touch.drewN) | (with_reducible apply Touch.alloc) | (with_reducible refine Touch.set_ ?_ _ _ (by simp; done)) | (with_reducible refine Touch.set_new ?_ _ _ (by first | omega | (simp; omega) | (dsimp only; omega))))) (by simp)
  · skip
    have b_20 := (Below.refl 0 w5)
    have s_20 := b_20.size
    have T_20 := T_5
    have bc_20 := bc_5
    clear bc_5
    have cu_20 := cu_5
    clear cu_5
    have cu_lt := cu_20.lt
    have cell_cu := cu_20.cell
    have froz_cu := cu_20.frozen
    have lt_cu := cu_20.lt
    have r_20 := r_5
    clear r_5
    have r_lt := r_20.lt
    have cell_r := r_20.cell
    have froz_r := r_20.frozen
    have lt_r := r_20.lt
    have z_20 := z_5
    clear z_5
    have z_lt := z_20.lt
    have cell_z := z_20.cell
    have froz_z := z_20.frozen
    have lt_z := z_20.lt
    go_wp2_with fail
    refine calls_touch1 (w0 := w5) (L := [w4.heap.size]) (b0 := w4.heap.size) (t0 := 75) (c0 := #[.int .i64 11, .int .i64 d, .int .i64 a, .int .i64 f, .int .i64 g, .int .i64 0]) ?_ ?_ ?_
    (focus (first | ((repeat (first | (with_reducible assumption) | (with_reducible apply Blk.drew) | (with_reducible apply Blk.drewN) | (with_reducible apply Blk.new; first | rfl | (simp; done)) | (with_reducible apply Blk.alloc) | (with_reducible apply Blk.set_) | (with_reducible apply Blk.past; focus assumption) | (with_reducible apply Blk.far; focus (first | (simp; done) | (simp; omega) | (dsimp only; omega))))); done) | (apply Blk.cast; (case h => (repeat (first | (with_reducible assumption) | (with_reducible apply Blk.drew) | (with_reducible apply Blk.drewN) | (with_reducible apply Blk.new; first | rfl | (simp; done)) | (with_reducible apply Blk.alloc) | (with_reducible apply Blk.set_) | (with_reducible apply Blk.past; focus assumption) | (with_reducible apply Blk.far; focus (first | (simp; done) | (simp; omega) | (dsimp only; omega)))))); (case e => rfl))))
    (focus (repeat (first | (with_reducible exact Touch.refl _ _) | (with_reducible assumption) | (with_reducible apply Touch.drew) | (with_reducible apply Touch.drewN) | (with_reducible apply Touch.alloc) | (with_reducible refine Touch.set_ ?_ _ _ (by simp; done)) | (with_reducible refine Touch.set_new ?_ _ _ (by first | omega | (simp; omega) | (dsimp only; omega))))))
    intro w21 z_21 hX21
    have sX21 := hX21.size
    have b_21 := below0_touch hX21 b_20
    have T_21 := T_20.trans_new hX21 (by first | (simp; done) | (simp; omega))
    have bc_21 := cells_touch hX21 bc_20 (by omega) (by first | (simp; done) | (simp; omega))
    have cu_21 := Blk.touch hX21 cu_20 (by first | (simp; done) | (simp; omega))
    have r_21 := Blk.touch hX21 r_20 (by first | (simp; done) | (simp; omega))
    clear T_20 bc_20 cu_20 r_20 z_20 b_20 cell_cu froz_cu lt_cu cell_r froz_r lt_r cell_z froz_z lt_z hX21
    have cell_cu := cu_21.cell
    have froz_cu := cu_21.frozen
    have lt_cu := cu_21.lt
    have cell_r := r_21.cell
    have froz_r := r_21.frozen
    have lt_r := r_21.lt
    have cell_z := z_21.cell
    have froz_z := z_21.frozen
    have lt_z := z_21.lt
    go_wp2_with fail
    refine calls_forget0 (W := w21) ?_ ?_
    (focus (repeat (first | (with_reducible exact Below.refl _ _) | (with_reducible refine Below.trans ?_ (Below.mono (by assumption) (by first | omega | (simp; done) | (simp; omega) | (simp [*]; done)))) | (with_reducible refine Below.alloc ?_ (by first | omega | (simp; done) | (simp; omega) | (simp [*]; done)) _) | (with_reducible refine Below.setCell ?_ (by first | omega | (simp; done) | (simp; omega) | (simp [*]; done)) _) | (with_reducible refine Below.drew ?_) | (with_reducible refine below_drewN ?_))))
    intro X22 hX22
    have sX22 := hX22.size
    refine (sPlain8 _ _ _ _ _ _ _).mono ?_
    rintro e w22 ⟨x0, x1, x2, x3, x4, x5, rfl, hb22⟩
    have s22 := hb22.size
    have hT22 := hX22.trans (hb22.mono sX22)
    have b_22 := b_21.trans (hT22.mono (by omega))
    have T_22 := T_21.trans (Touch.of_below hT22)
    have bc_22 := cells_below bc_21 hT22 (by omega)
    have cu_22 := Blk.past hT22 cu_21
    have r_22 := Blk.past hT22 r_21
    have z_22 := Blk.past hT22 z_21
    clear T_21 bc_21 cu_21 r_21 z_21 b_21 cell_cu froz_cu lt_cu cell_r froz_r lt_r cell_z froz_z lt_z hX22 hT22 hb22
    have cell_cu := cu_22.cell
    have froz_cu := cu_22.frozen
    have lt_cu := cu_22.lt
    have cell_r := r_22.cell
    have froz_r := r_22.frozen
    have lt_r := r_22.lt
    have cell_z := z_22.cell
    have froz_z := z_22.frozen
    have lt_z := z_22.lt
    go_wp2_with fail
    ((try simp only [Exit.inBlock, Exit.then]); apply bodyPost_ret0; focus ((try simp only [results, Try.results55]); (try go_simp); (try rfl)))
    refine ⟨x0, x1, x2, x3, x4, x5, rfl, ?_, ?_⟩
    · exact Cur.touch (L := [w.heap.size]) ⟨_, _, cu_22, cu_i0, cu_i1⟩ (by repeat (first | (with_reducible exact Touch.refl _ _) | (with_reducible assumption) | (with_reducible apply Touch.drew) | (with_reducible apply Touch.drewN) | (with_reducible apply Touch.alloc) | (with_reducible refine Touch.set_ ?_ _ _ (by simp; done)) | (with_reducible refine Touch.set_new ?_ _ _ (by first | omega | (simp; omega) | (dsimp only; omega))))) (by simp; omega)
    · exact T_22.trans_new (M := [w.heap.size]) (by repeat (first | (with_reducible exact Touch.refl _ _) | (with_reducible assumption) | (with_reducible apply Touch.drew) | (with_reducible apply Touch.drewN) | (with_reducible apply Touch.alloc) | (with_reducible refine Touch.set_ ?_ _ _ (by simp; done)) | (with_reducible refine Touch.set_new ?_ _ _ (by first | omega | (simp; omega) | (dsimp only; omega))))) (by simp)
  · skip
    have t0 : (q == 0) = false := by simp; omega
    have t1 : (q == 1) = false := by simp; omega
    have t2 : (q == 2) = false := by simp; omega
    have t3 : (q == 3) = false := by simp; omega
    have t4 : (q == 4) = false := by simp; omega
    have t5 : (q == 5) = false := by simp; omega
    have t6 : (q == 6) = false := by simp; omega
    have HK := hid q0
    have b_20 := (Below.refl 0 w5)
    have s_20 := b_20.size
    have T_20 := T_5
    have bc_20 := bc_5
    clear bc_5
    have cu_20 := cu_5
    clear cu_5
    have cu_lt := cu_20.lt
    have cell_cu := cu_20.cell
    have froz_cu := cu_20.frozen
    have lt_cu := cu_20.lt
    have r_20 := r_5
    clear r_5
    have r_lt := r_20.lt
    have cell_r := r_20.cell
    have froz_r := r_20.frozen
    have lt_r := r_20.lt
    have z_20 := z_5
    clear z_5
    have z_lt := z_20.lt
    have cell_z := z_20.cell
    have froz_z := z_20.frozen
    have lt_z := z_20.lt
    go_wp2_with fail
    refine calls_forget0 (W := w5) ?_ ?_
    (focus (repeat (first | (with_reducible exact Below.refl _ _) | (with_reducible refine Below.trans ?_ (Below.mono (by assumption) (by first | omega | (simp; done) | (simp; omega) | (simp [*]; done)))) | (with_reducible refine Below.alloc ?_ (by first | omega | (simp; done) | (simp; omega) | (simp [*]; done)) _) | (with_reducible refine Below.setCell ?_ (by first | omega | (simp; done) | (simp; omega) | (simp [*]; done)) _) | (with_reducible refine Below.drew ?_) | (with_reducible refine below_drewN ?_))))
    intro X21 hX21
    have sX21 := hX21.size
    refine (below_any 7 _ _ _ _ _ (by omega) (by omega) (show Cur _ _ _ _ _ from ⟨_, _, Blk.past hX21 cu_20, cu_i0, cu_i1⟩) ⟨cells_below bc_20 hX21 (by omega), bc_s.out, bc_l.out⟩).mono ?_
    clear cu_i0 cu_i1
    rintro e w21 ⟨x, rfl, x0, x1, ⟨i_21, h_21, cu_21, cu_i0, cu_i1⟩, hY21⟩
    have s21 := hY21.size
    have b_21 := below0_touch hY21 (b_20.trans (hX21.mono (by omega)))
    have T_21 := (T_20.trans (Touch.of_below hX21)).trans hY21
    have bc_21 := cells_touch hY21 (cells_below bc_20 hX21 (by omega)) (by omega) (by first | (simp; done) | (simp; omega))
    have r_21 := Blk.touch hY21 (Blk.past hX21 r_20) (by first | (simp; done) | (simp; omega))
    have z_21 := Blk.touch hY21 (Blk.past hX21 z_20) (by first | (simp; done) | (simp; omega))
    clear T_20 bc_20 cu_20 r_20 z_20 b_20 cell_cu froz_cu lt_cu cell_r froz_r lt_r cell_z froz_z lt_z hX21 hY21
    have cell_cu := cu_21.cell
    have froz_cu := cu_21.frozen
    have lt_cu := cu_21.lt
    have cell_r := r_21.cell
    have froz_r := r_21.frozen
    have lt_r := r_21.lt
    have cell_z := z_21.cell
    have froz_z := z_21.frozen
    have lt_z := z_21.lt
    have HX : IntKind.i64.wrap (3 + x) = 3 + x := IntWalk.i64_in _ (by omega)
    go_wp2_with fail
    refine calls_touch1 (w0 := w21) (L := [w4.heap.size]) (b0 := w4.heap.size) (t0 := 75) (c0 := #[.int .i64 (3 + x), .int .i64 d, .int .i64 a, .int .i64 f, .int .i64 g, .int .i64 0]) ?_ ?_ ?_
    (focus (first | ((repeat (first | (with_reducible assumption) | (with_reducible apply Blk.drew) | (with_reducible apply Blk.drewN) | (with_reducible apply Blk.new; first | rfl | (simp; done)) | (with_reducible apply Blk.alloc) | (with_reducible apply Blk.set_) | (with_reducible apply Blk.past; focus assumption) | (with_reducible apply Blk.far; focus (first | (simp; done) | (simp; omega) | (dsimp only; omega))))); done) | (apply Blk.cast; (case h => (repeat (first | (with_reducible assumption) | (with_reducible apply Blk.drew) | (with_reducible apply Blk.drewN) | (with_reducible apply Blk.new; first | rfl | (simp; done)) | (with_reducible apply Blk.alloc) | (with_reducible apply Blk.set_) | (with_reducible apply Blk.past; focus assumption) | (with_reducible apply Blk.far; focus (first | (simp; done) | (simp; omega) | (dsimp only; omega)))))); (case e => rfl))))
    (focus (repeat (first | (with_reducible exact Touch.refl _ _) | (with_reducible assumption) | (with_reducible apply Touch.drew) | (with_reducible apply Touch.drewN) | (with_reducible apply Touch.alloc) | (with_reducible refine Touch.set_ ?_ _ _ (by simp; done)) | (with_reducible refine Touch.set_new ?_ _ _ (by first | omega | (simp; omega) | (dsimp only; omega))))))
    intro w22 z_22 hX22
    have sX22 := hX22.size
    have b_22 := below0_touch hX22 b_21
    have T_22 := T_21.trans_new hX22 (by first | (simp; done) | (simp; omega))
    have bc_22 := cells_touch hX22 bc_21 (by omega) (by first | (simp; done) | (simp; omega))
    have cu_22 := Blk.touch hX22 cu_21 (by first | (simp; done) | (simp; omega))
    have r_22 := Blk.touch hX22 r_21 (by first | (simp; done) | (simp; omega))
    clear T_21 bc_21 cu_21 r_21 z_21 b_21 cell_cu froz_cu lt_cu cell_r froz_r lt_r cell_z froz_z lt_z hX22
    have cell_cu := cu_22.cell
    have froz_cu := cu_22.frozen
    have lt_cu := cu_22.lt
    have cell_r := r_22.cell
    have froz_r := r_22.frozen
    have lt_r := r_22.lt
    have cell_z := z_22.cell
    have froz_z := z_22.frozen
    have lt_z := z_22.lt
    go_wp2_with fail
    refine calls_forget0 (W := w22) ?_ ?_
    (focus (repeat (first | (with_reducible exact Below.refl _ _) | (with_reducible refine Below.trans ?_ (Below.mono (by assumption) (by first | omega | (simp; done) | (simp; omega) | (simp [*]; done)))) | (with_reducible refine Below.alloc ?_ (by first | omega | (simp; done) | (simp; omega) | (simp [*]; done)) _) | (with_reducible refine Below.setCell ?_ (by first | omega | (simp; done) | (simp; omega) | (simp [*]; done)) _) | (with_reducible refine Below.drew ?_) | (with_reducible refine below_drewN ?_))))
    intro X23 hX23
    have sX23 := hX23.size
    refine (sPlain8 _ _ _ _ _ _ _).mono ?_
    rintro e w23 ⟨x0, x1, x2, x3, x4, x5, rfl, hb23⟩
    have s23 := hb23.size
    have hT23 := hX23.trans (hb23.mono sX23)
    have b_23 := b_22.trans (hT23.mono (by omega))
    have T_23 := T_22.trans (Touch.of_below hT23)
    have bc_23 := cells_below bc_22 hT23 (by omega)
    have cu_23 := Blk.past hT23 cu_22
    have r_23 := Blk.past hT23 r_22
    have z_23 := Blk.past hT23 z_22
    clear T_22 bc_22 cu_22 r_22 z_22 b_22 cell_cu froz_cu lt_cu cell_r froz_r lt_r cell_z froz_z lt_z hX23 hT23 hb23
    have cell_cu := cu_23.cell
    have froz_cu := cu_23.frozen
    have lt_cu := cu_23.lt
    have cell_r := r_23.cell
    have froz_r := r_23.frozen
    have lt_r := r_23.lt
    have cell_z := z_23.cell
    have froz_z := z_23.frozen
    have lt_z := z_23.lt
    go_wp2_with fail
    ((try simp only [Exit.inBlock, Exit.then]); apply bodyPost_ret0; focus ((try simp only [results, Try.results55]); (try go_simp); (try rfl)))
    refine ⟨x0, x1, x2, x3, x4, x5, rfl, ?_, ?_⟩
    · exact Cur.touch (L := [w.heap.size]) ⟨_, _, cu_23, cu_i0, cu_i1⟩ (by repeat (first | (with_reducible exact Touch.refl _ _) | (with_reducible assumption) | (with_reducible apply Touch.drew) | (with_reducible apply Touch.drewN) | (with_reducible apply Touch.alloc) | (with_reducible refine Touch.set_ ?_ _ _ (by simp; done)) | (with_reducible refine Touch.set_new ?_ _ _ (by first | omega | (simp; omega) | (dsimp only; omega))))) (by simp; omega)
    · exact T_23.trans_new (M := [w.heap.size]) (by repeat (first | (with_reducible exact Touch.refl _ _) | (with_reducible assumption) | (with_reducible apply Touch.drew) | (with_reducible apply Touch.drewN) | (with_reducible apply Touch.alloc) | (with_reducible refine Touch.set_ ?_ _ _ (by simp; done)) | (with_reducible refine Touch.set_new ?_ _ _ (by first | omega | (simp; omega) | (dsimp only; omega))))) (by simp)
end Go.Proofs.Ytonanjcojfjbdaa
