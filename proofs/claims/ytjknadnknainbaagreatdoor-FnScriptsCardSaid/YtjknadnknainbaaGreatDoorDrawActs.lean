/- The reference's drawn acts. Only what the laws need of them is kept. -/
import Derived.Test.YtjknadnknainbaaGreatDoorMem
import Derived.Test.YtjknadnknainbaaGreatDoorOnce
import Derived.Test.YtjknadnknainbaaGreatDoorActOk
import Derived.Test.YtjknadnknainbaaGreatDoorJobS
namespace Go.Proofs.YtjknadnknainbaaGreatDoor
open Go.RowKit

theorem Touch.of_below {L : List Nat} {w w' : World} (h : Below w.heap.size w w') : Touch L w w' := ⟨h.os, h.tape, h.output, h.size, fun i hi _ => h.block i hi⟩
/-- The acts that the reference draws. -/
def drawnB (k i d n : Int) : Prop := actOkB k i d n = true ∧ n ≤ 20
theorem drawn1 {i d n : Int} (h1 : 0 ≤ i ∧ i ≤ 1000) (h2 : 0 ≤ d ∧ d ≤ 1000) (h3 : 0 ≤ n ∧ n ≤ 20) : drawnB 1 i d n := ⟨by rw [actOkB_1, inB_iff.2 h1, inB_iff.2 h2, inB_iff.2 ⟨h3.1, by omega⟩]; rfl, h3.2⟩
theorem drawn2 {n : Int} (h3 : 0 ≤ n ∧ n ≤ 20) : drawnB 2 0 0 n := ⟨by rw [actOkB_2, inB_iff.2 ⟨h3.1, by omega⟩]; rfl, h3.2⟩
theorem drawn3 {n : Int} (h3 : 0 ≤ n ∧ n ≤ 20) : drawnB 3 0 0 n := ⟨by rw [actOkB_3, inB_iff.2 ⟨h3.1, by omega⟩]; rfl, h3.2⟩
theorem drawn4 : drawnB 4 0 0 0 := ⟨by rw [actOkB_4]; rfl, by omega⟩
def actsOk (xs : List Int) (n : Nat) : Prop := ∀ j, j < n → drawnB (xs.getD (j * 4) 0) (xs.getD (j * 4 + 1) 0) (xs.getD (j * 4 + 2) 0) (xs.getD (j * 4 + 3) 0)
theorem Touch.grown' {L : List Nat} {w w1 w2 : World} {row : Option Nat} (h : Touch L w w1) (hg : w1.grownBy w2 row) (hlo : ∀ q, row = some q → w.heap.size ≤ q) : Touch L w w2 := by
  have hb := gr_below hg (Below.refl w.heap.size w1) h.size hlo
  exact ⟨hb.os.trans h.os, hb.tape.trans h.tape, hb.output.trans h.output, Nat.le_trans h.size hb.size, fun i hi hn => (hb.block i hi).trans (h.block i hi hn)⟩
theorem Bytes.touch1 {L : List Nat} {w w' : World} {p : Nat} {A : Option Addr} {bs : List Int} (h : Bytes w p A bs) (hT : Touch L w w') (hp : p ≤ w.heap.size) (hL : ∀ i ∈ L, p ≤ i) : Bytes w' p A bs := ⟨cells_touch hT h.cells hp hL, h.small, h.len⟩
set_option linter.unusedVariables false in
set_option maxRecDepth 100000 in
set_option maxHeartbeats 3200000 in
theorem act_any (p : Nat) (A : Option Addr) (c : Nat) (bs : List Int) (w : World) (hc : Cur w p A bs.length c) (hb : Bytes w p A bs) :
    Calls Tryz.prog 36 #[.pointer (some ⟨p, 0, none⟩)] w fun e w' => ∃ k i d n : Int, e = .returned (.agg #[.int .i64 k, .int .i64 i, .int .i64 d, .int .i64 n]) ∧ drawnB k i d n ∧ Cur w' p A bs.length c ∧ Touch [p] w w' := by
  obtain ⟨i0, h0, hcu, cu_i0, cu_i1⟩ := hc
  have hp := hcu.lt
  have bc_s := hid hb.small
  have bc_l := hid hb.len
  have HBY := hb.cells
  clear hb
  go_enter Tryz.func36, Tryz.ntmps36
  have b_0 := (Below.refl 0 w)
  have s_0 := b_0.size
  have T_0 := Touch.refl [p] w
  have bc_0 := HBY
  clear HBY
  have cu_0 := hcu
  clear hcu
  have cu_lt := cu_0.lt
  have cell_cu := cu_0.cell
  have froz_cu := cu_0.frozen
  have lt_cu := cu_0.lt
  go_wp2_with fail
  refine calls_forget1 (W := w) (b0 := w.heap.size) (t0 := 30) (c0 := #[.int .i64 0, .int .i64 0, .int .i64 0, .int .i64 0]) ?_ ?_ ?_
  (focus exact blkcBy)
  (focus (exact belBy))
  intro X1 r_n hX1
  have sX1 := hX1.size
  have r_lt := r_n.lt
  refine (below_any 6 _ _ _ _ _ (by omega) (by omega) (show Cur _ _ _ _ _ from ⟨_, _, Blk.past hX1 cu_0, cu_i0, cu_i1⟩) ⟨cells_below bc_0 hX1 (by omega), bc_s.out, bc_l.out⟩).mono ?_
  clear cu_i0 cu_i1
  rintro e w1 ⟨q, rfl, q0, q1, ⟨i_1, h_1, cu_1, cu_i0, cu_i1⟩, hY1⟩
  have s1 := hY1.size
  have b_1 := below0_touch hY1 (b_0.trans (hX1.mono (by omega)))
  have T_1 := (T_0.trans (Touch.of_below hX1)).trans hY1
  have bc_1 := cells_touch hY1 (cells_below bc_0 hX1 (by omega)) (by omega) (by first | (simp; done) | (simp; omega))
  have r_1 := Blk.touch hY1 r_n (by first | (simp; done) | (simp; omega))
  clear T_0 bc_0 cu_0 b_0 cell_cu froz_cu lt_cu r_n hX1 hY1
  have cell_cu := cu_1.cell
  have froz_cu := cu_1.frozen
  have lt_cu := cu_1.lt
  have cell_r := r_1.cell
  have froz_r := r_1.frozen
  have lt_r := r_1.lt
  have h7 : q = 0 ∨ q = 1 ∨ q = 2 ∨ q = 3 ∨ q = 4 ∨ q = 5 := by omega
  clear q0 q1
  rcases h7 with rfl | rfl | rfl | rfl | rfl | rfl
  · skip
    have b_20 := (Below.refl 0 w1)
    have s_20 := b_20.size
    have T_20 := T_1
    have bc_20 := bc_1
    clear bc_1
    have cu_20 := cu_1
    clear cu_1
    have cu_lt := cu_20.lt
    have cell_cu := cu_20.cell
    have froz_cu := cu_20.frozen
    have lt_cu := cu_20.lt
    have r_20 := r_1
    clear r_1
    have r_lt := r_20.lt
    have cell_r := r_20.cell
    have froz_r := r_20.frozen
    have lt_r := r_20.lt
    go_wp2_with fail
    refine calls_forget0 (W := w1) ?_ ?_
    (focus (exact belBy))
    intro X21 hX21
    have sX21 := hX21.size
    refine (below_any 9 _ _ _ _ _ (by omega) (by omega) (show Cur _ _ _ _ _ from ⟨_, _, Blk.past hX21 cu_20, cu_i0, cu_i1⟩) ⟨cells_below bc_20 hX21 (by omega), bc_s.out, bc_l.out⟩).mono ?_
    clear cu_i0 cu_i1
    rintro e w21 ⟨x, rfl, x0, x1, ⟨i_21, h_21, cu_21, cu_i0, cu_i1⟩, hY21⟩
    have s21 := hY21.size
    have b_21 := below0_touch hY21 (b_20.trans (hX21.mono (by omega)))
    have T_21 := (T_20.trans (Touch.of_below hX21)).trans hY21
    have bc_21 := cells_touch hY21 (cells_below bc_20 hX21 (by omega)) (by omega) (by first | (simp; done) | (simp; omega))
    have r_21 := Blk.touch hY21 (Blk.past hX21 r_20) (by first | (simp; done) | (simp; omega))
    clear T_20 bc_20 cu_20 r_20 b_20 cell_cu froz_cu lt_cu cell_r froz_r lt_r hX21 hY21
    have cell_cu := cu_21.cell
    have froz_cu := cu_21.frozen
    have lt_cu := cu_21.lt
    have cell_r := r_21.cell
    have froz_r := r_21.frozen
    have lt_r := r_21.lt
    have hw1 : IntKind.i64.wrap (1 + x) = 1 + x := IntWalk.i64_in _ (by omega)
    go_wp2_with fail
    refine calls_forget0 (W := w21) ?_ ?_
    (focus (exact belBy))
    intro X22 hX22
    have sX22 := hX22.size
    refine (below_any 6 _ _ _ _ _ (by omega) (by omega) (show Cur _ _ _ _ _ from ⟨_, _, Blk.past hX22 cu_21, cu_i0, cu_i1⟩) ⟨cells_below bc_21 hX22 (by omega), bc_s.out, bc_l.out⟩).mono ?_
    clear cu_i0 cu_i1
    rintro e w22 ⟨y, rfl, y0, y1, ⟨i_22, h_22, cu_22, cu_i0, cu_i1⟩, hY22⟩
    have s22 := hY22.size
    have b_22 := below0_touch hY22 (b_21.trans (hX22.mono (by omega)))
    have T_22 := (T_21.trans (Touch.of_below hX22)).trans hY22
    have bc_22 := cells_touch hY22 (cells_below bc_21 hX22 (by omega)) (by omega) (by first | (simp; done) | (simp; omega))
    have r_22 := Blk.touch hY22 (Blk.past hX22 r_21) (by first | (simp; done) | (simp; omega))
    clear T_21 bc_21 cu_21 r_21 b_21 cell_cu froz_cu lt_cu cell_r froz_r lt_r hX22 hY22
    have cell_cu := cu_22.cell
    have froz_cu := cu_22.frozen
    have lt_cu := cu_22.lt
    have cell_r := r_22.cell
    have froz_r := r_22.frozen
    have lt_r := r_22.lt
    have hw2 : IntKind.i64.wrap (1 + y) = 1 + y := IntWalk.i64_in _ (by omega)
    go_wp2_with fail
    refine calls_forget0 (W := w22) ?_ ?_
    (focus (exact belBy))
    intro X23 hX23
    have sX23 := hX23.size
    refine (below_any 6 _ _ _ _ _ (by omega) (by omega) (show Cur _ _ _ _ _ from ⟨_, _, Blk.past hX23 cu_22, cu_i0, cu_i1⟩) ⟨cells_below bc_22 hX23 (by omega), bc_s.out, bc_l.out⟩).mono ?_
    clear cu_i0 cu_i1
    rintro e w23 ⟨z, rfl, z0, z1, ⟨i_23, h_23, cu_23, cu_i0, cu_i1⟩, hY23⟩
    have s23 := hY23.size
    have b_23 := below0_touch hY23 (b_22.trans (hX23.mono (by omega)))
    have T_23 := (T_22.trans (Touch.of_below hX23)).trans hY23
    have bc_23 := cells_touch hY23 (cells_below bc_22 hX23 (by omega)) (by omega) (by first | (simp; done) | (simp; omega))
    have r_23 := Blk.touch hY23 (Blk.past hX23 r_22) (by first | (simp; done) | (simp; omega))
    clear T_22 bc_22 cu_22 r_22 b_22 cell_cu froz_cu lt_cu cell_r froz_r lt_r hX23 hY23
    have cell_cu := cu_23.cell
    have froz_cu := cu_23.frozen
    have lt_cu := cu_23.lt
    have cell_r := r_23.cell
    have froz_r := r_23.frozen
    have lt_r := r_23.lt
    have hw3 : IntKind.i64.wrap (1 + z) = 1 + z := IntWalk.i64_in _ (by omega)
    go_wp2_with fail
    ((try simp only [Exit.inBlock, Exit.then]); apply bodyPost_ret0; focus ((try simp only [results, Tryz.results36]); (try go_simp); (try rfl)))
    refine ⟨1, 1 + x, 1 + y, 1 + z, rfl, drawn1 (by omega) (by omega) (by omega), ?_, ?_⟩
    · exact Cur.touch (L := [w.heap.size]) ⟨_, _, cu_23, cu_i0, cu_i1⟩ (by exact tchBy) (by simp; omega)
    · exact T_23.trans_new (M := [w.heap.size]) (by exact tchBy) (by simp)
  · skip
    have b_20 := (Below.refl 0 w1)
    have s_20 := b_20.size
    have T_20 := T_1
    have bc_20 := bc_1
    clear bc_1
    have cu_20 := cu_1
    clear cu_1
    have cu_lt := cu_20.lt
    have cell_cu := cu_20.cell
    have froz_cu := cu_20.frozen
    have lt_cu := cu_20.lt
    have r_20 := r_1
    clear r_1
    have r_lt := r_20.lt
    have cell_r := r_20.cell
    have froz_r := r_20.frozen
    have lt_r := r_20.lt
    go_wp2_with fail
    refine calls_forget0 (W := w1) ?_ ?_
    (focus (exact belBy))
    intro X21 hX21
    have sX21 := hX21.size
    refine (below_any 9 _ _ _ _ _ (by omega) (by omega) (show Cur _ _ _ _ _ from ⟨_, _, Blk.past hX21 cu_20, cu_i0, cu_i1⟩) ⟨cells_below bc_20 hX21 (by omega), bc_s.out, bc_l.out⟩).mono ?_
    clear cu_i0 cu_i1
    rintro e w21 ⟨x, rfl, x0, x1, ⟨i_21, h_21, cu_21, cu_i0, cu_i1⟩, hY21⟩
    have s21 := hY21.size
    have b_21 := below0_touch hY21 (b_20.trans (hX21.mono (by omega)))
    have T_21 := (T_20.trans (Touch.of_below hX21)).trans hY21
    have bc_21 := cells_touch hY21 (cells_below bc_20 hX21 (by omega)) (by omega) (by first | (simp; done) | (simp; omega))
    have r_21 := Blk.touch hY21 (Blk.past hX21 r_20) (by first | (simp; done) | (simp; omega))
    clear T_20 bc_20 cu_20 r_20 b_20 cell_cu froz_cu lt_cu cell_r froz_r lt_r hX21 hY21
    have cell_cu := cu_21.cell
    have froz_cu := cu_21.frozen
    have lt_cu := cu_21.lt
    have cell_r := r_21.cell
    have froz_r := r_21.frozen
    have lt_r := r_21.lt
    have hw1 : IntKind.i64.wrap (1 + x) = 1 + x := IntWalk.i64_in _ (by omega)
    go_wp2_with fail
    refine calls_forget0 (W := w21) ?_ ?_
    (focus (exact belBy))
    intro X22 hX22
    have sX22 := hX22.size
    refine (below_any 6 _ _ _ _ _ (by omega) (by omega) (show Cur _ _ _ _ _ from ⟨_, _, Blk.past hX22 cu_21, cu_i0, cu_i1⟩) ⟨cells_below bc_21 hX22 (by omega), bc_s.out, bc_l.out⟩).mono ?_
    clear cu_i0 cu_i1
    rintro e w22 ⟨y, rfl, y0, y1, ⟨i_22, h_22, cu_22, cu_i0, cu_i1⟩, hY22⟩
    have s22 := hY22.size
    have b_22 := below0_touch hY22 (b_21.trans (hX22.mono (by omega)))
    have T_22 := (T_21.trans (Touch.of_below hX22)).trans hY22
    have bc_22 := cells_touch hY22 (cells_below bc_21 hX22 (by omega)) (by omega) (by first | (simp; done) | (simp; omega))
    have r_22 := Blk.touch hY22 (Blk.past hX22 r_21) (by first | (simp; done) | (simp; omega))
    clear T_21 bc_21 cu_21 r_21 b_21 cell_cu froz_cu lt_cu cell_r froz_r lt_r hX22 hY22
    have cell_cu := cu_22.cell
    have froz_cu := cu_22.frozen
    have lt_cu := cu_22.lt
    have cell_r := r_22.cell
    have froz_r := r_22.frozen
    have lt_r := r_22.lt
    have hw2 : IntKind.i64.wrap (1 + y) = 1 + y := IntWalk.i64_in _ (by omega)
    go_wp2_with fail
    refine calls_forget0 (W := w22) ?_ ?_
    (focus (exact belBy))
    intro X23 hX23
    have sX23 := hX23.size
    refine (below_any 6 _ _ _ _ _ (by omega) (by omega) (show Cur _ _ _ _ _ from ⟨_, _, Blk.past hX23 cu_22, cu_i0, cu_i1⟩) ⟨cells_below bc_22 hX23 (by omega), bc_s.out, bc_l.out⟩).mono ?_
    clear cu_i0 cu_i1
    rintro e w23 ⟨z, rfl, z0, z1, ⟨i_23, h_23, cu_23, cu_i0, cu_i1⟩, hY23⟩
    have s23 := hY23.size
    have b_23 := below0_touch hY23 (b_22.trans (hX23.mono (by omega)))
    have T_23 := (T_22.trans (Touch.of_below hX23)).trans hY23
    have bc_23 := cells_touch hY23 (cells_below bc_22 hX23 (by omega)) (by omega) (by first | (simp; done) | (simp; omega))
    have r_23 := Blk.touch hY23 (Blk.past hX23 r_22) (by first | (simp; done) | (simp; omega))
    clear T_22 bc_22 cu_22 r_22 b_22 cell_cu froz_cu lt_cu cell_r froz_r lt_r hX23 hY23
    have cell_cu := cu_23.cell
    have froz_cu := cu_23.frozen
    have lt_cu := cu_23.lt
    have cell_r := r_23.cell
    have froz_r := r_23.frozen
    have lt_r := r_23.lt
    have hw3 : IntKind.i64.wrap (1 + z) = 1 + z := IntWalk.i64_in _ (by omega)
    go_wp2_with fail
    ((try simp only [Exit.inBlock, Exit.then]); apply bodyPost_ret0; focus ((try simp only [results, Tryz.results36]); (try go_simp); (try rfl)))
    refine ⟨1, 1 + x, 1 + y, 1 + z, rfl, drawn1 (by omega) (by omega) (by omega), ?_, ?_⟩
    · exact Cur.touch (L := [w.heap.size]) ⟨_, _, cu_23, cu_i0, cu_i1⟩ (by exact tchBy) (by simp; omega)
    · exact T_23.trans_new (M := [w.heap.size]) (by exact tchBy) (by simp)
  · skip
    have b_20 := (Below.refl 0 w1)
    have s_20 := b_20.size
    have T_20 := T_1
    have bc_20 := bc_1
    clear bc_1
    have cu_20 := cu_1
    clear cu_1
    have cu_lt := cu_20.lt
    have cell_cu := cu_20.cell
    have froz_cu := cu_20.frozen
    have lt_cu := cu_20.lt
    have r_20 := r_1
    clear r_1
    have r_lt := r_20.lt
    have cell_r := r_20.cell
    have froz_r := r_20.frozen
    have lt_r := r_20.lt
    go_wp2_with fail
    refine calls_forget0 (W := w1) ?_ ?_
    (focus (exact belBy))
    intro X21 hX21
    have sX21 := hX21.size
    refine (below_any 6 _ _ _ _ _ (by omega) (by omega) (show Cur _ _ _ _ _ from ⟨_, _, Blk.past hX21 cu_20, cu_i0, cu_i1⟩) ⟨cells_below bc_20 hX21 (by omega), bc_s.out, bc_l.out⟩).mono ?_
    clear cu_i0 cu_i1
    rintro e w21 ⟨z, rfl, z0, z1, ⟨i_21, h_21, cu_21, cu_i0, cu_i1⟩, hY21⟩
    have s21 := hY21.size
    have b_21 := below0_touch hY21 (b_20.trans (hX21.mono (by omega)))
    have T_21 := (T_20.trans (Touch.of_below hX21)).trans hY21
    have bc_21 := cells_touch hY21 (cells_below bc_20 hX21 (by omega)) (by omega) (by first | (simp; done) | (simp; omega))
    have r_21 := Blk.touch hY21 (Blk.past hX21 r_20) (by first | (simp; done) | (simp; omega))
    clear T_20 bc_20 cu_20 r_20 b_20 cell_cu froz_cu lt_cu cell_r froz_r lt_r hX21 hY21
    have cell_cu := cu_21.cell
    have froz_cu := cu_21.frozen
    have lt_cu := cu_21.lt
    have cell_r := r_21.cell
    have froz_r := r_21.frozen
    have lt_r := r_21.lt
    go_wp2_with fail
    ((try simp only [Exit.inBlock, Exit.then]); apply bodyPost_ret0; focus ((try simp only [results, Tryz.results36]); (try go_simp); (try rfl)))
    refine ⟨2, 0, 0, z, rfl, drawn2 (by omega), ?_, ?_⟩
    · exact Cur.touch (L := [w.heap.size]) ⟨_, _, cu_21, cu_i0, cu_i1⟩ (by exact tchBy) (by simp; omega)
    · exact T_21.trans_new (M := [w.heap.size]) (by exact tchBy) (by simp)
  · skip
    have b_20 := (Below.refl 0 w1)
    have s_20 := b_20.size
    have T_20 := T_1
    have bc_20 := bc_1
    clear bc_1
    have cu_20 := cu_1
    clear cu_1
    have cu_lt := cu_20.lt
    have cell_cu := cu_20.cell
    have froz_cu := cu_20.frozen
    have lt_cu := cu_20.lt
    have r_20 := r_1
    clear r_1
    have r_lt := r_20.lt
    have cell_r := r_20.cell
    have froz_r := r_20.frozen
    have lt_r := r_20.lt
    go_wp2_with fail
    refine calls_forget0 (W := w1) ?_ ?_
    (focus (exact belBy))
    intro X21 hX21
    have sX21 := hX21.size
    refine (below_any 6 _ _ _ _ _ (by omega) (by omega) (show Cur _ _ _ _ _ from ⟨_, _, Blk.past hX21 cu_20, cu_i0, cu_i1⟩) ⟨cells_below bc_20 hX21 (by omega), bc_s.out, bc_l.out⟩).mono ?_
    clear cu_i0 cu_i1
    rintro e w21 ⟨z, rfl, z0, z1, ⟨i_21, h_21, cu_21, cu_i0, cu_i1⟩, hY21⟩
    have s21 := hY21.size
    have b_21 := below0_touch hY21 (b_20.trans (hX21.mono (by omega)))
    have T_21 := (T_20.trans (Touch.of_below hX21)).trans hY21
    have bc_21 := cells_touch hY21 (cells_below bc_20 hX21 (by omega)) (by omega) (by first | (simp; done) | (simp; omega))
    have r_21 := Blk.touch hY21 (Blk.past hX21 r_20) (by first | (simp; done) | (simp; omega))
    clear T_20 bc_20 cu_20 r_20 b_20 cell_cu froz_cu lt_cu cell_r froz_r lt_r hX21 hY21
    have cell_cu := cu_21.cell
    have froz_cu := cu_21.frozen
    have lt_cu := cu_21.lt
    have cell_r := r_21.cell
    have froz_r := r_21.frozen
    have lt_r := r_21.lt
    go_wp2_with fail
    ((try simp only [Exit.inBlock, Exit.then]); apply bodyPost_ret0; focus ((try simp only [results, Tryz.results36]); (try go_simp); (try rfl)))
    refine ⟨2, 0, 0, z, rfl, drawn2 (by omega), ?_, ?_⟩
    · exact Cur.touch (L := [w.heap.size]) ⟨_, _, cu_21, cu_i0, cu_i1⟩ (by exact tchBy) (by simp; omega)
    · exact T_21.trans_new (M := [w.heap.size]) (by exact tchBy) (by simp)
  · skip
    have b_20 := (Below.refl 0 w1)
    have s_20 := b_20.size
    have T_20 := T_1
    have bc_20 := bc_1
    clear bc_1
    have cu_20 := cu_1
    clear cu_1
    have cu_lt := cu_20.lt
    have cell_cu := cu_20.cell
    have froz_cu := cu_20.frozen
    have lt_cu := cu_20.lt
    have r_20 := r_1
    clear r_1
    have r_lt := r_20.lt
    have cell_r := r_20.cell
    have froz_r := r_20.frozen
    have lt_r := r_20.lt
    go_wp2_with fail
    refine calls_forget0 (W := w1) ?_ ?_
    (focus (exact belBy))
    intro X21 hX21
    have sX21 := hX21.size
    refine (below_any 12 _ _ _ _ _ (by omega) (by omega) (show Cur _ _ _ _ _ from ⟨_, _, Blk.past hX21 cu_20, cu_i0, cu_i1⟩) ⟨cells_below bc_20 hX21 (by omega), bc_s.out, bc_l.out⟩).mono ?_
    clear cu_i0 cu_i1
    rintro e w21 ⟨z, rfl, z0, z1, ⟨i_21, h_21, cu_21, cu_i0, cu_i1⟩, hY21⟩
    have s21 := hY21.size
    have b_21 := below0_touch hY21 (b_20.trans (hX21.mono (by omega)))
    have T_21 := (T_20.trans (Touch.of_below hX21)).trans hY21
    have bc_21 := cells_touch hY21 (cells_below bc_20 hX21 (by omega)) (by omega) (by first | (simp; done) | (simp; omega))
    have r_21 := Blk.touch hY21 (Blk.past hX21 r_20) (by first | (simp; done) | (simp; omega))
    clear T_20 bc_20 cu_20 r_20 b_20 cell_cu froz_cu lt_cu cell_r froz_r lt_r hX21 hY21
    have cell_cu := cu_21.cell
    have froz_cu := cu_21.frozen
    have lt_cu := cu_21.lt
    have cell_r := r_21.cell
    have froz_r := r_21.frozen
    have lt_r := r_21.lt
    go_wp2_with fail
    ((try simp only [Exit.inBlock, Exit.then]); apply bodyPost_ret0; focus ((try simp only [results, Tryz.results36]); (try go_simp); (try rfl)))
    refine ⟨3, 0, 0, z, rfl, drawn3 (by omega), ?_, ?_⟩
    · exact Cur.touch (L := [w.heap.size]) ⟨_, _, cu_21, cu_i0, cu_i1⟩ (by exact tchBy) (by simp; omega)
    · exact T_21.trans_new (M := [w.heap.size]) (by exact tchBy) (by simp)
  · skip
    have b_20 := (Below.refl 0 w1)
    have s_20 := b_20.size
    have T_20 := T_1
    have bc_20 := bc_1
    clear bc_1
    have cu_20 := cu_1
    clear cu_1
    have cu_lt := cu_20.lt
    have cell_cu := cu_20.cell
    have froz_cu := cu_20.frozen
    have lt_cu := cu_20.lt
    have r_20 := r_1
    clear r_1
    have r_lt := r_20.lt
    have cell_r := r_20.cell
    have froz_r := r_20.frozen
    have lt_r := r_20.lt
    go_wp2_with fail
    ((try simp only [Exit.inBlock, Exit.then]); apply bodyPost_ret0; focus ((try simp only [results, Tryz.results36]); (try go_simp); (try rfl)))
    refine ⟨4, 0, 0, 0, rfl, drawn4, ?_, ?_⟩
    · exact Cur.touch (L := [w.heap.size]) ⟨_, _, cu_20, cu_i0, cu_i1⟩ (by exact tchBy) (by simp; omega)
    · exact T_20.trans_new (M := [w.heap.size]) (by exact tchBy) (by simp)
theorem infoAct : (Tryz.prog.info? 30).map (fun i => (i.zero, i.size, i.bytes)) = some (some (.agg #[.int .i64 0, .int .i64 0, .int .i64 0, .int .i64 0]), 4, 32) := by kernel_rfl
theorem act_one (a b c d : Int) : ∀ u ∈ [Value.int .i64 a, .int .i64 b, .int .i64 c, .int .i64 d], u.oneCell' = true := by
  intro u hu
  simp at hu
  rcases hu with rfl | rfl | rfl | rfl <;> rfl
theorem actsOk_snoc {xs : List Int} {n : Nat} {k i d m : Int} (hl : xs.length = n * 4) (h : actsOk xs n) (ha : drawnB k i d m) : actsOk (xs ++ [k, i, d, m]) (n + 1) := fun j hj => by
  by_cases hlt : j < n
  · have := h j hlt
    have e : ∀ t, t < 4 → (xs ++ [k, i, d, m]).getD (j * 4 + t) 0 = xs.getD (j * 4 + t) 0 := fun t ht => by
      rw [List.getD_eq_getElem?_getD, List.getD_eq_getElem?_getD, List.getElem?_append_left (by omega)]
    rw [show j * 4 = j * 4 + 0 from rfl, e 0 (by omega), e 1 (by omega), e 2 (by omega), e 3 (by omega)]
    exact this
  · obtain rfl : j = n := by omega
    have e : ∀ t, (xs ++ [k, i, d, m]).getD (j * 4 + t) 0 = [k, i, d, m].getD t 0 := fun t => by
      rw [List.getD_eq_getElem?_getD, List.getD_eq_getElem?_getD, List.getElem?_append_right (by omega), show j * 4 + t - xs.length = t by omega]
    rw [show j * 4 = j * 4 + 0 from rfl, e 0, e 1, e 2, e 3]
    exact ha
theorem ints_four (xs : List Int) (a b c d : Int) : ints xs ++ [.int .i64 a, .int .i64 b, .int .i64 c, .int .i64 d] = ints (xs ++ [a, b, c, d]) := by simp [ints]
set_option linter.unusedVariables false in
set_option maxRecDepth 100000 in
set_option maxHeartbeats 1600000 in
theorem acts_any (p : Nat) (A : Option Addr) (c : Nat) (bs : List Int) (w : World) (hc : Cur w p A bs.length c) (hb : Bytes w p A bs) :
    Calls Tryz.prog 19 #[.pointer (some ⟨p, 0, none⟩)] w fun e w' => ∃ (n : Nat) (xs : List Int) (A' : Option Addr) (c' : Nat), (n ≤ 15 ∧ xs.length = n * 4 ∧ actsOk xs n) ∧ e = .returned (.slice A' n c') ∧
      w'.ownsRow w.heap.size 30 4 (.slice A' n c') n (ints xs) ∧ Cur w' p A bs.length c ∧ Touch [p] w w' := by
  have HB := hid hb
  have HC := hid hc
  have hp := hc.lt
  clear hb hc
  go_enter Tryz.func19, Tryz.ntmps19
  go_wp2_with fail
  go_loopw [3, 4] (fun o i wr => ∃ (k : Nat) (xs : List Int) (A' : Option Addr) (c' : Nat), k ≤ 15 ∧ i = .int .i64 k ∧ o = .slice A' k c' ∧ xs.length = k * 4 ∧ actsOk xs k ∧
    wr.ownsRow w.heap.size 30 4 (.slice A' k c') k (ints xs) ∧ Cur wr p A bs.length c ∧ Touch [p] w wr) (fun _ i _ => 16 - (intOf i).toNat)
  case atStart => exact ⟨0, [], some ⟨w.heap.size, 0, none⟩, 0, Nat.zero_le _, rfl, rfl, rfl, fun j hj => absurd hj (by omega), own_lit (size := 4) #[] 0 rfl (Nat.le_refl _) (Nat.zero_le _) rfl, HC.out.alloc _, (Touch.refl _ _).alloc _⟩
  case round =>
    obtain ⟨k, xs, A', c', hk, rfl, rfl, hl, hok, hown, hcu, htw⟩ := hrel
    have zw := htw.size
    have HL := hid hl
    have HK := hid hok
    have HO := hid hown
    have HU := hid hcu
    have HD := hid htw
    clear hown hcu htw hl hok
    go_wp2_with fail
    refine (below_any 16 _ _ _ _ _ (by omega) (by omega) HU.out (HB.out.touch1 HD.out (by omega) (by simp))).mono ?_
    rintro e w2 ⟨r, rfl, hr0, hr1, hc2, hT⟩
    have z2 := hT.size
    have HO2 := hid (own_touch' hT HO.out (fun q hq => by have h1 := own_in HO.out q hq; simp; omega))
    have HU2 := hid hc2
    have HD2 := hid (HD.out.trans hT)
    clear hc2 hT
    by_cases hlt : (k : Int) < r
    · go_wp2_with fail
      refine (act_any _ _ _ _ _ HU2.out (HB.out.touch1 HD2.out (by omega) (by simp))).mono ?_
      rintro e w3 ⟨a0, a1, a2, a3, rfl, ha, hc3, hT⟩
      have z3 := hT.size
      have HO3 := hid (own_touch' hT HO2.out (fun q hq => by have h1 := own_in HO2.out q hq; simp; omega))
      have HU3 := hid hc3
      have HD3 := hid (HD2.out.trans hT)
      have HA := hid ha
      clear hc3 hT ha
      go_wp2_with (at_builtin; go_loud (refine wpList_appi rfl _ _ 24 rfl w.heap.size 30 (.agg #[.int .i64 0, .int .i64 0, .int .i64 0, .int .i64 0]) 4 32 Tryz.underlying24 infoAct rfl (by decide) _ k _ rfl (HO3.out.alloc _) ⟨w3.heap.size, 0, none⟩ 1 1 _ rfl rfl (many_new _ [.int .i64 a0, .int .i64 a1, .int .i64 a2, .int .i64 a3] _) (act_one _ _ _ _) (by omega) (by decide) (by simp; omega) ?_))
      intro A3 c3 w4 ho4 hg4 li4
      have hg := grown_alloc hg4
      have z4 := hg.size
      have hlo : ∀ q, (Value.slice A' k c').ownBlock = some q → w.heap.size ≤ q := fun q hq => (own_in HO3.out q hq).1
      have hc4 := HU3.out.grown hg (fun q hq => by have h1 := hlo q hq; omega)
      have ht4 := HD3.out.grown' hg hlo
      rw [ints_four] at ho4
      have HO4 := hid ho4
      have HU4 := hid hc4
      have HD4 := hid ht4
      clear hg hg4 li4 hlo ho4 hc4 ht4
      go_wp2
      go_roundw
      case rel => exact ⟨k + 1, xs ++ [a0, a1, a2, a3], A3, c3, by omega, by go_num, rfl, by rw [List.length_append, HL.out]; simp; omega, actsOk_snoc HL.out HK.out HA.out, HO4.out, HU4.out, HD4.out⟩
      case measure => simp [intOf]; omega
    · go_wp2
      go_ret
      exact ⟨k, xs, A', c', ⟨hk, HL.out, HK.out⟩, rfl, HO2.out, HU2.out, HD2.out⟩
set_option linter.unusedVariables false in
theorem drawActs_any (A : Option Addr) (c : Nat) (bs : List Int) (w : World) (hb : Bytes w w.heap.size A bs) :
    Calls Tryz.prog 6 #[.slice A bs.length c] w fun e w' => ∃ (z : Int) (n : Nat) (xs : List Int) (A' : Option Addr) (c' : Nat), ((10 ≤ z ∧ z ≤ 99) ∧ n ≤ 15 ∧ xs.length = n * 4 ∧ actsOk xs n) ∧ e = .returned (.tuple #[.int .i64 z, .slice A' n c']) ∧
      w'.ownsRow w.heap.size 30 4 (.slice A' n c') n (ints xs) ∧ Below w.heap.size w w' := by
  have HB := hid hb
  clear hb
  go_enter Tryz.func6, Tryz.ntmps6
  go_wp2_with fail
  refine (new_any _ _ _ _ HB.out).mono ?_
  rintro e w1 ⟨rfl, hc1, hb1⟩
  have s1 := hb1.size
  have z1 := hc1.lt
  have HC := hid hc1
  have HW := hid hb1
  clear hc1 hb1
  go_wp2_with fail
  refine (below_any 90 _ _ _ _ _ (by omega) (by omega) HC.out (HB.out.step HW.out)).mono ?_
  rintro e w2 ⟨r, rfl, hr0, hr1, hc2, hT⟩
  have z2 := hT.size
  have HC2 := hid hc2
  have HW2 := hid (hT.below HW.out (by simp))
  have hw : IntKind.i64.wrap (10 + r) = 10 + r := IntWalk.i64_in _ (by omega)
  clear hc2 hT
  go_wp2_with fail
  refine (acts_any _ _ _ _ _ HC2.out (HB.out.step HW2.out)).mono ?_
  rintro e w3 ⟨n, xs, A', c', hxs, rfl, hro, hc3, hT⟩
  have HRO := hid hro
  have HW3 := hid (hT.below HW2.out (by simp))
  have HX := hid hxs
  clear hro hc3 hT hxs
  go_wp2
  go_returns
  exact ⟨10 + r, n, xs, A', c', ⟨⟨by omega, by omega⟩, HX.out⟩, rfl, own_weak HRO.out (by omega), HW3.out⟩
end Go.Proofs.YtjknadnknainbaaGreatDoor
