/- The laws' own functions on a schedule: the copy, the comparison of equal ones, the marks, the count, the size. -/
import Derived.Test.YtknkpajedbckmaaDoorJobS
import Derived.Test.YtknkpajedbckmaaDoorTicketS
import Derived.Test.YtknkpajedbckmaaDoorIntS
namespace Go.Proofs.YtknkpajedbckmaaDoor
open Go.RowKit

theorem own_ne {w : World} {b1 b2 e1 e2 s1 s2 n1 n2 : Nat} {v1 v2 : Value} {xs ys : List Value} (h1 : w.ownsRow b1 e1 s1 v1 n1 xs) (h2 : w.ownsRow b2 e2 s2 v2 n2 ys) (hne : e1 ≠ e2) :
    ∀ q p, v1.ownBlock = some q → v2.ownBlock = some p → q ≠ p := by
  intro q p hq hp e
  subst e
  rcases h1.2 with ⟨hv, _⟩ | ⟨g, cap, cur, hv, hg, hh, _⟩
  · rw [hv] at hq; cases hq
  · rcases h2.2 with ⟨hv2, _⟩ | ⟨g2, cap2, cur2, hv2, hg2, hh2, _⟩
    · rw [hv2] at hp; cases hp
    · rw [hv] at hq
      rw [hv2] at hp
      have e1' : g = q := Option.some.inj hq
      have e2' : g2 = q := Option.some.inj hp
      subst e1'
      subst e2'
      rw [hh] at hh2
      injection hh2 with hh2
      injection hh2 with _ h3 _
      exact hne h3
theorem toPool_any (z n b : Int) (w : World) : Calls Tryd.prog 25 #[.agg #[.int .i64 z, .int .i64 n, .int .i64 b]] w fun e w' => e = .returned (.agg #[.int .i64 z, .int .i64 n, .int .i64 b]) ∧ Below w.heap.size w w' := by
  go_enter Tryd.func25, Tryd.ntmps25
  go_wp2
  go_returns
  refine ⟨rfl, ?_⟩
  repeat (first | (with_reducible exact Below.refl _ _) | (with_reducible refine Below.trans ?_ (Below.mono (by assumption) (by first | omega | (simp; done) | (simp; omega) | (simp [*]; done)))) | (with_reducible refine Below.alloc ?_ (by first | omega | (simp; done) | (simp; omega) | (simp [*]; done)) _) | (with_reducible refine Below.setCell ?_ (by first | omega | (simp; done) | (simp; omega) | (simp [*]; done)) _) | (with_reducible refine Below.drew ?_) | (with_reducible refine below_drewN ?_))
theorem eqPool_same (z n b : Int) (w : World) : Calls Tryd.prog 30 #[.agg #[.int .i64 z, .int .i64 n, .int .i64 b], .agg #[.int .i64 z, .int .i64 n, .int .i64 b]] w fun e w' => e = .returned (.bool true) ∧ Below w.heap.size w w' := by
  go_enter Tryd.func30, Tryd.ntmps30
  go_wp2
  go_ret
  refine ⟨rfl, ?_⟩
  repeat (first | (with_reducible exact Below.refl _ _) | (with_reducible refine Below.trans ?_ (Below.mono (by assumption) (by first | omega | (simp; done) | (simp; omega) | (simp [*]; done)))) | (with_reducible refine Below.alloc ?_ (by first | omega | (simp; done) | (simp; omega) | (simp [*]; done)) _) | (with_reducible refine Below.setCell ?_ (by first | omega | (simp; done) | (simp; omega) | (simp [*]; done)) _) | (with_reducible refine Below.drew ?_) | (with_reducible refine below_drewN ?_))
theorem eqSched_same (z n b : Int) (J J' T T' F F' : Option Addr) (nj cj cj' nt ct ct' cf cf' : Nat) (js ts fs : List Int) (w : World) (hj : js.length = nj * 4) (ht : ts.length = nt * 2)
    (h1 : Cells w w.heap.size J (ints js)) (h1' : Cells w w.heap.size J' (ints js)) (h2 : Cells w w.heap.size T (ints ts)) (h2' : Cells w w.heap.size T' (ints ts)) (h3 : Cells w w.heap.size F (ints fs)) (h3' : Cells w w.heap.size F' (ints fs))
    (b1 : nj ≤ 1000000000) (b2 : nt ≤ 1000000000) (b3 : fs.length ≤ 1000000000) :
    Calls Tryd.prog 13 #[.agg #[.int .i64 z, .int .i64 n, .int .i64 b, .slice J nj cj, .slice T nt ct, .slice F fs.length cf], .agg #[.int .i64 z, .int .i64 n, .int .i64 b, .slice J' nj cj', .slice T' nt ct', .slice F' fs.length cf']] w
      fun e w' => e = .returned (.bool true) ∧ Below w.heap.size w w' := by
  have HJ := hid hj
  have HT := hid ht
  clear hj ht
  go_enter Tryd.func13, Tryd.ntmps13
  have b_0 := (Below.refl w.heap.size w)
  have s_0 := b_0.size
  have j_0 := h1
  clear h1
  have jj_0 := h1'
  clear h1'
  have t_0 := h2
  clear h2
  have tt_0 := h2'
  clear h2'
  have f_0 := h3
  clear h3
  have ff_0 := h3'
  clear h3'
  go_wp2_with fail
  refine calls_forget2 (W := w) (b0 := w.heap.size) (t0 := 43) (c0 := #[.int .i64 z, .int .i64 n, .int .i64 b, .slice J nj cj, .slice T nt ct, .slice F fs.length cf]) (b1 := w.heap.size + 1) (t1 := 43) (c1 := #[.int .i64 z, .int .i64 n, .int .i64 b, .slice J' nj cj', .slice T' nt ct', .slice F' fs.length cf']) ?_ ?_ ?_ ?_
  (focus (first | ((repeat (first | (with_reducible assumption) | (with_reducible apply Blk.drew) | (with_reducible apply Blk.drewN) | (with_reducible apply Blk.new; first | rfl | (simp; done)) | (with_reducible apply Blk.alloc) | (with_reducible apply Blk.set_) | (with_reducible apply Blk.past; focus assumption) | (with_reducible apply Blk.far; focus (first | (simp; done) | (simp; omega) | (dsimp only; omega))))); done) | (apply Blk.cast; (case h => (repeat (first | (with_reducible assumption) | (with_reducible apply Blk.drew) | (with_reducible apply Blk.drewN) | (with_reducible apply Blk.new; first | rfl | (simp; done)) | (with_reducible apply Blk.alloc) | (with_reducible apply Blk.set_) | (with_reducible apply Blk.past; focus assumption) | (with_reducible apply Blk.far; focus (first | (simp; done) | (simp; omega) | (dsimp only; omega)))))); (case e => rfl))))
  (focus (first | ((repeat (first | (with_reducible assumption) | (with_reducible apply Blk.drew) | (with_reducible apply Blk.drewN) | (with_reducible apply Blk.new; first | rfl | (simp; done)) | (with_reducible apply Blk.alloc) | (with_reducible apply Blk.set_) | (with_reducible apply Blk.past; focus assumption) | (with_reducible apply Blk.far; focus (first | (simp; done) | (simp; omega) | (dsimp only; omega))))); done) | (apply Blk.cast; (case h => (repeat (first | (with_reducible assumption) | (with_reducible apply Blk.drew) | (with_reducible apply Blk.drewN) | (with_reducible apply Blk.new; first | rfl | (simp; done)) | (with_reducible apply Blk.alloc) | (with_reducible apply Blk.set_) | (with_reducible apply Blk.past; focus assumption) | (with_reducible apply Blk.far; focus (first | (simp; done) | (simp; omega) | (dsimp only; omega)))))); (case e => rfl))))
  (focus (repeat (first | (with_reducible exact Below.refl _ _) | (with_reducible refine Below.trans ?_ (Below.mono (by assumption) (by first | omega | (simp; done) | (simp; omega) | (simp [*]; done)))) | (with_reducible refine Below.alloc ?_ (by first | omega | (simp; done) | (simp; omega) | (simp [*]; done)) _) | (with_reducible refine Below.setCell ?_ (by first | omega | (simp; done) | (simp; omega) | (simp [*]; done)) _) | (with_reducible refine Below.drew ?_) | (with_reducible refine below_drewN ?_))))
  intro X1 x_n y_n hX1
  have sX1 := hX1.size
  have x_lt := x_n.lt
  have y_lt := y_n.lt
  refine (eqPool_same _ _ _ _).mono ?_
  rintro e w1 ⟨rfl, hb1⟩
  have s1 := hb1.size
  have hT1 := hX1.trans (hb1.mono sX1)
  have b_1 := b_0.trans (hT1.mono (by omega))
  have j_1 := cells_below j_0 hT1 (by omega)
  have jj_1 := cells_below jj_0 hT1 (by omega)
  have t_1 := cells_below t_0 hT1 (by omega)
  have tt_1 := cells_below tt_0 hT1 (by omega)
  have f_1 := cells_below f_0 hT1 (by omega)
  have ff_1 := cells_below ff_0 hT1 (by omega)
  have x_1 := Blk.past hb1 x_n
  have y_1 := Blk.past hb1 y_n
  clear j_0 jj_0 t_0 tt_0 f_0 ff_0 b_0 x_n y_n hX1 hT1 hb1
  have cell_x := x_1.cell
  have froz_x := x_1.frozen
  have lt_x := x_1.lt
  have cell_y := y_1.cell
  have froz_y := y_1.frozen
  have lt_y := y_1.lt
  go_wp2_with fail
  refine calls_forget0 (W := w1) ?_ ?_
  (focus (repeat (first | (with_reducible exact Below.refl _ _) | (with_reducible refine Below.trans ?_ (Below.mono (by assumption) (by first | omega | (simp; done) | (simp; omega) | (simp [*]; done)))) | (with_reducible refine Below.alloc ?_ (by first | omega | (simp; done) | (simp; omega) | (simp [*]; done)) _) | (with_reducible refine Below.setCell ?_ (by first | omega | (simp; done) | (simp; omega) | (simp [*]; done)) _) | (with_reducible refine Below.drew ?_) | (with_reducible refine below_drewN ?_))))
  intro X2 hX2
  have sX2 := hX2.size
  refine (eqJobS_same _ _ _ _ _ _ _ HJ.out ((cells_below j_1 hX2 (by omega)).more (by omega)) ((cells_below jj_1 hX2 (by omega)).more (by omega)) b1).mono ?_
  rintro e w2 ⟨rfl, hb2⟩
  have s2 := hb2.size
  have hT2 := hX2.trans (hb2.mono sX2)
  have b_2 := b_1.trans (hT2.mono (by omega))
  have j_2 := cells_below j_1 hT2 (by omega)
  have jj_2 := cells_below jj_1 hT2 (by omega)
  have t_2 := cells_below t_1 hT2 (by omega)
  have tt_2 := cells_below tt_1 hT2 (by omega)
  have f_2 := cells_below f_1 hT2 (by omega)
  have ff_2 := cells_below ff_1 hT2 (by omega)
  have x_2 := Blk.past hT2 x_1
  have y_2 := Blk.past hT2 y_1
  clear j_1 jj_1 t_1 tt_1 f_1 ff_1 x_1 y_1 b_1 cell_x froz_x lt_x cell_y froz_y lt_y hX2 hT2 hb2
  have cell_x := x_2.cell
  have froz_x := x_2.frozen
  have lt_x := x_2.lt
  have cell_y := y_2.cell
  have froz_y := y_2.frozen
  have lt_y := y_2.lt
  go_wp2_with fail
  refine calls_forget0 (W := w2) ?_ ?_
  (focus (repeat (first | (with_reducible exact Below.refl _ _) | (with_reducible refine Below.trans ?_ (Below.mono (by assumption) (by first | omega | (simp; done) | (simp; omega) | (simp [*]; done)))) | (with_reducible refine Below.alloc ?_ (by first | omega | (simp; done) | (simp; omega) | (simp [*]; done)) _) | (with_reducible refine Below.setCell ?_ (by first | omega | (simp; done) | (simp; omega) | (simp [*]; done)) _) | (with_reducible refine Below.drew ?_) | (with_reducible refine below_drewN ?_))))
  intro X3 hX3
  have sX3 := hX3.size
  refine (eqTicketS_same _ _ _ _ _ _ _ HT.out ((cells_below t_2 hX3 (by omega)).more (by omega)) ((cells_below tt_2 hX3 (by omega)).more (by omega)) b2).mono ?_
  rintro e w3 ⟨rfl, hb3⟩
  have s3 := hb3.size
  have hT3 := hX3.trans (hb3.mono sX3)
  have b_3 := b_2.trans (hT3.mono (by omega))
  have j_3 := cells_below j_2 hT3 (by omega)
  have jj_3 := cells_below jj_2 hT3 (by omega)
  have t_3 := cells_below t_2 hT3 (by omega)
  have tt_3 := cells_below tt_2 hT3 (by omega)
  have f_3 := cells_below f_2 hT3 (by omega)
  have ff_3 := cells_below ff_2 hT3 (by omega)
  have x_3 := Blk.past hT3 x_2
  have y_3 := Blk.past hT3 y_2
  clear j_2 jj_2 t_2 tt_2 f_2 ff_2 x_2 y_2 b_2 cell_x froz_x lt_x cell_y froz_y lt_y hX3 hT3 hb3
  have cell_x := x_3.cell
  have froz_x := x_3.frozen
  have lt_x := x_3.lt
  have cell_y := y_3.cell
  have froz_y := y_3.frozen
  have lt_y := y_3.lt
  go_wp2_with fail
  refine calls_forget0 (W := w3) ?_ ?_
  (focus (repeat (first | (with_reducible exact Below.refl _ _) | (with_reducible refine Below.trans ?_ (Below.mono (by assumption) (by first | omega | (simp; done) | (simp; omega) | (simp [*]; done)))) | (with_reducible refine Below.alloc ?_ (by first | omega | (simp; done) | (simp; omega) | (simp [*]; done)) _) | (with_reducible refine Below.setCell ?_ (by first | omega | (simp; done) | (simp; omega) | (simp [*]; done)) _) | (with_reducible refine Below.drew ?_) | (with_reducible refine below_drewN ?_))))
  intro X4 hX4
  have sX4 := hX4.size
  refine (eqIntS_same _ _ _ _ _ _ ((cells_below f_3 hX4 (by omega)).more (by omega)) ((cells_below ff_3 hX4 (by omega)).more (by omega)) b3).mono ?_
  rintro e w4 ⟨rfl, hb4⟩
  have s4 := hb4.size
  have hT4 := hX4.trans (hb4.mono sX4)
  have b_4 := b_3.trans (hT4.mono (by omega))
  have j_4 := cells_below j_3 hT4 (by omega)
  have jj_4 := cells_below jj_3 hT4 (by omega)
  have t_4 := cells_below t_3 hT4 (by omega)
  have tt_4 := cells_below tt_3 hT4 (by omega)
  have f_4 := cells_below f_3 hT4 (by omega)
  have ff_4 := cells_below ff_3 hT4 (by omega)
  have x_4 := Blk.past hT4 x_3
  have y_4 := Blk.past hT4 y_3
  clear j_3 jj_3 t_3 tt_3 f_3 ff_3 x_3 y_3 b_3 cell_x froz_x lt_x cell_y froz_y lt_y hX4 hT4 hb4
  have cell_x := x_4.cell
  have froz_x := x_4.frozen
  have lt_x := x_4.lt
  have cell_y := y_4.cell
  have froz_y := y_4.frozen
  have lt_y := y_4.lt
  go_wp2
  go_ret
  refine ⟨rfl, b_4.trans ?_⟩
  repeat (first | (with_reducible exact Below.refl _ _) | (with_reducible refine Below.trans ?_ (Below.mono (by assumption) (by first | omega | (simp; done) | (simp; omega) | (simp [*]; done)))) | (with_reducible refine Below.alloc ?_ (by first | omega | (simp; done) | (simp; omega) | (simp [*]; done)) _) | (with_reducible refine Below.setCell ?_ (by first | omega | (simp; done) | (simp; omega) | (simp [*]; done)) _) | (with_reducible refine Below.drew ?_) | (with_reducible refine below_drewN ?_))
theorem toJobS_ex (A : Option Addr) (c n : Nat) (xs : List Int) (w : World) (hl : xs.length = n * 4) (hc : Cells w w.heap.size A (ints xs)) (hn : n ≤ 1048576) :
    Calls Tryd.prog 26 #[.slice A n c] w fun e w' => ∃ A', e = .returned (.slice A' n n) ∧ w'.ownsRow w.heap.size 57 4 (.slice A' n n) n (ints xs) ∧ Below w.heap.size w w' :=
  (toJobS_any A c n xs w hl hc hn).mono fun _ _ ⟨h1, h2, h3⟩ => ⟨_, h1, h2, h3⟩
theorem toTicketS_ex (A : Option Addr) (c n : Nat) (xs : List Int) (w : World) (hl : xs.length = n * 2) (hc : Cells w w.heap.size A (ints xs)) (hn : n ≤ 1048576) :
    Calls Tryd.prog 27 #[.slice A n c] w fun e w' => ∃ A', e = .returned (.slice A' n n) ∧ w'.ownsRow w.heap.size 75 2 (.slice A' n n) n (ints xs) ∧ Below w.heap.size w w' :=
  (toTicketS_any A c n xs w hl hc hn).mono fun _ _ ⟨h1, h2, h3⟩ => ⟨_, h1, h2, h3⟩
theorem toIntS_ex (A : Option Addr) (c : Nat) (xs : List Int) (w : World) (hc : Cells w w.heap.size A (ints xs)) (hn : xs.length ≤ 1048576) :
    Calls Tryd.prog 28 #[.slice A xs.length c] w fun e w' => ∃ A', e = .returned (.slice A' xs.length xs.length) ∧ w'.ownsRow w.heap.size 3 1 (.slice A' xs.length xs.length) xs.length (ints xs) ∧ Below w.heap.size w w' :=
  (toIntS_any A c xs w hc hn).mono fun _ _ ⟨h1, h2, h3⟩ => ⟨_, h1, h2, h3⟩
set_option maxHeartbeats 1600000 in
theorem toSched_any (z n b : Int) (J T F : Option Addr) (nj cj nt ct cf : Nat) (js ts fs : List Int) (w : World) (hj : js.length = nj * 4) (ht : ts.length = nt * 2)
    (h1 : Cells w w.heap.size J (ints js)) (h2 : Cells w w.heap.size T (ints ts)) (h3 : Cells w w.heap.size F (ints fs)) (b1 : nj ≤ 1048576) (b2 : nt ≤ 1048576) (b3 : fs.length ≤ 1048576) :
    Calls Tryd.prog 10 #[.agg #[.int .i64 z, .int .i64 n, .int .i64 b, .slice J nj cj, .slice T nt ct, .slice F fs.length cf]] w fun e w' => ∃ J' T' F',
      e = .returned (.agg #[.int .i64 z, .int .i64 n, .int .i64 b, .slice J' nj nj, .slice T' nt nt, .slice F' fs.length fs.length]) ∧
      w'.ownsRow w.heap.size 57 4 (.slice J' nj nj) nj (ints js) ∧ w'.ownsRow w.heap.size 75 2 (.slice T' nt nt) nt (ints ts) ∧
      w'.ownsRow w.heap.size 3 1 (.slice F' fs.length fs.length) fs.length (ints fs) ∧ Below w.heap.size w w' := by
  have HJ := hid hj
  have HT := hid ht
  clear hj ht
  go_enter Tryd.func10, Tryd.ntmps10
  have b_0 := (Below.refl w.heap.size w)
  have s_0 := b_0.size
  have j_0 := h1
  clear h1
  have t_0 := h2
  clear h2
  have f_0 := h3
  clear h3
  go_wp2_with fail
  refine calls_forget3 (W := w) (b0 := w.heap.size) (t0 := 35) (c0 := #[.int .i64 z, .int .i64 n, .int .i64 b, .slice J nj cj, .slice T nt ct, .slice F fs.length cf]) (b1 := w.heap.size + 1) (t1 := 43) (c1 := #[.int .i64 0, .int .i64 0, .int .i64 0, .slice none 0 0, .slice none 0 0, .slice none 0 0]) (b2 := w.heap.size + 2) (t2 := 43) (c2 := #[.int .i64 0, .int .i64 0, .int .i64 0, .slice none 0 0, .slice none 0 0, .slice none 0 0]) ?_ ?_ ?_ ?_ ?_
  (focus (first | ((repeat (first | (with_reducible assumption) | (with_reducible apply Blk.drew) | (with_reducible apply Blk.drewN) | (with_reducible apply Blk.new; first | rfl | (simp; done)) | (with_reducible apply Blk.alloc) | (with_reducible apply Blk.set_) | (with_reducible apply Blk.past; focus assumption) | (with_reducible apply Blk.far; focus (first | (simp; done) | (simp; omega) | (dsimp only; omega))))); done) | (apply Blk.cast; (case h => (repeat (first | (with_reducible assumption) | (with_reducible apply Blk.drew) | (with_reducible apply Blk.drewN) | (with_reducible apply Blk.new; first | rfl | (simp; done)) | (with_reducible apply Blk.alloc) | (with_reducible apply Blk.set_) | (with_reducible apply Blk.past; focus assumption) | (with_reducible apply Blk.far; focus (first | (simp; done) | (simp; omega) | (dsimp only; omega)))))); (case e => rfl))))
  (focus (first | ((repeat (first | (with_reducible assumption) | (with_reducible apply Blk.drew) | (with_reducible apply Blk.drewN) | (with_reducible apply Blk.new; first | rfl | (simp; done)) | (with_reducible apply Blk.alloc) | (with_reducible apply Blk.set_) | (with_reducible apply Blk.past; focus assumption) | (with_reducible apply Blk.far; focus (first | (simp; done) | (simp; omega) | (dsimp only; omega))))); done) | (apply Blk.cast; (case h => (repeat (first | (with_reducible assumption) | (with_reducible apply Blk.drew) | (with_reducible apply Blk.drewN) | (with_reducible apply Blk.new; first | rfl | (simp; done)) | (with_reducible apply Blk.alloc) | (with_reducible apply Blk.set_) | (with_reducible apply Blk.past; focus assumption) | (with_reducible apply Blk.far; focus (first | (simp; done) | (simp; omega) | (dsimp only; omega)))))); (case e => rfl))))
  (focus (first | ((repeat (first | (with_reducible assumption) | (with_reducible apply Blk.drew) | (with_reducible apply Blk.drewN) | (with_reducible apply Blk.new; first | rfl | (simp; done)) | (with_reducible apply Blk.alloc) | (with_reducible apply Blk.set_) | (with_reducible apply Blk.past; focus assumption) | (with_reducible apply Blk.far; focus (first | (simp; done) | (simp; omega) | (dsimp only; omega))))); done) | (apply Blk.cast; (case h => (repeat (first | (with_reducible assumption) | (with_reducible apply Blk.drew) | (with_reducible apply Blk.drewN) | (with_reducible apply Blk.new; first | rfl | (simp; done)) | (with_reducible apply Blk.alloc) | (with_reducible apply Blk.set_) | (with_reducible apply Blk.past; focus assumption) | (with_reducible apply Blk.far; focus (first | (simp; done) | (simp; omega) | (dsimp only; omega)))))); (case e => rfl))))
  (focus (repeat (first | (with_reducible exact Below.refl _ _) | (with_reducible refine Below.trans ?_ (Below.mono (by assumption) (by first | omega | (simp; done) | (simp; omega) | (simp [*]; done)))) | (with_reducible refine Below.alloc ?_ (by first | omega | (simp; done) | (simp; omega) | (simp [*]; done)) _) | (with_reducible refine Below.setCell ?_ (by first | omega | (simp; done) | (simp; omega) | (simp [*]; done)) _) | (with_reducible refine Below.drew ?_) | (with_reducible refine below_drewN ?_))))
  intro X1 x_n r_n o_n hX1
  have sX1 := hX1.size
  have x_lt := x_n.lt
  have r_lt := r_n.lt
  have o_lt := o_n.lt
  refine (toPool_any _ _ _ _).mono ?_
  rintro e w1 ⟨rfl, hb1⟩
  have s1 := hb1.size
  have hT1 := hX1.trans (hb1.mono sX1)
  have b_1 := b_0.trans (hT1.mono (by omega))
  have j_1 := cells_below j_0 hT1 (by omega)
  have t_1 := cells_below t_0 hT1 (by omega)
  have f_1 := cells_below f_0 hT1 (by omega)
  have x_1 := Blk.past hb1 x_n
  have r_1 := Blk.past hb1 r_n
  have o_1 := Blk.past hb1 o_n
  clear j_0 t_0 f_0 b_0 x_n r_n o_n hX1 hT1 hb1
  have cell_x := x_1.cell
  have froz_x := x_1.frozen
  have lt_x := x_1.lt
  have cell_r := r_1.cell
  have froz_r := r_1.frozen
  have lt_r := r_1.lt
  have cell_o := o_1.cell
  have froz_o := o_1.frozen
  have lt_o := o_1.lt
  go_wp2_with fail
  refine calls_touch1 (w0 := w1) (L := [w.heap.size + 2]) (b0 := w.heap.size + 2) (t0 := 43) (c0 := #[.int .i64 z, .int .i64 n, .int .i64 b, .slice none 0 0, .slice none 0 0, .slice none 0 0]) ?_ ?_ ?_
  (focus (first | ((repeat (first | (with_reducible assumption) | (with_reducible apply Blk.drew) | (with_reducible apply Blk.drewN) | (with_reducible apply Blk.new; first | rfl | (simp; done)) | (with_reducible apply Blk.alloc) | (with_reducible apply Blk.set_) | (with_reducible apply Blk.past; focus assumption) | (with_reducible apply Blk.far; focus (first | (simp; done) | (simp; omega) | (dsimp only; omega))))); done) | (apply Blk.cast; (case h => (repeat (first | (with_reducible assumption) | (with_reducible apply Blk.drew) | (with_reducible apply Blk.drewN) | (with_reducible apply Blk.new; first | rfl | (simp; done)) | (with_reducible apply Blk.alloc) | (with_reducible apply Blk.set_) | (with_reducible apply Blk.past; focus assumption) | (with_reducible apply Blk.far; focus (first | (simp; done) | (simp; omega) | (dsimp only; omega)))))); (case e => rfl))))
  (focus (repeat (first | (with_reducible exact Touch.refl _ _) | (with_reducible assumption) | (with_reducible apply Touch.drew) | (with_reducible apply Touch.drewN) | (with_reducible apply Touch.alloc) | (with_reducible refine Touch.set_ ?_ _ _ (by simp; done)) | (with_reducible refine Touch.set_new ?_ _ _ (by first | omega | (simp; omega) | (dsimp only; omega))))))
  intro w2 o_2 hX2
  have sX2 := hX2.size
  have b_2 := hX2.below b_1 (by first | (simp; done) | (simp; omega))
  have j_2 := cells_touch hX2 j_1 (by omega) (by first | (simp; done) | (simp; omega))
  have t_2 := cells_touch hX2 t_1 (by omega) (by first | (simp; done) | (simp; omega))
  have f_2 := cells_touch hX2 f_1 (by omega) (by first | (simp; done) | (simp; omega))
  have x_2 := Blk.touch hX2 x_1 (by first | (simp; done) | (simp; omega))
  have r_2 := Blk.touch hX2 r_1 (by first | (simp; done) | (simp; omega))
  clear j_1 t_1 f_1 x_1 r_1 o_1 b_1 cell_x froz_x lt_x cell_r froz_r lt_r cell_o froz_o lt_o hX2
  have cell_x := x_2.cell
  have froz_x := x_2.frozen
  have lt_x := x_2.lt
  have cell_r := r_2.cell
  have froz_r := r_2.frozen
  have lt_r := r_2.lt
  have cell_o := o_2.cell
  have froz_o := o_2.frozen
  have lt_o := o_2.lt
  go_wp2_with fail
  refine calls_forget0 (W := w2) ?_ ?_
  (focus (repeat (first | (with_reducible exact Below.refl _ _) | (with_reducible refine Below.trans ?_ (Below.mono (by assumption) (by first | omega | (simp; done) | (simp; omega) | (simp [*]; done)))) | (with_reducible refine Below.alloc ?_ (by first | omega | (simp; done) | (simp; omega) | (simp [*]; done)) _) | (with_reducible refine Below.setCell ?_ (by first | omega | (simp; done) | (simp; omega) | (simp [*]; done)) _) | (with_reducible refine Below.drew ?_) | (with_reducible refine below_drewN ?_))))
  intro X3 hX3
  have sX3 := hX3.size
  refine (toJobS_ex _ _ _ _ _ HJ.out ((cells_below j_2 hX3 (by omega)).more (by omega)) b1).mono ?_
  rintro e w3 ⟨Aj, rfl, rj_3, hb3⟩
  have s3 := hb3.size
  have hT3 := hX3.trans (hb3.mono sX3)
  have b_3 := b_2.trans (hT3.mono (by omega))
  have j_3 := cells_below j_2 hT3 (by omega)
  have t_3 := cells_below t_2 hT3 (by omega)
  have f_3 := cells_below f_2 hT3 (by omega)
  have x_3 := Blk.past hT3 x_2
  have r_3 := Blk.past hT3 r_2
  have o_3 := Blk.past hT3 o_2
  have rj_in := own_in rj_3
  clear j_2 t_2 f_2 x_2 r_2 o_2 b_2 cell_x froz_x lt_x cell_r froz_r lt_r cell_o froz_o lt_o hX3 hT3 hb3
  have cell_x := x_3.cell
  have froz_x := x_3.frozen
  have lt_x := x_3.lt
  have cell_r := r_3.cell
  have froz_r := r_3.frozen
  have lt_r := r_3.lt
  have cell_o := o_3.cell
  have froz_o := o_3.frozen
  have lt_o := o_3.lt
  go_wp2_with fail
  refine calls_touch1 (w0 := w3) (L := [w.heap.size + 2]) (b0 := w.heap.size + 2) (t0 := 43) (c0 := #[.int .i64 z, .int .i64 n, .int .i64 b, .slice Aj nj nj, .slice none 0 0, .slice none 0 0]) ?_ ?_ ?_
  (focus (first | ((repeat (first | (with_reducible assumption) | (with_reducible apply Blk.drew) | (with_reducible apply Blk.drewN) | (with_reducible apply Blk.new; first | rfl | (simp; done)) | (with_reducible apply Blk.alloc) | (with_reducible apply Blk.set_) | (with_reducible apply Blk.past; focus assumption) | (with_reducible apply Blk.far; focus (first | (simp; done) | (simp; omega) | (dsimp only; omega))))); done) | (apply Blk.cast; (case h => (repeat (first | (with_reducible assumption) | (with_reducible apply Blk.drew) | (with_reducible apply Blk.drewN) | (with_reducible apply Blk.new; first | rfl | (simp; done)) | (with_reducible apply Blk.alloc) | (with_reducible apply Blk.set_) | (with_reducible apply Blk.past; focus assumption) | (with_reducible apply Blk.far; focus (first | (simp; done) | (simp; omega) | (dsimp only; omega)))))); (case e => rfl))))
  (focus (repeat (first | (with_reducible exact Touch.refl _ _) | (with_reducible assumption) | (with_reducible apply Touch.drew) | (with_reducible apply Touch.drewN) | (with_reducible apply Touch.alloc) | (with_reducible refine Touch.set_ ?_ _ _ (by simp; done)) | (with_reducible refine Touch.set_new ?_ _ _ (by first | omega | (simp; omega) | (dsimp only; omega))))))
  intro w4 o_4 hX4
  have sX4 := hX4.size
  have b_4 := hX4.below b_3 (by first | (simp; done) | (simp; omega))
  have j_4 := cells_touch hX4 j_3 (by omega) (by first | (simp; done) | (simp; omega))
  have t_4 := cells_touch hX4 t_3 (by omega) (by first | (simp; done) | (simp; omega))
  have f_4 := cells_touch hX4 f_3 (by omega) (by first | (simp; done) | (simp; omega))
  have rj_4 := own_touch' hX4 rj_3 (fun q hq => by have h1 := rj_in q hq; (try have e0 := own_ne_obj rj_3 o_3 (by decide) q hq); simp; omega)
  have x_4 := Blk.touch hX4 x_3 (by first | (simp; done) | (simp; omega))
  have r_4 := Blk.touch hX4 r_3 (by first | (simp; done) | (simp; omega))
  clear j_3 t_3 f_3 rj_3 x_3 r_3 o_3 b_3 cell_x froz_x lt_x cell_r froz_r lt_r cell_o froz_o lt_o hX4
  have cell_x := x_4.cell
  have froz_x := x_4.frozen
  have lt_x := x_4.lt
  have cell_r := r_4.cell
  have froz_r := r_4.frozen
  have lt_r := r_4.lt
  have cell_o := o_4.cell
  have froz_o := o_4.frozen
  have lt_o := o_4.lt
  go_wp2_with fail
  refine calls_forget0 (W := w4) ?_ ?_
  (focus (repeat (first | (with_reducible exact Below.refl _ _) | (with_reducible refine Below.trans ?_ (Below.mono (by assumption) (by first | omega | (simp; done) | (simp; omega) | (simp [*]; done)))) | (with_reducible refine Below.alloc ?_ (by first | omega | (simp; done) | (simp; omega) | (simp [*]; done)) _) | (with_reducible refine Below.setCell ?_ (by first | omega | (simp; done) | (simp; omega) | (simp [*]; done)) _) | (with_reducible refine Below.drew ?_) | (with_reducible refine below_drewN ?_))))
  intro X5 hX5
  have sX5 := hX5.size
  refine (toTicketS_ex _ _ _ _ _ HT.out ((cells_below t_4 hX5 (by omega)).more (by omega)) b2).mono ?_
  rintro e w5 ⟨At, rfl, rt_5, hb5⟩
  have s5 := hb5.size
  have hT5 := hX5.trans (hb5.mono sX5)
  have b_5 := b_4.trans (hT5.mono (by omega))
  have j_5 := cells_below j_4 hT5 (by omega)
  have t_5 := cells_below t_4 hT5 (by omega)
  have f_5 := cells_below f_4 hT5 (by omega)
  have rj_5 := own_below rj_4 hT5
  have x_5 := Blk.past hT5 x_4
  have r_5 := Blk.past hT5 r_4
  have o_5 := Blk.past hT5 o_4
  have rt_in := own_in rt_5
  clear j_4 t_4 f_4 rj_4 x_4 r_4 o_4 b_4 cell_x froz_x lt_x cell_r froz_r lt_r cell_o froz_o lt_o hX5 hT5 hb5
  have cell_x := x_5.cell
  have froz_x := x_5.frozen
  have lt_x := x_5.lt
  have cell_r := r_5.cell
  have froz_r := r_5.frozen
  have lt_r := r_5.lt
  have cell_o := o_5.cell
  have froz_o := o_5.frozen
  have lt_o := o_5.lt
  go_wp2_with fail
  refine calls_touch1 (w0 := w5) (L := [w.heap.size + 2]) (b0 := w.heap.size + 2) (t0 := 43) (c0 := #[.int .i64 z, .int .i64 n, .int .i64 b, .slice Aj nj nj, .slice At nt nt, .slice none 0 0]) ?_ ?_ ?_
  (focus (first | ((repeat (first | (with_reducible assumption) | (with_reducible apply Blk.drew) | (with_reducible apply Blk.drewN) | (with_reducible apply Blk.new; first | rfl | (simp; done)) | (with_reducible apply Blk.alloc) | (with_reducible apply Blk.set_) | (with_reducible apply Blk.past; focus assumption) | (with_reducible apply Blk.far; focus (first | (simp; done) | (simp; omega) | (dsimp only; omega))))); done) | (apply Blk.cast; (case h => (repeat (first | (with_reducible assumption) | (with_reducible apply Blk.drew) | (with_reducible apply Blk.drewN) | (with_reducible apply Blk.new; first | rfl | (simp; done)) | (with_reducible apply Blk.alloc) | (with_reducible apply Blk.set_) | (with_reducible apply Blk.past; focus assumption) | (with_reducible apply Blk.far; focus (first | (simp; done) | (simp; omega) | (dsimp only; omega)))))); (case e => rfl))))
  (focus (repeat (first | (with_reducible exact Touch.refl _ _) | (with_reducible assumption) | (with_reducible apply Touch.drew) | (with_reducible apply Touch.drewN) | (with_reducible apply Touch.alloc) | (with_reducible refine Touch.set_ ?_ _ _ (by simp; done)) | (with_reducible refine Touch.set_new ?_ _ _ (by first | omega | (simp; omega) | (dsimp only; omega))))))
  intro w6 o_6 hX6
  have sX6 := hX6.size
  have b_6 := hX6.below b_5 (by first | (simp; done) | (simp; omega))
  have j_6 := cells_touch hX6 j_5 (by omega) (by first | (simp; done) | (simp; omega))
  have t_6 := cells_touch hX6 t_5 (by omega) (by first | (simp; done) | (simp; omega))
  have f_6 := cells_touch hX6 f_5 (by omega) (by first | (simp; done) | (simp; omega))
  have rj_6 := own_touch' hX6 rj_5 (fun q hq => by have h1 := rj_in q hq; (try have e0 := own_ne_obj rj_5 o_5 (by decide) q hq); simp; omega)
  have rt_6 := own_touch' hX6 rt_5 (fun q hq => by have h1 := rt_in q hq; (try have e0 := own_ne_obj rt_5 o_5 (by decide) q hq); simp; omega)
  have x_6 := Blk.touch hX6 x_5 (by first | (simp; done) | (simp; omega))
  have r_6 := Blk.touch hX6 r_5 (by first | (simp; done) | (simp; omega))
  clear j_5 t_5 f_5 rj_5 rt_5 x_5 r_5 o_5 b_5 cell_x froz_x lt_x cell_r froz_r lt_r cell_o froz_o lt_o hX6
  have cell_x := x_6.cell
  have froz_x := x_6.frozen
  have lt_x := x_6.lt
  have cell_r := r_6.cell
  have froz_r := r_6.frozen
  have lt_r := r_6.lt
  have cell_o := o_6.cell
  have froz_o := o_6.frozen
  have lt_o := o_6.lt
  go_wp2_with fail
  refine calls_forget0 (W := w6) ?_ ?_
  (focus (repeat (first | (with_reducible exact Below.refl _ _) | (with_reducible refine Below.trans ?_ (Below.mono (by assumption) (by first | omega | (simp; done) | (simp; omega) | (simp [*]; done)))) | (with_reducible refine Below.alloc ?_ (by first | omega | (simp; done) | (simp; omega) | (simp [*]; done)) _) | (with_reducible refine Below.setCell ?_ (by first | omega | (simp; done) | (simp; omega) | (simp [*]; done)) _) | (with_reducible refine Below.drew ?_) | (with_reducible refine below_drewN ?_))))
  intro X7 hX7
  have sX7 := hX7.size
  refine (toIntS_ex _ _ _ _ ((cells_below f_6 hX7 (by omega)).more (by omega)) b3).mono ?_
  rintro e w7 ⟨Af, rfl, rf_7, hb7⟩
  have s7 := hb7.size
  have hT7 := hX7.trans (hb7.mono sX7)
  have b_7 := b_6.trans (hT7.mono (by omega))
  have j_7 := cells_below j_6 hT7 (by omega)
  have t_7 := cells_below t_6 hT7 (by omega)
  have f_7 := cells_below f_6 hT7 (by omega)
  have rj_7 := own_below rj_6 hT7
  have rt_7 := own_below rt_6 hT7
  have x_7 := Blk.past hT7 x_6
  have r_7 := Blk.past hT7 r_6
  have o_7 := Blk.past hT7 o_6
  have rf_in := own_in rf_7
  clear j_6 t_6 f_6 rj_6 rt_6 x_6 r_6 o_6 b_6 cell_x froz_x lt_x cell_r froz_r lt_r cell_o froz_o lt_o hX7 hT7 hb7
  have cell_x := x_7.cell
  have froz_x := x_7.frozen
  have lt_x := x_7.lt
  have cell_r := r_7.cell
  have froz_r := r_7.frozen
  have lt_r := r_7.lt
  have cell_o := o_7.cell
  have froz_o := o_7.frozen
  have lt_o := o_7.lt
  have HB := hid b_7
  have HRJ := hid rj_7
  have HRT := hid rt_7
  have HRF := hid rf_7
  clear b_7 rj_7 rt_7 rf_7
  go_wp2_with fail
  ((try simp only [Exit.inBlock, Exit.then]); apply bodyPost_ret0; focus ((try simp only [results, Tryd.results10]); (try go_simp); (try rfl)))
  refine ⟨Aj, At, Af, rfl, ?_, ?_, ?_, ?_⟩
  · refine own_weak (base := X3.heap.size) ?_ (by omega)
    have h := HRJ.out
    repeat (first | (with_reducible assumption) | (with_reducible apply World.ownsRow.drew) | (with_reducible apply own_drewN) | (with_reducible apply World.ownsRow.alloc) | (with_reducible refine own_set ?_ _ _ (by first | omega | (simp; omega) | (dsimp only; omega))))
  · refine own_weak (base := X5.heap.size) ?_ (by omega)
    have h := HRT.out
    repeat (first | (with_reducible assumption) | (with_reducible apply World.ownsRow.drew) | (with_reducible apply own_drewN) | (with_reducible apply World.ownsRow.alloc) | (with_reducible refine own_set ?_ _ _ (by first | omega | (simp; omega) | (dsimp only; omega))))
  · refine own_weak (base := X7.heap.size) ?_ (by omega)
    have h := HRF.out
    repeat (first | (with_reducible assumption) | (with_reducible apply World.ownsRow.drew) | (with_reducible apply own_drewN) | (with_reducible apply World.ownsRow.alloc) | (with_reducible refine own_set ?_ _ _ (by first | omega | (simp; omega) | (dsimp only; omega))))
  · have hb := HB.out
    repeat (first | (with_reducible exact Below.refl _ _) | (with_reducible refine Below.trans ?_ (Below.mono (by assumption) (by first | omega | (simp; done) | (simp; omega) | (simp [*]; done)))) | (with_reducible refine Below.alloc ?_ (by first | omega | (simp; done) | (simp; omega) | (simp [*]; done)) _) | (with_reducible refine Below.setCell ?_ (by first | omega | (simp; done) | (simp; omega) | (simp [*]; done)) _) | (with_reducible refine Below.drew ?_) | (with_reducible refine below_drewN ?_))
theorem szSched_ok (z n b : Int) (J T F : Option Addr) (nj cj nt ct nf cf : Nat) (w : World) (h : nj + nt + nf ≤ 1048576) :
    Calls Tryd.prog 8 #[.agg #[.int .i64 z, .int .i64 n, .int .i64 b, .slice J nj cj, .slice T nt ct, .slice F nf cf], .int .i64 1048576] w fun e w' => e = .returned (.int .i64 (1048576 - nj - nt - nf)) ∧ Below w.heap.size w w' := by
  have H1 := hid (show decide ((1048576 : Int) - (nj : Int) < 0) = false by simp; omega)
  have H2 := hid (show decide ((1048576 : Int) - (nj : Int) - (nt : Int) < 0) = false by simp; omega)
  have H3 := hid (show decide ((1048576 : Int) - (nj : Int) - (nt : Int) - (nf : Int) < 0) = false by simp; omega)
  go_enter Tryd.func8, Tryd.ntmps8
  have b_0 := (Below.refl w.heap.size w)
  have s_0 := b_0.size
  go_wp2_with fail
  refine calls_forget1 (W := w) (b0 := w.heap.size) (t0 := 35) (c0 := #[.int .i64 z, .int .i64 n, .int .i64 b, .slice J nj cj, .slice T nt ct, .slice F nf cf]) ?_ ?_ ?_
  (focus (first | ((repeat (first | (with_reducible assumption) | (with_reducible apply Blk.drew) | (with_reducible apply Blk.drewN) | (with_reducible apply Blk.new; first | rfl | (simp; done)) | (with_reducible apply Blk.alloc) | (with_reducible apply Blk.set_) | (with_reducible apply Blk.past; focus assumption) | (with_reducible apply Blk.far; focus (first | (simp; done) | (simp; omega) | (dsimp only; omega))))); done) | (apply Blk.cast; (case h => (repeat (first | (with_reducible assumption) | (with_reducible apply Blk.drew) | (with_reducible apply Blk.drewN) | (with_reducible apply Blk.new; first | rfl | (simp; done)) | (with_reducible apply Blk.alloc) | (with_reducible apply Blk.set_) | (with_reducible apply Blk.past; focus assumption) | (with_reducible apply Blk.far; focus (first | (simp; done) | (simp; omega) | (dsimp only; omega)))))); (case e => rfl))))
  (focus (repeat (first | (with_reducible exact Below.refl _ _) | (with_reducible refine Below.trans ?_ (Below.mono (by assumption) (by first | omega | (simp; done) | (simp; omega) | (simp [*]; done)))) | (with_reducible refine Below.alloc ?_ (by first | omega | (simp; done) | (simp; omega) | (simp [*]; done)) _) | (with_reducible refine Below.setCell ?_ (by first | omega | (simp; done) | (simp; omega) | (simp [*]; done)) _) | (with_reducible refine Below.drew ?_) | (with_reducible refine below_drewN ?_))))
  intro X1 x_n hX1
  have sX1 := hX1.size
  have x_lt := x_n.lt
  refine (szJobS_any _ _ _ _ _ (by omega) (by omega) (by omega)).mono ?_
  rintro e w' ⟨rfl, rfl⟩
  have b_1 := b_0.trans (hX1.mono (by omega))
  have x_1 := x_n
  clear b_0 x_n hX1
  have cell_x := x_1.cell
  have froz_x := x_1.frozen
  have lt_x := x_1.lt
  rw [H1.out, pick_no]
  go_wp2_with fail
  refine calls_forget0 (W := X1) ?_ ?_
  (focus (repeat (first | (with_reducible exact Below.refl _ _) | (with_reducible refine Below.trans ?_ (Below.mono (by assumption) (by first | omega | (simp; done) | (simp; omega) | (simp [*]; done)))) | (with_reducible refine Below.alloc ?_ (by first | omega | (simp; done) | (simp; omega) | (simp [*]; done)) _) | (with_reducible refine Below.setCell ?_ (by first | omega | (simp; done) | (simp; omega) | (simp [*]; done)) _) | (with_reducible refine Below.drew ?_) | (with_reducible refine below_drewN ?_))))
  intro X2 hX2
  have sX2 := hX2.size
  refine (szTicketS_any _ _ _ _ _ (by omega) (by omega) (by omega)).mono ?_
  rintro e w' ⟨rfl, rfl⟩
  have b_2 := b_1.trans (hX2.mono (by omega))
  have x_2 := Blk.past hX2 x_1
  clear x_1 b_1 cell_x froz_x lt_x hX2
  have cell_x := x_2.cell
  have froz_x := x_2.frozen
  have lt_x := x_2.lt
  rw [H2.out, pick_no]
  go_wp2_with fail
  refine calls_forget0 (W := X2) ?_ ?_
  (focus (repeat (first | (with_reducible exact Below.refl _ _) | (with_reducible refine Below.trans ?_ (Below.mono (by assumption) (by first | omega | (simp; done) | (simp; omega) | (simp [*]; done)))) | (with_reducible refine Below.alloc ?_ (by first | omega | (simp; done) | (simp; omega) | (simp [*]; done)) _) | (with_reducible refine Below.setCell ?_ (by first | omega | (simp; done) | (simp; omega) | (simp [*]; done)) _) | (with_reducible refine Below.drew ?_) | (with_reducible refine below_drewN ?_))))
  intro X3 hX3
  have sX3 := hX3.size
  refine (szIntS_any _ _ _ _ _ (by omega) (by omega) (by omega)).mono ?_
  rintro e w' ⟨rfl, rfl⟩
  have b_3 := b_2.trans (hX3.mono (by omega))
  have x_3 := Blk.past hX3 x_2
  clear x_2 b_2 cell_x froz_x lt_x hX3
  have cell_x := x_3.cell
  have froz_x := x_3.frozen
  have lt_x := x_3.lt
  rw [H3.out, pick_no]
  go_wp2
  go_ret
  refine ⟨rfl, b_3.trans ?_⟩
  repeat (first | (with_reducible exact Below.refl _ _) | (with_reducible refine Below.trans ?_ (Below.mono (by assumption) (by first | omega | (simp; done) | (simp; omega) | (simp [*]; done)))) | (with_reducible refine Below.alloc ?_ (by first | omega | (simp; done) | (simp; omega) | (simp [*]; done)) _) | (with_reducible refine Below.setCell ?_ (by first | omega | (simp; done) | (simp; omega) | (simp [*]; done)) _) | (with_reducible refine Below.drew ?_) | (with_reducible refine below_drewN ?_))
theorem szSched_no (z n b : Int) (J T F : Option Addr) (nj cj nt ct nf cf : Nat) (w : World) (h : ¬ nj + nt + nf ≤ 1048576) (b1 : nj ≤ 9223372036854775807) (b2 : nt ≤ 9223372036854775807) (b3 : nf ≤ 9223372036854775807) :
    Calls Tryd.prog 8 #[.agg #[.int .i64 z, .int .i64 n, .int .i64 b, .slice J nj cj, .slice T nt ct, .slice F nf cf], .int .i64 1048576] w fun e w' => e = .returned (.int .i64 (-1)) ∧ Below w.heap.size w w' := by
  by_cases h1 : (1048576 : Int) - (nj : Int) < 0
  · have H1 := hid (show decide ((1048576 : Int) - (nj : Int) < 0) = true by simp; omega)
    go_enter Tryd.func8, Tryd.ntmps8
    have b_0 := (Below.refl w.heap.size w)
    have s_0 := b_0.size
    go_wp2_with fail
    refine calls_forget1 (W := w) (b0 := w.heap.size) (t0 := 35) (c0 := #[.int .i64 z, .int .i64 n, .int .i64 b, .slice J nj cj, .slice T nt ct, .slice F nf cf]) ?_ ?_ ?_
    (focus (first | ((repeat (first | (with_reducible assumption) | (with_reducible apply Blk.drew) | (with_reducible apply Blk.drewN) | (with_reducible apply Blk.new; first | rfl | (simp; done)) | (with_reducible apply Blk.alloc) | (with_reducible apply Blk.set_) | (with_reducible apply Blk.past; focus assumption) | (with_reducible apply Blk.far; focus (first | (simp; done) | (simp; omega) | (dsimp only; omega))))); done) | (apply Blk.cast; (case h => (repeat (first | (with_reducible assumption) | (with_reducible apply Blk.drew) | (with_reducible apply Blk.drewN) | (with_reducible apply Blk.new; first | rfl | (simp; done)) | (with_reducible apply Blk.alloc) | (with_reducible apply Blk.set_) | (with_reducible apply Blk.past; focus assumption) | (with_reducible apply Blk.far; focus (first | (simp; done) | (simp; omega) | (dsimp only; omega)))))); (case e => rfl))))
    (focus (repeat (first | (with_reducible exact Below.refl _ _) | (with_reducible refine Below.trans ?_ (Below.mono (by assumption) (by first | omega | (simp; done) | (simp; omega) | (simp [*]; done)))) | (with_reducible refine Below.alloc ?_ (by first | omega | (simp; done) | (simp; omega) | (simp [*]; done)) _) | (with_reducible refine Below.setCell ?_ (by first | omega | (simp; done) | (simp; omega) | (simp [*]; done)) _) | (with_reducible refine Below.drew ?_) | (with_reducible refine below_drewN ?_))))
    intro X1 x_n hX1
    have sX1 := hX1.size
    have x_lt := x_n.lt
    refine (szJobS_any _ _ _ _ _ (by omega) (by omega) (by omega)).mono ?_
    rintro e w' ⟨rfl, rfl⟩
    have b_1 := b_0.trans (hX1.mono (by omega))
    have x_1 := x_n
    clear b_0 x_n hX1
    have cell_x := x_1.cell
    have froz_x := x_1.frozen
    have lt_x := x_1.lt
    rw [H1.out, pick_yes]
    go_wp2
    go_ret
    refine ⟨rfl, b_1.trans ?_⟩
    repeat (first | (with_reducible exact Below.refl _ _) | (with_reducible refine Below.trans ?_ (Below.mono (by assumption) (by first | omega | (simp; done) | (simp; omega) | (simp [*]; done)))) | (with_reducible refine Below.alloc ?_ (by first | omega | (simp; done) | (simp; omega) | (simp [*]; done)) _) | (with_reducible refine Below.setCell ?_ (by first | omega | (simp; done) | (simp; omega) | (simp [*]; done)) _) | (with_reducible refine Below.drew ?_) | (with_reducible refine below_drewN ?_))
  have H1 := hid (show decide ((1048576 : Int) - (nj : Int) < 0) = false by simp; omega)
  by_cases h2 : (1048576 : Int) - (nj : Int) - (nt : Int) < 0
  · have H2 := hid (show decide ((1048576 : Int) - (nj : Int) - (nt : Int) < 0) = true by simp; omega)
    go_enter Tryd.func8, Tryd.ntmps8
    have b_0 := (Below.refl w.heap.size w)
    have s_0 := b_0.size
    go_wp2_with fail
    refine calls_forget1 (W := w) (b0 := w.heap.size) (t0 := 35) (c0 := #[.int .i64 z, .int .i64 n, .int .i64 b, .slice J nj cj, .slice T nt ct, .slice F nf cf]) ?_ ?_ ?_
    (focus (first | ((repeat (first | (with_reducible assumption) | (with_reducible apply Blk.drew) | (with_reducible apply Blk.drewN) | (with_reducible apply Blk.new; first | rfl | (simp; done)) | (with_reducible apply Blk.alloc) | (with_reducible apply Blk.set_) | (with_reducible apply Blk.past; focus assumption) | (with_reducible apply Blk.far; focus (first | (simp; done) | (simp; omega) | (dsimp only; omega))))); done) | (apply Blk.cast; (case h => (repeat (first | (with_reducible assumption) | (with_reducible apply Blk.drew) | (with_reducible apply Blk.drewN) | (with_reducible apply Blk.new; first | rfl | (simp; done)) | (with_reducible apply Blk.alloc) | (with_reducible apply Blk.set_) | (with_reducible apply Blk.past; focus assumption) | (with_reducible apply Blk.far; focus (first | (simp; done) | (simp; omega) | (dsimp only; omega)))))); (case e => rfl))))
    (focus (repeat (first | (with_reducible exact Below.refl _ _) | (with_reducible refine Below.trans ?_ (Below.mono (by assumption) (by first | omega | (simp; done) | (simp; omega) | (simp [*]; done)))) | (with_reducible refine Below.alloc ?_ (by first | omega | (simp; done) | (simp; omega) | (simp [*]; done)) _) | (with_reducible refine Below.setCell ?_ (by first | omega | (simp; done) | (simp; omega) | (simp [*]; done)) _) | (with_reducible refine Below.drew ?_) | (with_reducible refine below_drewN ?_))))
    intro X1 x_n hX1
    have sX1 := hX1.size
    have x_lt := x_n.lt
    refine (szJobS_any _ _ _ _ _ (by omega) (by omega) (by omega)).mono ?_
    rintro e w' ⟨rfl, rfl⟩
    have b_1 := b_0.trans (hX1.mono (by omega))
    have x_1 := x_n
    clear b_0 x_n hX1
    have cell_x := x_1.cell
    have froz_x := x_1.frozen
    have lt_x := x_1.lt
    rw [H1.out, pick_no]
    go_wp2_with fail
    refine calls_forget0 (W := X1) ?_ ?_
    (focus (repeat (first | (with_reducible exact Below.refl _ _) | (with_reducible refine Below.trans ?_ (Below.mono (by assumption) (by first | omega | (simp; done) | (simp; omega) | (simp [*]; done)))) | (with_reducible refine Below.alloc ?_ (by first | omega | (simp; done) | (simp; omega) | (simp [*]; done)) _) | (with_reducible refine Below.setCell ?_ (by first | omega | (simp; done) | (simp; omega) | (simp [*]; done)) _) | (with_reducible refine Below.drew ?_) | (with_reducible refine below_drewN ?_))))
    intro X2 hX2
    have sX2 := hX2.size
    refine (szTicketS_any _ _ _ _ _ (by omega) (by omega) (by omega)).mono ?_
    rintro e w' ⟨rfl, rfl⟩
    have b_2 := b_1.trans (hX2.mono (by omega))
    have x_2 := Blk.past hX2 x_1
    clear x_1 b_1 cell_x froz_x lt_x hX2
    have cell_x := x_2.cell
    have froz_x := x_2.frozen
    have lt_x := x_2.lt
    rw [H2.out, pick_yes]
    go_wp2
    go_ret
    refine ⟨rfl, b_2.trans ?_⟩
    repeat (first | (with_reducible exact Below.refl _ _) | (with_reducible refine Below.trans ?_ (Below.mono (by assumption) (by first | omega | (simp; done) | (simp; omega) | (simp [*]; done)))) | (with_reducible refine Below.alloc ?_ (by first | omega | (simp; done) | (simp; omega) | (simp [*]; done)) _) | (with_reducible refine Below.setCell ?_ (by first | omega | (simp; done) | (simp; omega) | (simp [*]; done)) _) | (with_reducible refine Below.drew ?_) | (with_reducible refine below_drewN ?_))
  have H2 := hid (show decide ((1048576 : Int) - (nj : Int) - (nt : Int) < 0) = false by simp; omega)
  have H3 := hid (show decide ((1048576 : Int) - (nj : Int) - (nt : Int) - (nf : Int) < 0) = true by simp; omega)
  go_enter Tryd.func8, Tryd.ntmps8
  have b_0 := (Below.refl w.heap.size w)
  have s_0 := b_0.size
  go_wp2_with fail
  refine calls_forget1 (W := w) (b0 := w.heap.size) (t0 := 35) (c0 := #[.int .i64 z, .int .i64 n, .int .i64 b, .slice J nj cj, .slice T nt ct, .slice F nf cf]) ?_ ?_ ?_
  (focus (first | ((repeat (first | (with_reducible assumption) | (with_reducible apply Blk.drew) | (with_reducible apply Blk.drewN) | (with_reducible apply Blk.new; first | rfl | (simp; done)) | (with_reducible apply Blk.alloc) | (with_reducible apply Blk.set_) | (with_reducible apply Blk.past; focus assumption) | (with_reducible apply Blk.far; focus (first | (simp; done) | (simp; omega) | (dsimp only; omega))))); done) | (apply Blk.cast; (case h => (repeat (first | (with_reducible assumption) | (with_reducible apply Blk.drew) | (with_reducible apply Blk.drewN) | (with_reducible apply Blk.new; first | rfl | (simp; done)) | (with_reducible apply Blk.alloc) | (with_reducible apply Blk.set_) | (with_reducible apply Blk.past; focus assumption) | (with_reducible apply Blk.far; focus (first | (simp; done) | (simp; omega) | (dsimp only; omega)))))); (case e => rfl))))
  (focus (repeat (first | (with_reducible exact Below.refl _ _) | (with_reducible refine Below.trans ?_ (Below.mono (by assumption) (by first | omega | (simp; done) | (simp; omega) | (simp [*]; done)))) | (with_reducible refine Below.alloc ?_ (by first | omega | (simp; done) | (simp; omega) | (simp [*]; done)) _) | (with_reducible refine Below.setCell ?_ (by first | omega | (simp; done) | (simp; omega) | (simp [*]; done)) _) | (with_reducible refine Below.drew ?_) | (with_reducible refine below_drewN ?_))))
  intro X1 x_n hX1
  have sX1 := hX1.size
  have x_lt := x_n.lt
  refine (szJobS_any _ _ _ _ _ (by omega) (by omega) (by omega)).mono ?_
  rintro e w' ⟨rfl, rfl⟩
  have b_1 := b_0.trans (hX1.mono (by omega))
  have x_1 := x_n
  clear b_0 x_n hX1
  have cell_x := x_1.cell
  have froz_x := x_1.frozen
  have lt_x := x_1.lt
  rw [H1.out, pick_no]
  go_wp2_with fail
  refine calls_forget0 (W := X1) ?_ ?_
  (focus (repeat (first | (with_reducible exact Below.refl _ _) | (with_reducible refine Below.trans ?_ (Below.mono (by assumption) (by first | omega | (simp; done) | (simp; omega) | (simp [*]; done)))) | (with_reducible refine Below.alloc ?_ (by first | omega | (simp; done) | (simp; omega) | (simp [*]; done)) _) | (with_reducible refine Below.setCell ?_ (by first | omega | (simp; done) | (simp; omega) | (simp [*]; done)) _) | (with_reducible refine Below.drew ?_) | (with_reducible refine below_drewN ?_))))
  intro X2 hX2
  have sX2 := hX2.size
  refine (szTicketS_any _ _ _ _ _ (by omega) (by omega) (by omega)).mono ?_
  rintro e w' ⟨rfl, rfl⟩
  have b_2 := b_1.trans (hX2.mono (by omega))
  have x_2 := Blk.past hX2 x_1
  clear x_1 b_1 cell_x froz_x lt_x hX2
  have cell_x := x_2.cell
  have froz_x := x_2.frozen
  have lt_x := x_2.lt
  rw [H2.out, pick_no]
  go_wp2_with fail
  refine calls_forget0 (W := X2) ?_ ?_
  (focus (repeat (first | (with_reducible exact Below.refl _ _) | (with_reducible refine Below.trans ?_ (Below.mono (by assumption) (by first | omega | (simp; done) | (simp; omega) | (simp [*]; done)))) | (with_reducible refine Below.alloc ?_ (by first | omega | (simp; done) | (simp; omega) | (simp [*]; done)) _) | (with_reducible refine Below.setCell ?_ (by first | omega | (simp; done) | (simp; omega) | (simp [*]; done)) _) | (with_reducible refine Below.drew ?_) | (with_reducible refine below_drewN ?_))))
  intro X3 hX3
  have sX3 := hX3.size
  refine (szIntS_any _ _ _ _ _ (by omega) (by omega) (by omega)).mono ?_
  rintro e w' ⟨rfl, rfl⟩
  have b_3 := b_2.trans (hX3.mono (by omega))
  have x_3 := Blk.past hX3 x_2
  clear x_2 b_2 cell_x froz_x lt_x hX3
  have cell_x := x_3.cell
  have froz_x := x_3.frozen
  have lt_x := x_3.lt
  rw [H3.out, pick_yes]
  go_wp2
  go_ret
  refine ⟨rfl, b_3.trans ?_⟩
  repeat (first | (with_reducible exact Below.refl _ _) | (with_reducible refine Below.trans ?_ (Below.mono (by assumption) (by first | omega | (simp; done) | (simp; omega) | (simp [*]; done)))) | (with_reducible refine Below.alloc ?_ (by first | omega | (simp; done) | (simp; omega) | (simp [*]; done)) _) | (with_reducible refine Below.setCell ?_ (by first | omega | (simp; done) | (simp; omega) | (simp [*]; done)) _) | (with_reducible refine Below.drew ?_) | (with_reducible refine below_drewN ?_))
theorem markSched_any (z n b : Int) (J T F : Option Addr) (B1 B2 B3 nj cj nt ct nf cf : Nat) (vj vt vf : List Value) (k : Int) (w : World) (h1 : w.ownsRow B1 57 4 (.slice J nj cj) nj vj)
    (h2 : w.ownsRow B2 75 2 (.slice T nt ct) nt vt) (h3 : w.ownsRow B3 3 1 (.slice F nf cf) nf vf) (b1 : nj ≤ 100000000) (b2 : nt ≤ 100000000) (b3 : nf ≤ 100000000) (k0 : 0 ≤ k) (k1 : k ≤ 1000) :
    Calls Tryd.prog 14 #[.agg #[.int .i64 z, .int .i64 n, .int .i64 b, .slice J nj cj, .slice T nt ct, .slice F nf cf], .int .i64 k] w fun e w' => ∃ w1 w2, e = .returned (.int .i64 (k + (nj * 4 : Nat) + (nt * 2 : Nat) + nf)) ∧
      w'.ownsRow B1 57 4 (.slice J nj cj) nj (ints (marks k (nj * 4))) ∧ w'.ownsRow B2 75 2 (.slice T nt ct) nt (ints (marks (k + (nj * 4 : Nat)) (nt * 2))) ∧
      w'.ownsRow B3 3 1 (.slice F nf cf) nf (ints (marks (k + (nj * 4 : Nat) + (nt * 2 : Nat)) nf)) ∧ w.grownBy w1 (Value.slice J nj cj).ownBlock ∧ w1.grownBy w2 (Value.slice T nt ct).ownBlock ∧ w2.grownBy w' (Value.slice F nf cf).ownBlock := by
  have HO1 := hid h1
  have HO2 := hid h2
  have HO3 := hid h3
  clear h1 h2 h3
  go_enter Tryd.func14, Tryd.ntmps14
  go_wp2_with fail
  refine calls_forget1 (W := w) (b0 := w.heap.size) (t0 := 43) (c0 := #[.int .i64 z, .int .i64 n, .int .i64 b, .slice J nj cj, .slice T nt ct, .slice F nf cf]) ?_ ?_ ?_
  (focus (repeat (first | (with_reducible assumption) | (with_reducible apply Blk.drew) | (with_reducible apply Blk.drewN) | (with_reducible apply Blk.new; first | rfl | (simp; done)) | (with_reducible apply Blk.alloc) | (with_reducible apply Blk.set_) | (with_reducible apply Blk.past; focus assumption) | (with_reducible apply Blk.far; focus (first | (simp; done) | (simp; omega) | (dsimp only; omega))))))
  (focus (repeat (first | (with_reducible exact Below.refl _ _) | (with_reducible refine Below.trans ?_ (Below.mono (by assumption) (by first | omega | (simp; done) | (simp; omega) | (simp [*]; done)))) | (with_reducible refine Below.alloc ?_ (by first | omega | (simp; done) | (simp; omega) | (simp [*]; done)) _) | (with_reducible refine Below.setCell ?_ (by first | omega | (simp; done) | (simp; omega) | (simp [*]; done)) _) | (with_reducible refine Below.drew ?_) | (with_reducible refine below_drewN ?_))))
  intro X kx hX
  have zX := hX.size
  refine (markJobS_any _ _ _ _ _ _ _ (own_below HO1.out hX) b1 k0 (by omega)).mono ?_
  rintro e w1 ⟨rfl, o1, g1⟩
  have z1 := g1.size
  have kx1 := gr_blk g1 kx (fun q hq => by have := (HO1.out.lt q hq).2; omega)
  have t1 := gr_own g1 (own_below HO2.out hX) (own_ne (own_below HO1.out hX) (own_below HO2.out hX) (by decide))
  have f1 := gr_own g1 (own_below HO3.out hX) (own_ne (own_below HO1.out hX) (own_below HO3.out hX) (by decide))
  have c1 := kx1.cell
  have HKX := hid kx1
  have HT1 := hid t1
  have HF1 := hid f1
  have HJ1 := hid o1
  have HG1 := hid (below_grown hX g1)
  have hxl := kx1.lt
  clear kx1 t1 f1 o1 g1 hX kx
  go_wp2_with fail
  refine (markTicketS_any _ _ _ _ _ _ _ HT1.out b2 (by omega) (by omega)).mono ?_
  rintro e w2 ⟨rfl, o2, g2⟩
  have z2 := g2.size
  have kx2 := gr_blk g2 HKX.out (fun q hq => by have := (HO2.out.lt q hq).2; omega)
  have j2 := gr_own g2 HJ1.out (own_ne HT1.out HJ1.out (by decide))
  have f2 := gr_own g2 HF1.out (own_ne HT1.out HF1.out (by decide))
  have c2 := kx2.cell
  have HKX2 := hid kx2
  have HT2 := hid o2
  have HF2 := hid f2
  have HJ2 := hid j2
  have HG2 := hid g2
  clear kx2 f2 j2 o2 g2 c1
  go_wp2_with fail
  refine (markIntS_any _ _ _ _ _ _ _ HF2.out (by omega) (by omega) (by omega)).mono ?_
  rintro e w3 ⟨rfl, o3, g3⟩
  have j3 := gr_own g3 HJ2.out (own_ne HF2.out HJ2.out (by decide))
  have t3 := gr_own g3 HT2.out (own_ne HF2.out HT2.out (by decide))
  have HF3 := hid o3
  have HT3 := hid t3
  have HJ3 := hid j3
  have HG3 := hid g3
  clear o3 t3 j3 g3 c2
  go_wp2_with fail
  go_ret
  exact ⟨w1, w2, rfl, HJ3.out, HT3.out, HF3.out, HG1.out, HG2.out, HG3.out⟩
end Go.Proofs.YtknkpajedbckmaaDoor
