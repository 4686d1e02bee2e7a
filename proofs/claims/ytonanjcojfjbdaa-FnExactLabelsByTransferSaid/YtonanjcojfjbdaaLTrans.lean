/- The law that LabelsByTransfer of the program returns what the reference's returns, for all arguments. No conditions. -/
import Derived.Test.YtonanjcojfjbdaaTrans5
import Derived.Test.YtonanjcojfjbdaaHead
set_option linter.unusedVariables false
namespace Go.Proofs.Ytonanjcojfjbdaa
open Go.RowKit Go.ChangeShapes Go.WideShapes Go.ChangeAt

theorem toTape_any (k n : Int) (w : World) :
    Calls Try.prog 6 #[.agg #[.int .i64 k, .int .i64 n]] w fun e w' => e = .returned (.agg #[.int .i64 k, .int .i64 n]) ∧ Below w.heap.size w w' := by
  go_enter Try.func6, Try.ntmps6
  go_wp2
  go_returns
  refine ⟨rfl, ?_⟩
  repeat (first | (with_reducible exact Below.refl _ _) | (with_reducible refine Below.trans ?_ (Below.mono (by assumption) (by first | omega | (simp; done) | (simp; omega) | (simp [*]; done)))) | (with_reducible refine Below.alloc ?_ (by first | omega | (simp; done) | (simp; omega) | (simp [*]; done)) _) | (with_reducible refine Below.setCell ?_ (by first | omega | (simp; done) | (simp; omega) | (simp [*]; done)) _) | (with_reducible refine Below.drew ?_) | (with_reducible refine below_drewN ?_))
namespace labelsByTransfer
set_option maxHeartbeats 3200000 in
theorem walk (s a s' a' : Int) (A : Option Addr) (c : Nat) (xs : List Int) (p : Int) (w : World) (hx : Cells w w.heap.size A (ints xs)) (hn : xs.length ≤ maxLen) :
    Calls Try.prog 3 #[.agg #[.int .i64 s, .int .i64 a], .agg #[.int .i64 s', .int .i64 a'], .slice A xs.length c, .int .i64 p] w fun e w' => e = .returned (.bool true) ∧ Below w.heap.size w w' := by
  unfold maxLen at hn
  by_cases h1 : xs.length ≤ 1048576
  · have hl := lbtL_length s a s' a' xs p
    have CS := hid (fun A c w hc => sTrans s a s' a' A c xs p w hc (by omega))
    have CI := hid (fun A c w hc => iTrans s a s' a' A c xs p w hc (by omega))
    obtain ⟨L, hL⟩ : ∃ L, lbtL s a s' a' xs p = L := ⟨_, rfl⟩
    obtain ⟨q, hq⟩ : ∃ q, lbtB s a s' a' xs p = q := ⟨_, rfl⟩
    rw [hL, hq] at CS CI
    rw [hL] at hl
    clear hL hq
    go_enter Try.func3, Try.ntmps3
    have b_0 := (Below.refl w.heap.size w)
    have s_0 := b_0.size
    have x_0 := hx
    clear hx
    go_wp2_with fail
    refine wp_forget2 (w0 := w) (B := w.heap.size) (b0 := w.heap.size) (t0 := 23) (c0 := #[.int .i64 s, .int .i64 a]) (b1 := w.heap.size + 1) (t1 := 23) (c1 := #[.int .i64 s', .int .i64 a']) ?_ ?_ ?_ ?_
    (focus (first | ((repeat (first | (with_reducible assumption) | (with_reducible apply Blk.drew) | (with_reducible apply Blk.drewN) | (with_reducible apply Blk.new; first | rfl | (simp; done)) | (with_reducible apply Blk.alloc) | (with_reducible apply Blk.set_) | (with_reducible apply Blk.past; focus assumption) | (with_reducible apply Blk.far; focus (first | (simp; done) | (simp; omega) | (dsimp only; omega))))); done) | (apply Blk.cast; (case h => (repeat (first | (with_reducible assumption) | (with_reducible apply Blk.drew) | (with_reducible apply Blk.drewN) | (with_reducible apply Blk.new; first | rfl | (simp; done)) | (with_reducible apply Blk.alloc) | (with_reducible apply Blk.set_) | (with_reducible apply Blk.past; focus assumption) | (with_reducible apply Blk.far; focus (first | (simp; done) | (simp; omega) | (dsimp only; omega)))))); (case e => rfl))))
    (focus (first | ((repeat (first | (with_reducible assumption) | (with_reducible apply Blk.drew) | (with_reducible apply Blk.drewN) | (with_reducible apply Blk.new; first | rfl | (simp; done)) | (with_reducible apply Blk.alloc) | (with_reducible apply Blk.set_) | (with_reducible apply Blk.past; focus assumption) | (with_reducible apply Blk.far; focus (first | (simp; done) | (simp; omega) | (dsimp only; omega))))); done) | (apply Blk.cast; (case h => (repeat (first | (with_reducible assumption) | (with_reducible apply Blk.drew) | (with_reducible apply Blk.drewN) | (with_reducible apply Blk.new; first | rfl | (simp; done)) | (with_reducible apply Blk.alloc) | (with_reducible apply Blk.set_) | (with_reducible apply Blk.past; focus assumption) | (with_reducible apply Blk.far; focus (first | (simp; done) | (simp; omega) | (dsimp only; omega)))))); (case e => rfl))))
    (focus (repeat (first | (with_reducible exact Below.refl _ _) | (with_reducible refine Below.trans ?_ (Below.mono (by assumption) (by first | omega | (simp; done) | (simp; omega) | (simp [*]; done)))) | (with_reducible refine Below.alloc ?_ (by first | omega | (simp; done) | (simp; omega) | (simp [*]; done)) _) | (with_reducible refine Below.setCell ?_ (by first | omega | (simp; done) | (simp; omega) | (simp [*]; done)) _) | (with_reducible refine Below.drew ?_) | (with_reducible refine below_drewN ?_))))
    intro w1 aT_1 aD_1 hX1
    have sX1 := hX1.size
    have aT_lt := aT_1.lt
    have aD_lt := aD_1.lt
    have b_1 := b_0.trans (hX1.mono (by omega))
    have x_1 := cells_below x_0 hX1 (by omega)
    clear x_0 b_0 hX1
    have cell_aT := aT_1.cell
    have froz_aT := aT_1.frozen
    have lt_aT := aT_1.lt
    have cell_aD := aD_1.cell
    have froz_aD := aD_1.frozen
    have lt_aD := aD_1.lt
    go_wp2_with fail
    go_region_held3 (fun w' => w'.cell? ⟨w.heap.size, 0, none⟩ = some (.int .i64 s) ∧ w'.cell? ⟨w.heap.size, 1, none⟩ = some (.int .i64 a) ∧ w'.cell? ⟨w.heap.size + 1, 0, none⟩ = some (.int .i64 s') ∧ w'.cell? ⟨w.heap.size + 1, 1, none⟩ = some (.int .i64 a')) (exact ⟨(Blk.cell (t := 23) (cs := #[.int .i64 s, .int .i64 a]) (by repeat (first | (with_reducible assumption) | (with_reducible apply Blk.drew) | (with_reducible apply Blk.drewN) | (with_reducible apply Blk.new; first | rfl | (simp; done)) | (with_reducible apply Blk.alloc) | (with_reducible apply Blk.set_) | (with_reducible apply Blk.past; focus assumption) | (with_reducible apply Blk.far; focus (first | (simp; done) | (simp; omega) | (dsimp only; omega))))) 0), (Blk.cell (t := 23) (cs := #[.int .i64 s, .int .i64 a]) (by repeat (first | (with_reducible assumption) | (with_reducible apply Blk.drew) | (with_reducible apply Blk.drewN) | (with_reducible apply Blk.new; first | rfl | (simp; done)) | (with_reducible apply Blk.alloc) | (with_reducible apply Blk.set_) | (with_reducible apply Blk.past; focus assumption) | (with_reducible apply Blk.far; focus (first | (simp; done) | (simp; omega) | (dsimp only; omega))))) 1), (Blk.cell (t := 23) (cs := #[.int .i64 s', .int .i64 a']) (by repeat (first | (with_reducible assumption) | (with_reducible apply Blk.drew) | (with_reducible apply Blk.drewN) | (with_reducible apply Blk.new; first | rfl | (simp; done)) | (with_reducible apply Blk.alloc) | (with_reducible apply Blk.set_) | (with_reducible apply Blk.past; focus assumption) | (with_reducible apply Blk.far; focus (first | (simp; done) | (simp; omega) | (dsimp only; omega))))) 0), (Blk.cell (t := 23) (cs := #[.int .i64 s', .int .i64 a']) (by repeat (first | (with_reducible assumption) | (with_reducible apply Blk.drew) | (with_reducible apply Blk.drewN) | (with_reducible apply Blk.new; first | rfl | (simp; done)) | (with_reducible apply Blk.alloc) | (with_reducible apply Blk.set_) | (with_reducible apply Blk.past; focus assumption) | (with_reducible apply Blk.far; focus (first | (simp; done) | (simp; omega) | (dsimp only; omega))))) 1)⟩) (first | (go_at_call 6; refine calls_forget0 (W := w1) ?_ ?_; (focus (repeat (first | (with_reducible exact Below.refl _ _) | (with_reducible refine Below.trans ?_ (Below.mono (by assumption) (by first | omega | (simp; done) | (simp; omega) | (simp [*]; done)))) | (with_reducible refine Below.alloc ?_ (by first | omega | (simp; done) | (simp; omega) | (simp [*]; done)) _) | (with_reducible refine Below.setCell ?_ (by first | omega | (simp; done) | (simp; omega) | (simp [*]; done)) _) | (with_reducible refine Below.drew ?_) | (with_reducible refine below_drewN ?_)))); intro X2 hX2; have sX2 := hX2.size; refine (toTape_any _ _ _).mono ?_; rintro e w2 ⟨rfl, hb2⟩; have s2 := hb2.size; have hT2 := hX2.trans (hb2.mono sX2); have b_2 := b_1.trans (hT2.mono (by omega)); have x_2 := cells_below x_1 hT2 (by omega); have aT_2 := Blk.past hT2 aT_1; have aD_2 := Blk.past hT2 aD_1; clear x_1 aT_1 aD_1 b_1 cell_aT froz_aT lt_aT cell_aD froz_aD lt_aD hX2 hT2 hb2; have cell_aT := aT_2.cell; have froz_aT := aT_2.frozen; have lt_aT := aT_2.lt; have cell_aD := aD_2.cell; have froz_aD := aD_2.frozen; have lt_aD := aD_2.lt) | (go_at_call 6; refine calls_forget0 (W := w2) ?_ ?_; (focus (repeat (first | (with_reducible exact Below.refl _ _) | (with_reducible refine Below.trans ?_ (Below.mono (by assumption) (by first | omega | (simp; done) | (simp; omega) | (simp [*]; done)))) | (with_reducible refine Below.alloc ?_ (by first | omega | (simp; done) | (simp; omega) | (simp [*]; done)) _) | (with_reducible refine Below.setCell ?_ (by first | omega | (simp; done) | (simp; omega) | (simp [*]; done)) _) | (with_reducible refine Below.drew ?_) | (with_reducible refine below_drewN ?_)))); intro X3 hX3; have sX3 := hX3.size; refine (toTape_any _ _ _).mono ?_; rintro e w3 ⟨rfl, hb3⟩; have s3 := hb3.size; have hT3 := hX3.trans (hb3.mono sX3); have b_3 := b_2.trans (hT3.mono (by omega)); have x_3 := cells_below x_2 hT3 (by omega); have aT_3 := Blk.past hT3 aT_2; have aD_3 := Blk.past hT3 aD_2; clear x_2 aT_2 aD_2 b_2 cell_aT froz_aT lt_aT cell_aD froz_aD lt_aD hX3 hT3 hb3; have cell_aT := aT_3.cell; have froz_aT := aT_3.frozen; have lt_aT := aT_3.lt; have cell_aD := aD_3.cell; have froz_aD := aD_3.frozen; have lt_aD := aD_3.lt) | (go_at_call 7; refine calls_forget0 (W := w3) ?_ ?_; (focus (repeat (first | (with_reducible exact Below.refl _ _) | (with_reducible refine Below.trans ?_ (Below.mono (by assumption) (by first | omega | (simp; done) | (simp; omega) | (simp [*]; done)))) | (with_reducible refine Below.alloc ?_ (by first | omega | (simp; done) | (simp; omega) | (simp [*]; done)) _) | (with_reducible refine Below.setCell ?_ (by first | omega | (simp; done) | (simp; omega) | (simp [*]; done)) _) | (with_reducible refine Below.drew ?_) | (with_reducible refine below_drewN ?_)))); intro X4 hX4; have sX4 := hX4.size; refine (toIntS_any _ _ _ _ ((cells_below x_3 hX4 (by omega)).more (by omega)) h1).mono ?_; rintro e w4 ⟨rfl, m_4, hb4⟩; have s4 := hb4.size; have hT4 := hX4.trans (hb4.mono sX4); have b_4 := b_3.trans (hT4.mono (by omega)); have x_4 := cells_below x_3 hT4 (by omega); have aT_4 := Blk.past hT4 aT_3; have aD_4 := Blk.past hT4 aD_3; have m_in := own_in m_4; clear x_3 aT_3 aD_3 b_3 cell_aT froz_aT lt_aT cell_aD froz_aD lt_aD hX4 hT4 hb4; have cell_aT := aT_4.cell; have froz_aT := aT_4.frozen; have lt_aT := aT_4.lt; have cell_aD := aD_4.cell; have froz_aD := aD_4.frozen; have lt_aD := aD_4.lt) | (go_at_call 5; refine calls_forget0 (W := w4) ?_ ?_; (focus (repeat (first | (with_reducible exact Below.refl _ _) | (with_reducible refine Below.trans ?_ (Below.mono (by assumption) (by first | omega | (simp; done) | (simp; omega) | (simp [*]; done)))) | (with_reducible refine Below.alloc ?_ (by first | omega | (simp; done) | (simp; omega) | (simp [*]; done)) _) | (with_reducible refine Below.setCell ?_ (by first | omega | (simp; done) | (simp; omega) | (simp [*]; done)) _) | (with_reducible refine Below.drew ?_) | (with_reducible refine below_drewN ?_)))); intro X5 hX5; have sX5 := hX5.size; refine (CS.out _ _ _ (Cells.of_own (own_below m_4 hX5))).mono ?_; rintro e w5 ⟨Au, cu, rfl, u_5, hb5⟩; have s5 := hb5.size; have hT5 := hX5.trans (hb5.mono sX5); have b_5 := b_4.trans (hT5.mono (by omega)); have x_5 := cells_below x_4 hT5 (by omega); have m_5 := own_below m_4 hT5; have aT_5 := Blk.past hT5 aT_4; have aD_5 := Blk.past hT5 aD_4; have u_in := own_in u_5; clear x_4 m_4 aT_4 aD_4 b_4 cell_aT froz_aT lt_aT cell_aD froz_aD lt_aD hX5 hT5 hb5; have cell_aT := aT_5.cell; have froz_aT := aT_5.frozen; have lt_aT := aT_5.lt; have cell_aD := aD_5.cell; have froz_aD := aD_5.frozen; have lt_aD := aD_5.lt))
    clear m_5
    go_wp2_with fail
    refine calls_forget0 (W := w5) ?_ ?_
    (focus (repeat (first | (with_reducible exact Below.refl _ _) | (with_reducible refine Below.trans ?_ (Below.mono (by assumption) (by first | omega | (simp; done) | (simp; omega) | (simp [*]; done)))) | (with_reducible refine Below.alloc ?_ (by first | omega | (simp; done) | (simp; omega) | (simp [*]; done)) _) | (with_reducible refine Below.setCell ?_ (by first | omega | (simp; done) | (simp; omega) | (simp [*]; done)) _) | (with_reducible refine Below.drew ?_) | (with_reducible refine below_drewN ?_))))
    intro X6 hX6
    have sX6 := hX6.size
    refine (toIntS_any _ _ _ _ ((cells_below x_5 hX6 (by omega)).more (by omega)) h1).mono ?_
    rintro e w6 ⟨rfl, y_6, hb6⟩
    have s6 := hb6.size
    have hT6 := hX6.trans (hb6.mono sX6)
    have b_6 := b_5.trans (hT6.mono (by omega))
    have x_6 := cells_below x_5 hT6 (by omega)
    have u_6 := own_below u_5 hT6
    have aT_6 := Blk.past hT6 aT_5
    have aD_6 := Blk.past hT6 aD_5
    have y_in := own_in y_6
    clear x_5 u_5 aT_5 aD_5 b_5 cell_aT froz_aT lt_aT cell_aD froz_aD lt_aD hX6 hT6 hb6
    have cell_aT := aT_6.cell
    have froz_aT := aT_6.frozen
    have lt_aT := aT_6.lt
    have cell_aD := aD_6.cell
    have froz_aD := aD_6.frozen
    have lt_aD := aD_6.lt
    go_wp2_with fail
    go_region_held3 (fun w' => w'.cell? ⟨w.heap.size, 0, none⟩ = some (.int .i64 s) ∧ w'.cell? ⟨w.heap.size, 1, none⟩ = some (.int .i64 a) ∧ w'.cell? ⟨w.heap.size + 1, 0, none⟩ = some (.int .i64 s') ∧ w'.cell? ⟨w.heap.size + 1, 1, none⟩ = some (.int .i64 a')) (exact ⟨(Blk.cell (t := 23) (cs := #[.int .i64 s, .int .i64 a]) (by repeat (first | (with_reducible assumption) | (with_reducible apply Blk.drew) | (with_reducible apply Blk.drewN) | (with_reducible apply Blk.new; first | rfl | (simp; done)) | (with_reducible apply Blk.alloc) | (with_reducible apply Blk.set_) | (with_reducible apply Blk.past; focus assumption) | (with_reducible apply Blk.far; focus (first | (simp; done) | (simp; omega) | (dsimp only; omega))))) 0), (Blk.cell (t := 23) (cs := #[.int .i64 s, .int .i64 a]) (by repeat (first | (with_reducible assumption) | (with_reducible apply Blk.drew) | (with_reducible apply Blk.drewN) | (with_reducible apply Blk.new; first | rfl | (simp; done)) | (with_reducible apply Blk.alloc) | (with_reducible apply Blk.set_) | (with_reducible apply Blk.past; focus assumption) | (with_reducible apply Blk.far; focus (first | (simp; done) | (simp; omega) | (dsimp only; omega))))) 1), (Blk.cell (t := 23) (cs := #[.int .i64 s', .int .i64 a']) (by repeat (first | (with_reducible assumption) | (with_reducible apply Blk.drew) | (with_reducible apply Blk.drewN) | (with_reducible apply Blk.new; first | rfl | (simp; done)) | (with_reducible apply Blk.alloc) | (with_reducible apply Blk.set_) | (with_reducible apply Blk.past; focus assumption) | (with_reducible apply Blk.far; focus (first | (simp; done) | (simp; omega) | (dsimp only; omega))))) 0), (Blk.cell (t := 23) (cs := #[.int .i64 s', .int .i64 a']) (by repeat (first | (with_reducible assumption) | (with_reducible apply Blk.drew) | (with_reducible apply Blk.drewN) | (with_reducible apply Blk.new; first | rfl | (simp; done)) | (with_reducible apply Blk.alloc) | (with_reducible apply Blk.set_) | (with_reducible apply Blk.past; focus assumption) | (with_reducible apply Blk.far; focus (first | (simp; done) | (simp; omega) | (dsimp only; omega))))) 1)⟩) (first | (go_at_call 6; refine calls_forget0 (W := w6) ?_ ?_; (focus (repeat (first | (with_reducible exact Below.refl _ _) | (with_reducible refine Below.trans ?_ (Below.mono (by assumption) (by first | omega | (simp; done) | (simp; omega) | (simp [*]; done)))) | (with_reducible refine Below.alloc ?_ (by first | omega | (simp; done) | (simp; omega) | (simp [*]; done)) _) | (with_reducible refine Below.setCell ?_ (by first | omega | (simp; done) | (simp; omega) | (simp [*]; done)) _) | (with_reducible refine Below.drew ?_) | (with_reducible refine below_drewN ?_)))); intro X7 hX7; have sX7 := hX7.size; refine (toTape_any _ _ _).mono ?_; rintro e w7 ⟨rfl, hb7⟩; have s7 := hb7.size; have hT7 := hX7.trans (hb7.mono sX7); have b_7 := b_6.trans (hT7.mono (by omega)); have x_7 := cells_below x_6 hT7 (by omega); have u_7 := own_below u_6 hT7; have y_7 := own_below y_6 hT7; have aT_7 := Blk.past hT7 aT_6; have aD_7 := Blk.past hT7 aD_6; clear x_6 u_6 y_6 aT_6 aD_6 b_6 cell_aT froz_aT lt_aT cell_aD froz_aD lt_aD hX7 hT7 hb7; have cell_aT := aT_7.cell; have froz_aT := aT_7.frozen; have lt_aT := aT_7.lt; have cell_aD := aD_7.cell; have froz_aD := aD_7.frozen; have lt_aD := aD_7.lt) | (go_at_call 6; refine calls_forget0 (W := w7) ?_ ?_; (focus (repeat (first | (with_reducible exact Below.refl _ _) | (with_reducible refine Below.trans ?_ (Below.mono (by assumption) (by first | omega | (simp; done) | (simp; omega) | (simp [*]; done)))) | (with_reducible refine Below.alloc ?_ (by first | omega | (simp; done) | (simp; omega) | (simp [*]; done)) _) | (with_reducible refine Below.setCell ?_ (by first | omega | (simp; done) | (simp; omega) | (simp [*]; done)) _) | (with_reducible refine Below.drew ?_) | (with_reducible refine below_drewN ?_)))); intro X8 hX8; have sX8 := hX8.size; refine (toTape_any _ _ _).mono ?_; rintro e w8 ⟨rfl, hb8⟩; have s8 := hb8.size; have hT8 := hX8.trans (hb8.mono sX8); have b_8 := b_7.trans (hT8.mono (by omega)); have x_8 := cells_below x_7 hT8 (by omega); have u_8 := own_below u_7 hT8; have y_8 := own_below y_7 hT8; have aT_8 := Blk.past hT8 aT_7; have aD_8 := Blk.past hT8 aD_7; clear x_7 u_7 y_7 aT_7 aD_7 b_7 cell_aT froz_aT lt_aT cell_aD froz_aD lt_aD hX8 hT8 hb8; have cell_aT := aT_8.cell; have froz_aT := aT_8.frozen; have lt_aT := aT_8.lt; have cell_aD := aD_8.cell; have froz_aD := aD_8.frozen; have lt_aD := aD_8.lt) | (go_at_call 8; refine calls_forget0 (W := w8) ?_ ?_; (focus (repeat (first | (with_reducible exact Below.refl _ _) | (with_reducible refine Below.trans ?_ (Below.mono (by assumption) (by first | omega | (simp; done) | (simp; omega) | (simp [*]; done)))) | (with_reducible refine Below.alloc ?_ (by first | omega | (simp; done) | (simp; omega) | (simp [*]; done)) _) | (with_reducible refine Below.setCell ?_ (by first | omega | (simp; done) | (simp; omega) | (simp [*]; done)) _) | (with_reducible refine Below.drew ?_) | (with_reducible refine below_drewN ?_)))); intro X9 hX9; have sX9 := hX9.size; refine (CI.out _ _ _ (Cells.of_own (own_below y_8 hX9))).mono ?_; rintro e w9 ⟨Ag, cg, rfl, g_9, hb9⟩; have s9 := hb9.size; have hT9 := hX9.trans (hb9.mono sX9); have b_9 := b_8.trans (hT9.mono (by omega)); have x_9 := cells_below x_8 hT9 (by omega); have u_9 := own_below u_8 hT9; have y_9 := own_below y_8 hT9; have aT_9 := Blk.past hT9 aT_8; have aD_9 := Blk.past hT9 aD_8; have g_in := own_in g_9; clear x_8 u_8 y_8 aT_8 aD_8 b_8 cell_aT froz_aT lt_aT cell_aD froz_aD lt_aD hX9 hT9 hb9; have cell_aT := aT_9.cell; have froz_aT := aT_9.frozen; have lt_aT := aT_9.lt; have cell_aD := aD_9.cell; have froz_aD := aD_9.frozen; have lt_aD := aD_9.lt))
    go_wp2_with fail
    refine calls_forget0 (W := w9) ?_ ?_
    (focus (repeat (first | (with_reducible exact Below.refl _ _) | (with_reducible refine Below.trans ?_ (Below.mono (by assumption) (by first | omega | (simp; done) | (simp; omega) | (simp [*]; done)))) | (with_reducible refine Below.alloc ?_ (by first | omega | (simp; done) | (simp; omega) | (simp [*]; done)) _) | (with_reducible refine Below.setCell ?_ (by first | omega | (simp; done) | (simp; omega) | (simp [*]; done)) _) | (with_reducible refine Below.drew ?_) | (with_reducible refine below_drewN ?_))))
    intro X10 hX10
    have sX10 := hX10.size
    refine (eqIntS_same _ _ _ _ _ _ (Cells.of_own (own_below g_9 hX10)) (Cells.of_own (own_below u_9 hX10)) (by omega)).mono ?_
    rintro e w10 ⟨rfl, hb10⟩
    have s10 := hb10.size
    have hT10 := hX10.trans (hb10.mono sX10)
    have b_10 := b_9.trans (hT10.mono (by omega))
    have x_10 := cells_below x_9 hT10 (by omega)
    have u_10 := own_below u_9 hT10
    have y_10 := own_below y_9 hT10
    have g_10 := own_below g_9 hT10
    have aT_10 := Blk.past hT10 aT_9
    have aD_10 := Blk.past hT10 aD_9
    clear x_9 u_9 y_9 g_9 aT_9 aD_9 b_9 cell_aT froz_aT lt_aT cell_aD froz_aD lt_aD hX10 hT10 hb10
    have cell_aT := aT_10.cell
    have froz_aT := aT_10.frozen
    have lt_aT := aT_10.lt
    have cell_aD := aD_10.cell
    have froz_aD := aD_10.frozen
    have lt_aD := aD_10.lt
    go_wp2_with fail
    refine calls_forget0 (W := w10) ?_ ?_
    (focus (repeat (first | (with_reducible exact Below.refl _ _) | (with_reducible refine Below.trans ?_ (Below.mono (by assumption) (by first | omega | (simp; done) | (simp; omega) | (simp [*]; done)))) | (with_reducible refine Below.alloc ?_ (by first | omega | (simp; done) | (simp; omega) | (simp [*]; done)) _) | (with_reducible refine Below.setCell ?_ (by first | omega | (simp; done) | (simp; omega) | (simp [*]; done)) _) | (with_reducible refine Below.drew ?_) | (with_reducible refine below_drewN ?_))))
    intro X11 hX11
    have sX11 := hX11.size
    refine (toIntS_any _ _ _ _ ((cells_below x_10 hX11 (by omega)).more (by omega)) h1).mono ?_
    rintro e w11 ⟨rfl, z_11, hb11⟩
    have s11 := hb11.size
    have hT11 := hX11.trans (hb11.mono sX11)
    have b_11 := b_10.trans (hT11.mono (by omega))
    have x_11 := cells_below x_10 hT11 (by omega)
    have u_11 := own_below u_10 hT11
    have y_11 := own_below y_10 hT11
    have g_11 := own_below g_10 hT11
    have aT_11 := Blk.past hT11 aT_10
    have aD_11 := Blk.past hT11 aD_10
    have z_in := own_in z_11
    clear x_10 u_10 y_10 g_10 aT_10 aD_10 b_10 cell_aT froz_aT lt_aT cell_aD froz_aD lt_aD hX11 hT11 hb11
    have cell_aT := aT_11.cell
    have froz_aT := aT_11.frozen
    have lt_aT := aT_11.lt
    have cell_aD := aD_11.cell
    have froz_aD := aD_11.frozen
    have lt_aD := aD_11.lt
    go_wp2_with fail
    refine calls_forget0 (W := w11) ?_ ?_
    (focus (repeat (first | (with_reducible exact Below.refl _ _) | (with_reducible refine Below.trans ?_ (Below.mono (by assumption) (by first | omega | (simp; done) | (simp; omega) | (simp [*]; done)))) | (with_reducible refine Below.alloc ?_ (by first | omega | (simp; done) | (simp; omega) | (simp [*]; done)) _) | (with_reducible refine Below.setCell ?_ (by first | omega | (simp; done) | (simp; omega) | (simp [*]; done)) _) | (with_reducible refine Below.drew ?_) | (with_reducible refine below_drewN ?_))))
    intro X12 hX12
    have sX12 := hX12.size
    refine (eqIntS_same _ _ _ _ _ _ (Cells.of_own (own_below y_11 hX12)) (Cells.of_own (own_below z_11 hX12)) (by omega)).mono ?_
    rintro e w12 ⟨rfl, hb12⟩
    have s12 := hb12.size
    have hT12 := hX12.trans (hb12.mono sX12)
    have b_12 := b_11.trans (hT12.mono (by omega))
    have x_12 := cells_below x_11 hT12 (by omega)
    have u_12 := own_below u_11 hT12
    have y_12 := own_below y_11 hT12
    have g_12 := own_below g_11 hT12
    have z_12 := own_below z_11 hT12
    have aT_12 := Blk.past hT12 aT_11
    have aD_12 := Blk.past hT12 aD_11
    clear x_11 u_11 y_11 g_11 z_11 aT_11 aD_11 b_11 cell_aT froz_aT lt_aT cell_aD froz_aD lt_aD hX12 hT12 hb12
    have cell_aT := aT_12.cell
    have froz_aT := aT_12.frozen
    have lt_aT := aT_12.lt
    have cell_aD := aD_12.cell
    have froz_aD := aD_12.frozen
    have lt_aD := aD_12.lt
    clear z_12
    go_wp2_with fail
    refine calls_forget0 (W := w12) ?_ ?_
    (focus (repeat (first | (with_reducible exact Below.refl _ _) | (with_reducible refine Below.trans ?_ (Below.mono (by assumption) (by first | omega | (simp; done) | (simp; omega) | (simp [*]; done)))) | (with_reducible refine Below.alloc ?_ (by first | omega | (simp; done) | (simp; omega) | (simp [*]; done)) _) | (with_reducible refine Below.setCell ?_ (by first | omega | (simp; done) | (simp; omega) | (simp [*]; done)) _) | (with_reducible refine Below.drew ?_) | (with_reducible refine below_drewN ?_))))
    intro X13 hX13
    have sX13 := hX13.size
    refine (markIntS_any _ _ _ _ _ _ _ (own_below y_12 hX13) (by omega) (by omega) (by omega)).mono ?_
    rintro e w13 ⟨rfl, y_13, hg13⟩
    have s13 := hg13.size
    have hT13 := below_grown hX13 hg13
    have b_13 := gr_below hT13 b_12 (by omega) (fun q hq => by have h1 := y_in q hq; omega)
    have x_13 := gr_cells hT13 x_12 (by omega) (fun q hq => by have h1 := y_in q hq; omega)
    have u_13 := gr_own hT13 u_12 (fun q p hq hp => by first | (have h1 := y_in q hq; have h2 := u_in p hp; omega) | exact own_ne y_12 u_12 (by decide) q p hq hp | exact ne_y_u q p hq hp | exact (ne_u_y p q hp hq).symm)
    have g_13 := gr_own hT13 g_12 (fun q p hq hp => by first | (have h1 := y_in q hq; have h2 := g_in p hp; omega) | exact own_ne y_12 g_12 (by decide) q p hq hp | exact ne_y_g q p hq hp | exact (ne_g_y p q hp hq).symm)
    have aT_13 := gr_blk hT13 aT_12 (fun q hq => by have h1 := y_in q hq; omega)
    have aD_13 := gr_blk hT13 aD_12 (fun q hq => by have h1 := y_in q hq; omega)
    clear x_12 u_12 y_12 g_12 aT_12 aD_12 b_12 cell_aT froz_aT lt_aT cell_aD froz_aD lt_aD hX13 hT13 hg13
    have cell_aT := aT_13.cell
    have froz_aT := aT_13.frozen
    have lt_aT := aT_13.lt
    have cell_aD := aD_13.cell
    have froz_aD := aD_13.frozen
    have lt_aD := aD_13.lt
    go_wp2_with fail
    refine calls_forget0 (W := w13) ?_ ?_
    (focus (repeat (first | (with_reducible exact Below.refl _ _) | (with_reducible refine Below.trans ?_ (Below.mono (by assumption) (by first | omega | (simp; done) | (simp; omega) | (simp [*]; done)))) | (with_reducible refine Below.alloc ?_ (by first | omega | (simp; done) | (simp; omega) | (simp [*]; done)) _) | (with_reducible refine Below.setCell ?_ (by first | omega | (simp; done) | (simp; omega) | (simp [*]; done)) _) | (with_reducible refine Below.drew ?_) | (with_reducible refine below_drewN ?_))))
    intro X14 hX14
    have sX14 := hX14.size
    refine (eqIntS_same _ _ _ _ _ _ (Cells.of_own (own_below g_13 hX14)) (Cells.of_own (own_below u_13 hX14)) (by omega)).mono ?_
    rintro e w14 ⟨rfl, hb14⟩
    have s14 := hb14.size
    have hT14 := hX14.trans (hb14.mono sX14)
    have b_14 := b_13.trans (hT14.mono (by omega))
    have x_14 := cells_below x_13 hT14 (by omega)
    have u_14 := own_below u_13 hT14
    have y_14 := own_below y_13 hT14
    have g_14 := own_below g_13 hT14
    have aT_14 := Blk.past hT14 aT_13
    have aD_14 := Blk.past hT14 aD_13
    clear x_13 u_13 y_13 g_13 aT_13 aD_13 b_13 cell_aT froz_aT lt_aT cell_aD froz_aD lt_aD hX14 hT14 hb14
    have cell_aT := aT_14.cell
    have froz_aT := aT_14.frozen
    have lt_aT := aT_14.lt
    have cell_aD := aD_14.cell
    have froz_aD := aD_14.frozen
    have lt_aD := aD_14.lt
    clear y_14
    go_wp2_with fail
    refine calls_forget0 (W := w14) ?_ ?_
    (focus (repeat (first | (with_reducible exact Below.refl _ _) | (with_reducible refine Below.trans ?_ (Below.mono (by assumption) (by first | omega | (simp; done) | (simp; omega) | (simp [*]; done)))) | (with_reducible refine Below.alloc ?_ (by first | omega | (simp; done) | (simp; omega) | (simp [*]; done)) _) | (with_reducible refine Below.setCell ?_ (by first | omega | (simp; done) | (simp; omega) | (simp [*]; done)) _) | (with_reducible refine Below.drew ?_) | (with_reducible refine below_drewN ?_))))
    intro X15 hX15
    have sX15 := hX15.size
    refine (markIntS_any _ _ _ _ _ _ _ (own_below g_14 hX15) (by omega) (by omega) (by omega)).mono ?_
    rintro e w15 ⟨rfl, g_15, hg15⟩
    have s15 := hg15.size
    have hT15 := below_grown hX15 hg15
    have b_15 := gr_below hT15 b_14 (by omega) (fun q hq => by have h1 := g_in q hq; omega)
    have x_15 := gr_cells hT15 x_14 (by omega) (fun q hq => by have h1 := g_in q hq; omega)
    have u_15 := gr_own hT15 u_14 (fun q p hq hp => by first | (have h1 := g_in q hq; have h2 := u_in p hp; omega) | exact own_ne g_14 u_14 (by decide) q p hq hp | exact ne_g_u q p hq hp | exact (ne_u_g p q hp hq).symm)
    have aT_15 := gr_blk hT15 aT_14 (fun q hq => by have h1 := g_in q hq; omega)
    have aD_15 := gr_blk hT15 aD_14 (fun q hq => by have h1 := g_in q hq; omega)
    clear x_14 u_14 g_14 aT_14 aD_14 b_14 cell_aT froz_aT lt_aT cell_aD froz_aD lt_aD hX15 hT15 hg15
    have cell_aT := aT_15.cell
    have froz_aT := aT_15.frozen
    have lt_aT := aT_15.lt
    have cell_aD := aD_15.cell
    have froz_aD := aD_15.frozen
    have lt_aD := aD_15.lt
    go_wp2_with fail
    refine calls_forget0 (W := w15) ?_ ?_
    (focus (repeat (first | (with_reducible exact Below.refl _ _) | (with_reducible refine Below.trans ?_ (Below.mono (by assumption) (by first | omega | (simp; done) | (simp; omega) | (simp [*]; done)))) | (with_reducible refine Below.alloc ?_ (by first | omega | (simp; done) | (simp; omega) | (simp [*]; done)) _) | (with_reducible refine Below.setCell ?_ (by first | omega | (simp; done) | (simp; omega) | (simp [*]; done)) _) | (with_reducible refine Below.drew ?_) | (with_reducible refine below_drewN ?_))))
    intro X16 hX16
    have sX16 := hX16.size
    refine (heldIntS_any _ _ _ _ _ (Cells.of_own (own_below g_15 hX16)) (by omega) (by omega) (by omega)).mono ?_
    rintro e w' ⟨rfl, rfl⟩
    have b_16 := b_15.trans (hX16.mono (by omega))
    have x_16 := cells_below x_15 hX16 (by omega)
    have u_16 := own_below u_15 hX16
    have g_16 := own_below g_15 hX16
    have aT_16 := Blk.past hX16 aT_15
    have aD_16 := Blk.past hX16 aD_15
    clear x_15 u_15 g_15 aT_15 aD_15 b_15 cell_aT froz_aT lt_aT cell_aD froz_aD lt_aD hX16
    have cell_aT := aT_16.cell
    have froz_aT := aT_16.frozen
    have lt_aT := aT_16.lt
    have cell_aD := aD_16.cell
    have froz_aD := aD_16.frozen
    have lt_aD := aD_16.lt
    go_wp2_with fail
    go_region_held3 (fun w' => w'.cell? ⟨w.heap.size, 0, none⟩ = some (.int .i64 s) ∧ w'.cell? ⟨w.heap.size, 1, none⟩ = some (.int .i64 a) ∧ w'.cell? ⟨w.heap.size + 1, 0, none⟩ = some (.int .i64 s') ∧ w'.cell? ⟨w.heap.size + 1, 1, none⟩ = some (.int .i64 a')) (exact ⟨(Blk.cell (t := 23) (cs := #[.int .i64 s, .int .i64 a]) (by repeat (first | (with_reducible assumption) | (with_reducible apply Blk.drew) | (with_reducible apply Blk.drewN) | (with_reducible apply Blk.new; first | rfl | (simp; done)) | (with_reducible apply Blk.alloc) | (with_reducible apply Blk.set_) | (with_reducible apply Blk.past; focus assumption) | (with_reducible apply Blk.far; focus (first | (simp; done) | (simp; omega) | (dsimp only; omega))))) 0), (Blk.cell (t := 23) (cs := #[.int .i64 s, .int .i64 a]) (by repeat (first | (with_reducible assumption) | (with_reducible apply Blk.drew) | (with_reducible apply Blk.drewN) | (with_reducible apply Blk.new; first | rfl | (simp; done)) | (with_reducible apply Blk.alloc) | (with_reducible apply Blk.set_) | (with_reducible apply Blk.past; focus assumption) | (with_reducible apply Blk.far; focus (first | (simp; done) | (simp; omega) | (dsimp only; omega))))) 1), (Blk.cell (t := 23) (cs := #[.int .i64 s', .int .i64 a']) (by repeat (first | (with_reducible assumption) | (with_reducible apply Blk.drew) | (with_reducible apply Blk.drewN) | (with_reducible apply Blk.new; first | rfl | (simp; done)) | (with_reducible apply Blk.alloc) | (with_reducible apply Blk.set_) | (with_reducible apply Blk.past; focus assumption) | (with_reducible apply Blk.far; focus (first | (simp; done) | (simp; omega) | (dsimp only; omega))))) 0), (Blk.cell (t := 23) (cs := #[.int .i64 s', .int .i64 a']) (by repeat (first | (with_reducible assumption) | (with_reducible apply Blk.drew) | (with_reducible apply Blk.drewN) | (with_reducible apply Blk.new; first | rfl | (simp; done)) | (with_reducible apply Blk.alloc) | (with_reducible apply Blk.set_) | (with_reducible apply Blk.past; focus assumption) | (with_reducible apply Blk.far; focus (first | (simp; done) | (simp; omega) | (dsimp only; omega))))) 1)⟩) (first | (go_at_call 6; refine calls_forget0 (W := X16) ?_ ?_; (focus (repeat (first | (with_reducible exact Below.refl _ _) | (with_reducible refine Below.trans ?_ (Below.mono (by assumption) (by first | omega | (simp; done) | (simp; omega) | (simp [*]; done)))) | (with_reducible refine Below.alloc ?_ (by first | omega | (simp; done) | (simp; omega) | (simp [*]; done)) _) | (with_reducible refine Below.setCell ?_ (by first | omega | (simp; done) | (simp; omega) | (simp [*]; done)) _) | (with_reducible refine Below.drew ?_) | (with_reducible refine below_drewN ?_)))); intro X17 hX17; have sX17 := hX17.size; refine (toTape_any _ _ _).mono ?_; rintro e w17 ⟨rfl, hb17⟩; have s17 := hb17.size; have hT17 := hX17.trans (hb17.mono sX17); have b_17 := b_16.trans (hT17.mono (by omega)); have x_17 := cells_below x_16 hT17 (by omega); have u_17 := own_below u_16 hT17; have g_17 := own_below g_16 hT17; have aT_17 := Blk.past hT17 aT_16; have aD_17 := Blk.past hT17 aD_16; clear x_16 u_16 g_16 aT_16 aD_16 b_16 cell_aT froz_aT lt_aT cell_aD froz_aD lt_aD hX17 hT17 hb17; have cell_aT := aT_17.cell; have froz_aT := aT_17.frozen; have lt_aT := aT_17.lt; have cell_aD := aD_17.cell; have froz_aD := aD_17.frozen; have lt_aD := aD_17.lt) | (go_at_call 6; refine calls_forget0 (W := w17) ?_ ?_; (focus (repeat (first | (with_reducible exact Below.refl _ _) | (with_reducible refine Below.trans ?_ (Below.mono (by assumption) (by first | omega | (simp; done) | (simp; omega) | (simp [*]; done)))) | (with_reducible refine Below.alloc ?_ (by first | omega | (simp; done) | (simp; omega) | (simp [*]; done)) _) | (with_reducible refine Below.setCell ?_ (by first | omega | (simp; done) | (simp; omega) | (simp [*]; done)) _) | (with_reducible refine Below.drew ?_) | (with_reducible refine below_drewN ?_)))); intro X18 hX18; have sX18 := hX18.size; refine (toTape_any _ _ _).mono ?_; rintro e w18 ⟨rfl, hb18⟩; have s18 := hb18.size; have hT18 := hX18.trans (hb18.mono sX18); have b_18 := b_17.trans (hT18.mono (by omega)); have x_18 := cells_below x_17 hT18 (by omega); have u_18 := own_below u_17 hT18; have g_18 := own_below g_17 hT18; have aT_18 := Blk.past hT18 aT_17; have aD_18 := Blk.past hT18 aD_17; clear x_17 u_17 g_17 aT_17 aD_17 b_17 cell_aT froz_aT lt_aT cell_aD froz_aD lt_aD hX18 hT18 hb18; have cell_aT := aT_18.cell; have froz_aT := aT_18.frozen; have lt_aT := aT_18.lt; have cell_aD := aD_18.cell; have froz_aD := aD_18.frozen; have lt_aD := aD_18.lt) | (go_at_call 7; refine calls_forget0 (W := w18) ?_ ?_; (focus (repeat (first | (with_reducible exact Below.refl _ _) | (with_reducible refine Below.trans ?_ (Below.mono (by assumption) (by first | omega | (simp; done) | (simp; omega) | (simp [*]; done)))) | (with_reducible refine Below.alloc ?_ (by first | omega | (simp; done) | (simp; omega) | (simp [*]; done)) _) | (with_reducible refine Below.setCell ?_ (by first | omega | (simp; done) | (simp; omega) | (simp [*]; done)) _) | (with_reducible refine Below.drew ?_) | (with_reducible refine below_drewN ?_)))); intro X19 hX19; have sX19 := hX19.size; refine (toIntS_any _ _ _ _ ((cells_below x_18 hX19 (by omega)).more (by omega)) h1).mono ?_; rintro e w19 ⟨rfl, z_19, hb19⟩; have s19 := hb19.size; have hT19 := hX19.trans (hb19.mono sX19); have b_19 := b_18.trans (hT19.mono (by omega)); have x_19 := cells_below x_18 hT19 (by omega); have u_19 := own_below u_18 hT19; have g_19 := own_below g_18 hT19; have aT_19 := Blk.past hT19 aT_18; have aD_19 := Blk.past hT19 aD_18; have z_in := own_in z_19; clear x_18 u_18 g_18 aT_18 aD_18 b_18 cell_aT froz_aT lt_aT cell_aD froz_aD lt_aD hX19 hT19 hb19; have cell_aT := aT_19.cell; have froz_aT := aT_19.frozen; have lt_aT := aT_19.lt; have cell_aD := aD_19.cell; have froz_aD := aD_19.frozen; have lt_aD := aD_19.lt) | (go_at_call 8; refine calls_forget0 (W := w19) ?_ ?_; (focus (repeat (first | (with_reducible exact Below.refl _ _) | (with_reducible refine Below.trans ?_ (Below.mono (by assumption) (by first | omega | (simp; done) | (simp; omega) | (simp [*]; done)))) | (with_reducible refine Below.alloc ?_ (by first | omega | (simp; done) | (simp; omega) | (simp [*]; done)) _) | (with_reducible refine Below.setCell ?_ (by first | omega | (simp; done) | (simp; omega) | (simp [*]; done)) _) | (with_reducible refine Below.drew ?_) | (with_reducible refine below_drewN ?_)))); intro X20 hX20; have sX20 := hX20.size; refine (CI.out _ _ _ (Cells.of_own (own_below z_19 hX20))).mono ?_; rintro e w20 ⟨Ah, ch, rfl, h_20, hb20⟩; have s20 := hb20.size; have hT20 := hX20.trans (hb20.mono sX20); have b_20 := b_19.trans (hT20.mono (by omega)); have x_20 := cells_below x_19 hT20 (by omega); have u_20 := own_below u_19 hT20; have g_20 := own_below g_19 hT20; have z_20 := own_below z_19 hT20; have aT_20 := Blk.past hT20 aT_19; have aD_20 := Blk.past hT20 aD_19; have h_in := own_in h_20; clear x_19 u_19 g_19 z_19 aT_19 aD_19 b_19 cell_aT froz_aT lt_aT cell_aD froz_aD lt_aD hX20 hT20 hb20; have cell_aT := aT_20.cell; have froz_aT := aT_20.frozen; have lt_aT := aT_20.lt; have cell_aD := aD_20.cell; have froz_aD := aD_20.frozen; have lt_aD := aD_20.lt))
    clear z_20
    go_wp2_with fail
    refine calls_forget0 (W := w20) ?_ ?_
    (focus (repeat (first | (with_reducible exact Below.refl _ _) | (with_reducible refine Below.trans ?_ (Below.mono (by assumption) (by first | omega | (simp; done) | (simp; omega) | (simp [*]; done)))) | (with_reducible refine Below.alloc ?_ (by first | omega | (simp; done) | (simp; omega) | (simp [*]; done)) _) | (with_reducible refine Below.setCell ?_ (by first | omega | (simp; done) | (simp; omega) | (simp [*]; done)) _) | (with_reducible refine Below.drew ?_) | (with_reducible refine below_drewN ?_))))
    intro X21 hX21
    have sX21 := hX21.size
    refine (eqIntS_same _ _ _ _ _ _ (Cells.of_own (own_below h_20 hX21)) (Cells.of_own (own_below u_20 hX21)) (by omega)).mono ?_
    rintro e w21 ⟨rfl, hb21⟩
    have s21 := hb21.size
    have hT21 := hX21.trans (hb21.mono sX21)
    have b_21 := b_20.trans (hT21.mono (by omega))
    have x_21 := cells_below x_20 hT21 (by omega)
    have u_21 := own_below u_20 hT21
    have g_21 := own_below g_20 hT21
    have h_21 := own_below h_20 hT21
    have aT_21 := Blk.past hT21 aT_20
    have aD_21 := Blk.past hT21 aD_20
    clear x_20 u_20 g_20 h_20 aT_20 aD_20 b_20 cell_aT froz_aT lt_aT cell_aD froz_aD lt_aD hX21 hT21 hb21
    have cell_aT := aT_21.cell
    have froz_aT := aT_21.frozen
    have lt_aT := aT_21.lt
    have cell_aD := aD_21.cell
    have froz_aD := aD_21.frozen
    have lt_aD := aD_21.lt
    go_wp2_with fail
    refine calls_forget0 (W := w21) ?_ ?_
    (focus (repeat (first | (with_reducible exact Below.refl _ _) | (with_reducible refine Below.trans ?_ (Below.mono (by assumption) (by first | omega | (simp; done) | (simp; omega) | (simp [*]; done)))) | (with_reducible refine Below.alloc ?_ (by first | omega | (simp; done) | (simp; omega) | (simp [*]; done)) _) | (with_reducible refine Below.setCell ?_ (by first | omega | (simp; done) | (simp; omega) | (simp [*]; done)) _) | (with_reducible refine Below.drew ?_) | (with_reducible refine below_drewN ?_))))
    intro X22 hX22
    have sX22 := hX22.size
    refine (heldIntS_any _ _ _ _ _ (Cells.of_own (own_below g_21 hX22)) (by omega) (by omega) (by omega)).mono ?_
    rintro e w' ⟨rfl, rfl⟩
    have b_22 := b_21.trans (hX22.mono (by omega))
    have x_22 := cells_below x_21 hX22 (by omega)
    have u_22 := own_below u_21 hX22
    have g_22 := own_below g_21 hX22
    have h_22 := own_below h_21 hX22
    have aT_22 := Blk.past hX22 aT_21
    have aD_22 := Blk.past hX22 aD_21
    clear x_21 u_21 g_21 h_21 aT_21 aD_21 b_21 cell_aT froz_aT lt_aT cell_aD froz_aD lt_aD hX22
    have cell_aT := aT_22.cell
    have froz_aT := aT_22.frozen
    have lt_aT := aT_22.lt
    have cell_aD := aD_22.cell
    have froz_aD := aD_22.frozen
    have lt_aD := aD_22.lt
    go_wp2
    go_ret
    refine ⟨rfl, b_22.trans ?_⟩
    repeat (first | (with_reducible exact Below.refl _ _) | (with_reducible refine Below.trans ?_ (Below.mono (by assumption) (by first | omega | (simp; done) | (simp; omega) | (simp [*]; done)))) | (with_reducible refine Below.alloc ?_ (by first | omega | (simp; done) | (simp; omega) | (simp [*]; done)) _) | (with_reducible refine Below.setCell ?_ (by first | omega | (simp; done) | (simp; omega) | (simp [*]; done)) _) | (with_reducible refine Below.drew ?_) | (with_reducible refine below_drewN ?_))
  · go_enter Try.func3, Try.ntmps3
    go_wp2
    go_ret
    refine ⟨rfl, ?_⟩
    repeat (first | (with_reducible exact Below.refl _ _) | (with_reducible refine Below.trans ?_ (Below.mono (by assumption) (by first | omega | (simp; done) | (simp; omega) | (simp [*]; done)))) | (with_reducible refine Below.alloc ?_ (by first | omega | (simp; done) | (simp; omega) | (simp [*]; done)) _) | (with_reducible refine Below.setCell ?_ (by first | omega | (simp; done) | (simp; omega) | (simp [*]; done)) _) | (with_reducible refine Below.drew ?_) | (with_reducible refine below_drewN ?_))
set_option maxRecDepth 100000 in
theorem lifted (os : Os) (started : os.Started) (H : Type) (enc : TypeId × Value → H) :
    ReturnsInHanded {} Try.checked os 3 .any (Rows.fnExactLabelsByTransferSpec.pre6 enc Try.prog Try.f3 Rows.fnExactLabelsByTransferRow.domain false) (Rows.fnExactLabelsByTransferSpec.post enc Try.prog Try.f3 false true false false) := by
  refine returnsInHanded_of_change (C := Try.checked) own started (by kernel_rfl) Try.func3
    (ChangeSpec.witness6 (enc := enc) (C := Try.checked) false ⟨#[], #[.agg #[.int .i64 0, .int .i64 0], .agg #[.int .i64 0, .int .i64 0], .slice none 0 0, .int .i64 0], []⟩ 8 (by kernel_rfl) (by kernel_rfl) (by kernel_rfl) (by kernel_rfl)) ?_
  intro W base args ds gs before hval0 hW _ _
  have hval : ∀ (j : Nat) t v, Try.f3.params[j]? = some t → args[j]? = some v → Value.okWide Try.prog W .any base t v := hval0
  have hW' := hW
  obtain ⟨p, q, hA0, hV, rfl, _, _⟩ := hW
  have hA : DataW.TrodAll enc Try.prog W 0 (fun _ => true) true Try.f3.params.toList args.toList ds p := hA0
  rw [Try.params3] at hA hval
  obtain ⟨v0, vs0, d0, ds0, p0, q0, hargs, rfl, rfl, h0, r0⟩ := trodAll_cons hA
  obtain ⟨v1, vs1, d1, ds1, p1, q1, rfl, rfl, rfl, h1, r1⟩ := trodAll_cons r0
  obtain ⟨v2, vs2, d2, ds2, p2, q2, rfl, rfl, rfl, h2, r2⟩ := trodAll_cons r1
  obtain ⟨v3, vs3, d3, ds3, p3, q3, rfl, rfl, rfl, h3, r3⟩ := trodAll_cons r2
  obtain ⟨rfl, rfl, rfl⟩ := trodAll_nil r3
  obtain rfl : args = #[v0, v1, v2, v3] := by cases args; simp_all
  obtain ⟨rfl, rfl⟩ := trodVars_none hV
  obtain ⟨c0a, c0b, y0a, y0b, _, rfl, hd0, _, hy0a, hy0b⟩ := Joins.open_agg2 Try.underlying23 (by kernel_rfl) (by kernel_rfl : Try.prog.cellsOf 23 = 2) (hval 0 23 v0 rfl rfl) h0
  obtain ⟨a0a, e0a, _, wa0a⟩ := DataW.trod_int Try.underlying3 hy0a
  obtain rfl : c0a = .int .i64 a0a := by simpa using e0a
  obtain ⟨a0b, e0b, _, wa0b⟩ := DataW.trod_int Try.underlying3 hy0b
  obtain rfl : c0b = .int .i64 a0b := by simpa using e0b
  obtain ⟨c1a, c1b, y1a, y1b, _, rfl, hd1, _, hy1a, hy1b⟩ := Joins.open_agg2 Try.underlying23 (by kernel_rfl) (by kernel_rfl : Try.prog.cellsOf 23 = 2) (hval 1 23 v1 rfl rfl) h1
  obtain ⟨a1a, e1a, _, wa1a⟩ := DataW.trod_int Try.underlying3 hy1a
  obtain rfl : c1a = .int .i64 a1a := by simpa using e1a
  obtain ⟨a1b, e1b, _, wa1b⟩ := DataW.trod_int Try.underlying3 hy1b
  obtain rfl : c1b = .int .i64 a1b := by simpa using e1b
  obtain ⟨A2, c2, xs2, rfl, hc2, hw2, hn2⟩ := view_ints Try.underlying24 Try.underlying3 (by kernel_rfl) (hval 2 24 v2 rfl rfl) h2 (fun x hx => hW'.lt x (by simp [hx]))
  obtain ⟨a3, rfl, hd3, _, wa3⟩ := open_int Try.underlying3 (hval 3 3 v3 rfl rfl) h3
  refine (walk a0a a0b a1a a1b A2 c2 xs2 a3 W hc2 hn2).mono fun e W' ⟨he, hb⟩ => ?_
  subst he
  exact ⟨_, rfl, law_post rfl (by kernel_rfl) (by kernel_rfl) rfl Try.underlying4 hW' rfl rfl rfl hb⟩
theorem closed : joinedFacts Try.prog 3 Try.f3 Rows.fnExactLabelsByTransferSpec Rows.fnExactLabelsByTransferRow = true := by
  unfold joinedFacts
  rw [makeIs, mayIs, finalsIs]
  kernel_rfl
theorem over : Rows.fnExactLabelsByTransferRow.holds Try.pinned (OpenSpec.ofChange Rows.fnExactLabelsByTransferSpec) :=
  OpenClaim.holds_of_wide 3 Try.f3 rfl rfl rfl rfl rfl rfl rfl ⟨rfl, rfl, rfl, rfl, rfl⟩ rfl rfl rfl rfl rfl (by kernel_rfl) Try.func3 closed
    (of_decide_eq_true (by kernel_rfl)) (by unfold Func.isWrapper; first | (rw [if_pos (by decide +kernel)]; kernel_rfl) | (rw [if_neg (by decide +kernel)]; exact ⟨rfl, rfl⟩))
    (fun os started H enc _ => lifted os started H enc)
theorem proved : Rows.FnExactLabelsByTransferSaid := over
#print axioms proved

end labelsByTransfer
end Go.Proofs.Ytonanjcojfjbdaa
