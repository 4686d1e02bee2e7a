/- The law that Load of the program returns what the reference's returns, for all arguments. No conditions. -/
import Derived.Test.YtdfomahaplcgoaaLoad
import Derived.Test.YtdfomahaplcgoaaBoxS
import Derived.Test.YtdfomahaplcgoaaHead
import Derived.Outline
set_option linter.unusedVariables false
namespace Go.Proofs.Ytdfomahaplcgoaa
open Go.RowKit Go.ChangeShapes Go.WideShapes Go.ChangeAt

namespace load
set_option maxHeartbeats 3200000 in
theorem walk (k n m : Int) (A : Option Addr) (c : Nat) (xs : List Int) (t : Int) (w : World) (hx : Cells w w.heap.size A (ints xs)) (hn : xs.length ≤ maxLen) :
    Calls Try.prog 9 #[.agg #[.int .i64 k, .int .i64 n], .agg #[.int .i64 m, .slice A xs.length c, .int .i64 t]] w fun e w' => e = .returned (.bool true) ∧ Below w.heap.size w w' := by
  have hl : (loadL k n m xs t).length ≤ 1000000000 := by
    unfold loadL sealL
    split
    · split
      · rw [sealTo_length]; unfold sealB at *; simp_all; omega
      · simp
    · simp
  unfold maxLen at hn
  by_cases h1 : xs.length ≤ 1048576
  · have hd : decide ((1048576 : Int) - (xs.length : Int) < 0) = false := by simp; omega
    have HD := hid hd
    clear hd
    go_enter Try.func9, Try.ntmps9
    have b_0 := (Below.refl w.heap.size w)
    have s_0 := b_0.size
    have x_0 := hx
    clear hx
    go_wp2_with fail
    refine calls_forget2 (W := w) (b0 := w.heap.size) (t0 := 58) (c0 := #[.int .i64 k, .int .i64 n]) (b1 := w.heap.size + 1) (t1 := 59) (c1 := #[.int .i64 m, .slice A xs.length c, .int .i64 t]) ?_ ?_ ?_ ?_
    (focus (first | ((repeat (first | (with_reducible assumption) | (with_reducible apply Blk.drew) | (with_reducible apply Blk.new; first | rfl | (simp; done)) | (with_reducible apply Blk.alloc) | (with_reducible apply Blk.set_) | (with_reducible apply Blk.past; focus assumption) | (with_reducible apply Blk.far; focus (first | (simp; done) | (simp; omega) | (dsimp only; omega))))); done) | (apply Blk.cast; (case h => (repeat (first | (with_reducible assumption) | (with_reducible apply Blk.drew) | (with_reducible apply Blk.new; first | rfl | (simp; done)) | (with_reducible apply Blk.alloc) | (with_reducible apply Blk.set_) | (with_reducible apply Blk.past; focus assumption) | (with_reducible apply Blk.far; focus (first | (simp; done) | (simp; omega) | (dsimp only; omega)))))); (case e => rfl))))
    (focus (first | ((repeat (first | (with_reducible assumption) | (with_reducible apply Blk.drew) | (with_reducible apply Blk.new; first | rfl | (simp; done)) | (with_reducible apply Blk.alloc) | (with_reducible apply Blk.set_) | (with_reducible apply Blk.past; focus assumption) | (with_reducible apply Blk.far; focus (first | (simp; done) | (simp; omega) | (dsimp only; omega))))); done) | (apply Blk.cast; (case h => (repeat (first | (with_reducible assumption) | (with_reducible apply Blk.drew) | (with_reducible apply Blk.new; first | rfl | (simp; done)) | (with_reducible apply Blk.alloc) | (with_reducible apply Blk.set_) | (with_reducible apply Blk.past; focus assumption) | (with_reducible apply Blk.far; focus (first | (simp; done) | (simp; omega) | (dsimp only; omega)))))); (case e => rfl))))
    (focus (repeat (first | (with_reducible exact Below.refl _ _) | (with_reducible refine Below.trans ?_ (Below.mono (by assumption) (by first | omega | (simp; done) | (simp; omega) | (simp [*]; done)))) | (with_reducible refine Below.alloc ?_ (by first | omega | (simp; done) | (simp; omega) | (simp [*]; done)) _) | (with_reducible refine Below.setCell ?_ (by first | omega | (simp; done) | (simp; omega) | (simp [*]; done)) _) | (with_reducible refine Below.drew ?_))))
    intro X1 aV_n aS_n hX1
    have sX1 := hX1.size
    have aV_lt := aV_n.lt
    have aS_lt := aS_n.lt
    refine (szSealed_any _ _ _ _ _ _ _ hn (by omega) (by omega)).mono ?_
    rintro e w1 ⟨rfl, hb1⟩
    have s1 := hb1.size
    have hT1 := hX1.trans (hb1.mono sX1)
    have b_1 := b_0.trans (hT1.mono (by omega))
    have x_1 := cells_below x_0 hT1 (by omega)
    have aV_1 := Blk.past hb1 aV_n
    have aS_1 := Blk.past hb1 aS_n
    clear x_0 aV_n aS_n b_0 hT1 hX1 hb1
    have cell_aV := aV_1.cell
    have froz_aV := aV_1.frozen
    have lt_aV := aV_1.lt
    have cell_aS := aS_1.cell
    have froz_aS := aS_1.frozen
    have lt_aS := aS_1.lt
    rw [HD.out, pick_no]
    go_wp2_with fail
    go_region_held3 (fun w' => w'.cell? ⟨w.heap.size, 0, none⟩ = some (.int .i64 k) ∧ w'.cell? ⟨w.heap.size, 1, none⟩ = some (.int .i64 n) ∧ w'.cell? ⟨w.heap.size + 1, 0, none⟩ = some (.int .i64 m) ∧ w'.cell? ⟨w.heap.size + 1, 1, none⟩ = some (.slice A xs.length c) ∧ w'.cell? ⟨w.heap.size + 1, 2, none⟩ = some (.int .i64 t)) (exact ⟨(Blk.cell (t := 58) (cs := #[.int .i64 k, .int .i64 n]) (by repeat (first | (with_reducible assumption) | (with_reducible apply Blk.drew) | (with_reducible apply Blk.new; first | rfl | (simp; done)) | (with_reducible apply Blk.alloc) | (with_reducible apply Blk.set_) | (with_reducible apply Blk.past; focus assumption) | (with_reducible apply Blk.far; focus (first | (simp; done) | (simp; omega) | (dsimp only; omega))))) 0), (Blk.cell (t := 58) (cs := #[.int .i64 k, .int .i64 n]) (by repeat (first | (with_reducible assumption) | (with_reducible apply Blk.drew) | (with_reducible apply Blk.new; first | rfl | (simp; done)) | (with_reducible apply Blk.alloc) | (with_reducible apply Blk.set_) | (with_reducible apply Blk.past; focus assumption) | (with_reducible apply Blk.far; focus (first | (simp; done) | (simp; omega) | (dsimp only; omega))))) 1), (Blk.cell (t := 59) (cs := #[.int .i64 m, .slice A xs.length c, .int .i64 t]) (by repeat (first | (with_reducible assumption) | (with_reducible apply Blk.drew) | (with_reducible apply Blk.new; first | rfl | (simp; done)) | (with_reducible apply Blk.alloc) | (with_reducible apply Blk.set_) | (with_reducible apply Blk.past; focus assumption) | (with_reducible apply Blk.far; focus (first | (simp; done) | (simp; omega) | (dsimp only; omega))))) 0), (Blk.cell (t := 59) (cs := #[.int .i64 m, .slice A xs.length c, .int .i64 t]) (by repeat (first | (with_reducible assumption) | (with_reducible apply Blk.drew) | (with_reducible apply Blk.new; first | rfl | (simp; done)) | (with_reducible apply Blk.alloc) | (with_reducible apply Blk.set_) | (with_reducible apply Blk.past; focus assumption) | (with_reducible apply Blk.far; focus (first | (simp; done) | (simp; omega) | (dsimp only; omega))))) 1), (Blk.cell (t := 59) (cs := #[.int .i64 m, .slice A xs.length c, .int .i64 t]) (by repeat (first | (with_reducible assumption) | (with_reducible apply Blk.drew) | (with_reducible apply Blk.new; first | rfl | (simp; done)) | (with_reducible apply Blk.alloc) | (with_reducible apply Blk.set_) | (with_reducible apply Blk.past; focus assumption) | (with_reducible apply Blk.far; focus (first | (simp; done) | (simp; omega) | (dsimp only; omega))))) 2)⟩) (first | (go_at_call 35; refine calls_forget0 (W := w1) ?_ ?_; (focus (repeat (first | (with_reducible exact Below.refl _ _) | (with_reducible refine Below.trans ?_ (Below.mono (by assumption) (by first | omega | (simp; done) | (simp; omega) | (simp [*]; done)))) | (with_reducible refine Below.alloc ?_ (by first | omega | (simp; done) | (simp; omega) | (simp [*]; done)) _) | (with_reducible refine Below.setCell ?_ (by first | omega | (simp; done) | (simp; omega) | (simp [*]; done)) _) | (with_reducible refine Below.drew ?_)))); intro X2 hX2; have sX2 := hX2.size; refine (toVault_any _ _ _).mono ?_; rintro e w2 ⟨rfl, hb2⟩; have s2 := hb2.size; have hT2 := hX2.trans (hb2.mono sX2); have b_2 := b_1.trans (hT2.mono (by omega)); have x_2 := cells_below x_1 hT2 (by omega); have aV_2 := Blk.past hT2 aV_1; have aS_2 := Blk.past hT2 aS_1; clear x_1 aV_1 aS_1 b_1 cell_aV froz_aV lt_aV cell_aS froz_aS lt_aS hT2 hX2 hb2; have cell_aV := aV_2.cell; have froz_aV := aV_2.frozen; have lt_aV := aV_2.lt; have cell_aS := aS_2.cell; have froz_aS := aS_2.frozen; have lt_aS := aS_2.lt) | (go_at_call 36; refine calls_forget0 (W := w2) ?_ ?_; (focus (repeat (first | (with_reducible exact Below.refl _ _) | (with_reducible refine Below.trans ?_ (Below.mono (by assumption) (by first | omega | (simp; done) | (simp; omega) | (simp [*]; done)))) | (with_reducible refine Below.alloc ?_ (by first | omega | (simp; done) | (simp; omega) | (simp [*]; done)) _) | (with_reducible refine Below.setCell ?_ (by first | omega | (simp; done) | (simp; omega) | (simp [*]; done)) _) | (with_reducible refine Below.drew ?_)))); intro X3 hX3; have sX3 := hX3.size; refine (toSealed_any _ _ _ _ _ _ ((cells_below x_2 hX3 (by omega)).more (by omega)) h1).mono ?_; rintro e w3 ⟨A', rfl, a_3, hb3⟩; have s3 := hb3.size; have hT3 := hX3.trans (hb3.mono sX3); have b_3 := b_2.trans (hT3.mono (by omega)); have x_3 := cells_below x_2 hT3 (by omega); have aV_3 := Blk.past hT3 aV_2; have aS_3 := Blk.past hT3 aS_2; have a_hi := own_hi a_3; clear x_2 aV_2 aS_2 b_2 cell_aV froz_aV lt_aV cell_aS froz_aS lt_aS hT3 hX3 hb3; have cell_aV := aV_3.cell; have froz_aV := aV_3.frozen; have lt_aV := aV_3.lt; have cell_aS := aS_3.cell; have froz_aS := aS_3.frozen; have lt_aS := aS_3.lt) | (go_at_call 34; refine calls_forget0 (W := w3) ?_ ?_; (focus (repeat (first | (with_reducible exact Below.refl _ _) | (with_reducible refine Below.trans ?_ (Below.mono (by assumption) (by first | omega | (simp; done) | (simp; omega) | (simp [*]; done)))) | (with_reducible refine Below.alloc ?_ (by first | omega | (simp; done) | (simp; omega) | (simp [*]; done)) _) | (with_reducible refine Below.setCell ?_ (by first | omega | (simp; done) | (simp; omega) | (simp [*]; done)) _) | (with_reducible refine Below.drew ?_)))); intro X4 hX4; have sX4 := hX4.size; refine (sLoad _ _ _ _ _ _ _ _ (Cells.of_own (own_below a_3 hX4)) (by omega)).mono ?_; rintro e w4 ⟨Au, cu, rfl, u_4, hb4⟩; have s4 := hb4.size; have hT4 := hX4.trans (hb4.mono sX4); have b_4 := b_3.trans (hT4.mono (by omega)); have x_4 := cells_below x_3 hT4 (by omega); have a_4 := own_below a_3 hT4; have aV_4 := Blk.past hT4 aV_3; have aS_4 := Blk.past hT4 aS_3; have u_hi := own_hi u_4; clear x_3 a_3 aV_3 aS_3 b_3 cell_aV froz_aV lt_aV cell_aS froz_aS lt_aS hT4 hX4 hb4; have cell_aV := aV_4.cell; have froz_aV := aV_4.frozen; have lt_aV := aV_4.lt; have cell_aS := aS_4.cell; have froz_aS := aS_4.frozen; have lt_aS := aS_4.lt))
    clear a_4
    go_wp2_with fail
    refine calls_forget0 (W := w4) ?_ ?_
    (focus (repeat (first | (with_reducible exact Below.refl _ _) | (with_reducible refine Below.trans ?_ (Below.mono (by assumption) (by first | omega | (simp; done) | (simp; omega) | (simp [*]; done)))) | (with_reducible refine Below.alloc ?_ (by first | omega | (simp; done) | (simp; omega) | (simp [*]; done)) _) | (with_reducible refine Below.setCell ?_ (by first | omega | (simp; done) | (simp; omega) | (simp [*]; done)) _) | (with_reducible refine Below.drew ?_))))
    intro X5 hX5
    have sX5 := hX5.size
    refine (toSealed_any _ _ _ _ _ _ ((cells_below x_4 hX5 (by omega)).more (by omega)) h1).mono ?_
    rintro e w5 ⟨Ay, rfl, y_5, hb5⟩
    have s5 := hb5.size
    have hT5 := hX5.trans (hb5.mono sX5)
    have b_5 := b_4.trans (hT5.mono (by omega))
    have x_5 := cells_below x_4 hT5 (by omega)
    have u_5 := own_below u_4 hT5
    have aV_5 := Blk.past hT5 aV_4
    have aS_5 := Blk.past hT5 aS_4
    have y_hi := own_hi y_5
    clear x_4 u_4 aV_4 aS_4 b_4 cell_aV froz_aV lt_aV cell_aS froz_aS lt_aS hT5 hX5 hb5
    have cell_aV := aV_5.cell
    have froz_aV := aV_5.frozen
    have lt_aV := aV_5.lt
    have cell_aS := aS_5.cell
    have froz_aS := aS_5.frozen
    have lt_aS := aS_5.lt
    go_wp2_with fail
    refine wp_forget1 (w0 := w5) (B := w5.heap.size) (b0 := w5.heap.size) (t0 := 49) (c0 := #[.int .i64 m, .slice Ay xs.length xs.length, .int .i64 t]) ?_ ?_ ?_
    (focus (first | ((repeat (first | (with_reducible assumption) | (with_reducible apply Blk.drew) | (with_reducible apply Blk.new; first | rfl | (simp; done)) | (with_reducible apply Blk.alloc) | (with_reducible apply Blk.set_) | (with_reducible apply Blk.past; focus assumption) | (with_reducible apply Blk.far; focus (first | (simp; done) | (simp; omega) | (dsimp only; omega))))); done) | (apply Blk.cast; (case h => (repeat (first | (with_reducible assumption) | (with_reducible apply Blk.drew) | (with_reducible apply Blk.new; first | rfl | (simp; done)) | (with_reducible apply Blk.alloc) | (with_reducible apply Blk.set_) | (with_reducible apply Blk.past; focus assumption) | (with_reducible apply Blk.far; focus (first | (simp; done) | (simp; omega) | (dsimp only; omega)))))); (case e => rfl))))
    (focus (repeat (first | (with_reducible exact Below.refl _ _) | (with_reducible refine Below.trans ?_ (Below.mono (by assumption) (by first | omega | (simp; done) | (simp; omega) | (simp [*]; done)))) | (with_reducible refine Below.alloc ?_ (by first | omega | (simp; done) | (simp; omega) | (simp [*]; done)) _) | (with_reducible refine Below.setCell ?_ (by first | omega | (simp; done) | (simp; omega) | (simp [*]; done)) _) | (with_reducible refine Below.drew ?_))))
    intro w6 x1_6 hX6
    have sX6 := hX6.size
    have x1_lt := x1_6.lt
    have b_6 := b_5.trans (hX6.mono (by omega))
    have x_6 := cells_below x_5 hX6 (by omega)
    have u_6 := own_below u_5 hX6
    have y_6 := own_below y_5 hX6
    have aV_6 := Blk.past hX6 aV_5
    have aS_6 := Blk.past hX6 aS_5
    clear x_5 u_5 y_5 aV_5 aS_5 b_5 hX6 cell_aV froz_aV lt_aV cell_aS froz_aS lt_aS
    have cell_aV := aV_6.cell
    have froz_aV := aV_6.frozen
    have lt_aV := aV_6.lt
    have cell_aS := aS_6.cell
    have froz_aS := aS_6.frozen
    have lt_aS := aS_6.lt
    have cell_x1 := x1_6.cell
    have froz_x1 := x1_6.frozen
    have lt_x1 := x1_6.lt
    go_wp2_with fail
    go_region_held3 (fun w' => w'.cell? ⟨w.heap.size, 0, none⟩ = some (.int .i64 k) ∧ w'.cell? ⟨w.heap.size, 1, none⟩ = some (.int .i64 n) ∧ w'.cell? ⟨w.heap.size + 1, 0, none⟩ = some (.int .i64 m) ∧ w'.cell? ⟨w.heap.size + 1, 1, none⟩ = some (.slice A xs.length c) ∧ w'.cell? ⟨w.heap.size + 1, 2, none⟩ = some (.int .i64 t) ∧ w'.cell? ⟨w5.heap.size, 0, none⟩ = some (.int .i64 m) ∧ w'.cell? ⟨w5.heap.size, 1, none⟩ = some (.slice Ay xs.length xs.length) ∧ w'.cell? ⟨w5.heap.size, 2, none⟩ = some (.int .i64 t)) (exact ⟨(Blk.cell (t := 58) (cs := #[.int .i64 k, .int .i64 n]) (by repeat (first | (with_reducible assumption) | (with_reducible apply Blk.drew) | (with_reducible apply Blk.new; first | rfl | (simp; done)) | (with_reducible apply Blk.alloc) | (with_reducible apply Blk.set_) | (with_reducible apply Blk.past; focus assumption) | (with_reducible apply Blk.far; focus (first | (simp; done) | (simp; omega) | (dsimp only; omega))))) 0), (Blk.cell (t := 58) (cs := #[.int .i64 k, .int .i64 n]) (by repeat (first | (with_reducible assumption) | (with_reducible apply Blk.drew) | (with_reducible apply Blk.new; first | rfl | (simp; done)) | (with_reducible apply Blk.alloc) | (with_reducible apply Blk.set_) | (with_reducible apply Blk.past; focus assumption) | (with_reducible apply Blk.far; focus (first | (simp; done) | (simp; omega) | (dsimp only; omega))))) 1), (Blk.cell (t := 59) (cs := #[.int .i64 m, .slice A xs.length c, .int .i64 t]) (by repeat (first | (with_reducible assumption) | (with_reducible apply Blk.drew) | (with_reducible apply Blk.new; first | rfl | (simp; done)) | (with_reducible apply Blk.alloc) | (with_reducible apply Blk.set_) | (with_reducible apply Blk.past; focus assumption) | (with_reducible apply Blk.far; focus (first | (simp; done) | (simp; omega) | (dsimp only; omega))))) 0), (Blk.cell (t := 59) (cs := #[.int .i64 m, .slice A xs.length c, .int .i64 t]) (by repeat (first | (with_reducible assumption) | (with_reducible apply Blk.drew) | (with_reducible apply Blk.new; first | rfl | (simp; done)) | (with_reducible apply Blk.alloc) | (with_reducible apply Blk.set_) | (with_reducible apply Blk.past; focus assumption) | (with_reducible apply Blk.far; focus (first | (simp; done) | (simp; omega) | (dsimp only; omega))))) 1), (Blk.cell (t := 59) (cs := #[.int .i64 m, .slice A xs.length c, .int .i64 t]) (by repeat (first | (with_reducible assumption) | (with_reducible apply Blk.drew) | (with_reducible apply Blk.new; first | rfl | (simp; done)) | (with_reducible apply Blk.alloc) | (with_reducible apply Blk.set_) | (with_reducible apply Blk.past; focus assumption) | (with_reducible apply Blk.far; focus (first | (simp; done) | (simp; omega) | (dsimp only; omega))))) 2), (Blk.cell (t := 49) (cs := #[.int .i64 m, .slice Ay xs.length xs.length, .int .i64 t]) (by repeat (first | (with_reducible assumption) | (with_reducible apply Blk.drew) | (with_reducible apply Blk.new; first | rfl | (simp; done)) | (with_reducible apply Blk.alloc) | (with_reducible apply Blk.set_) | (with_reducible apply Blk.past; focus assumption) | (with_reducible apply Blk.far; focus (first | (simp; done) | (simp; omega) | (dsimp only; omega))))) 0), (Blk.cell (t := 49) (cs := #[.int .i64 m, .slice Ay xs.length xs.length, .int .i64 t]) (by repeat (first | (with_reducible assumption) | (with_reducible apply Blk.drew) | (with_reducible apply Blk.new; first | rfl | (simp; done)) | (with_reducible apply Blk.alloc) | (with_reducible apply Blk.set_) | (with_reducible apply Blk.past; focus assumption) | (with_reducible apply Blk.far; focus (first | (simp; done) | (simp; omega) | (dsimp only; omega))))) 1), (Blk.cell (t := 49) (cs := #[.int .i64 m, .slice Ay xs.length xs.length, .int .i64 t]) (by repeat (first | (with_reducible assumption) | (with_reducible apply Blk.drew) | (with_reducible apply Blk.new; first | rfl | (simp; done)) | (with_reducible apply Blk.alloc) | (with_reducible apply Blk.set_) | (with_reducible apply Blk.past; focus assumption) | (with_reducible apply Blk.far; focus (first | (simp; done) | (simp; omega) | (dsimp only; omega))))) 2)⟩) (first | (go_at_call 35; refine calls_forget0 (W := w6) ?_ ?_; (focus (repeat (first | (with_reducible exact Below.refl _ _) | (with_reducible refine Below.trans ?_ (Below.mono (by assumption) (by first | omega | (simp; done) | (simp; omega) | (simp [*]; done)))) | (with_reducible refine Below.alloc ?_ (by first | omega | (simp; done) | (simp; omega) | (simp [*]; done)) _) | (with_reducible refine Below.setCell ?_ (by first | omega | (simp; done) | (simp; omega) | (simp [*]; done)) _) | (with_reducible refine Below.drew ?_)))); intro X7 hX7; have sX7 := hX7.size; refine (toVault_any _ _ _).mono ?_; rintro e w7 ⟨rfl, hb7⟩; have s7 := hb7.size; have hT7 := hX7.trans (hb7.mono sX7); have b_7 := b_6.trans (hT7.mono (by omega)); have x_7 := cells_below x_6 hT7 (by omega); have u_7 := own_below u_6 hT7; have y_7 := own_below y_6 hT7; have aV_7 := Blk.past hT7 aV_6; have aS_7 := Blk.past hT7 aS_6; have x1_7 := Blk.past hT7 x1_6; clear x_6 u_6 y_6 aV_6 aS_6 x1_6 b_6 cell_aV froz_aV lt_aV cell_aS froz_aS lt_aS cell_x1 froz_x1 lt_x1 hT7 hX7 hb7; have cell_aV := aV_7.cell; have froz_aV := aV_7.frozen; have lt_aV := aV_7.lt; have cell_aS := aS_7.cell; have froz_aS := aS_7.frozen; have lt_aS := aS_7.lt; have cell_x1 := x1_7.cell; have froz_x1 := x1_7.frozen; have lt_x1 := x1_7.lt) | (go_at_call 26; refine calls_forget0 (W := w7) ?_ ?_; (focus (repeat (first | (with_reducible exact Below.refl _ _) | (with_reducible refine Below.trans ?_ (Below.mono (by assumption) (by first | omega | (simp; done) | (simp; omega) | (simp [*]; done)))) | (with_reducible refine Below.alloc ?_ (by first | omega | (simp; done) | (simp; omega) | (simp [*]; done)) _) | (with_reducible refine Below.setCell ?_ (by first | omega | (simp; done) | (simp; omega) | (simp [*]; done)) _) | (with_reducible refine Below.drew ?_)))); intro X8 hX8; have sX8 := hX8.size; refine (iLoad _ _ _ _ _ _ _ _ (Cells.of_own (own_below y_7 hX8)) (by omega)).mono ?_; rintro e w8 ⟨Ag, cg, rfl, g_8, hb8⟩; have s8 := hb8.size; have hT8 := hX8.trans (hb8.mono sX8); have b_8 := b_7.trans (hT8.mono (by omega)); have x_8 := cells_below x_7 hT8 (by omega); have u_8 := own_below u_7 hT8; have y_8 := own_below y_7 hT8; have aV_8 := Blk.past hT8 aV_7; have aS_8 := Blk.past hT8 aS_7; have x1_8 := Blk.past hT8 x1_7; have g_hi := own_hi g_8; clear x_7 u_7 y_7 aV_7 aS_7 x1_7 b_7 cell_aV froz_aV lt_aV cell_aS froz_aS lt_aS cell_x1 froz_x1 lt_x1 hT8 hX8 hb8; have cell_aV := aV_8.cell; have froz_aV := aV_8.frozen; have lt_aV := aV_8.lt; have cell_aS := aS_8.cell; have froz_aS := aS_8.frozen; have lt_aS := aS_8.lt; have cell_x1 := x1_8.cell; have froz_x1 := x1_8.frozen; have lt_x1 := x1_8.lt))
    go_wp2_with fail
    refine calls_forget0 (W := w8) ?_ ?_
    (focus (repeat (first | (with_reducible exact Below.refl _ _) | (with_reducible refine Below.trans ?_ (Below.mono (by assumption) (by first | omega | (simp; done) | (simp; omega) | (simp [*]; done)))) | (with_reducible refine Below.alloc ?_ (by first | omega | (simp; done) | (simp; omega) | (simp [*]; done)) _) | (with_reducible refine Below.setCell ?_ (by first | omega | (simp; done) | (simp; omega) | (simp [*]; done)) _) | (with_reducible refine Below.drew ?_))))
    intro X9 hX9
    have sX9 := hX9.size
    refine (eqIntS_same _ _ _ _ _ _ (Cells.of_own (own_below g_8 hX9)) (Cells.of_own (own_below u_8 hX9)) hl).mono ?_
    rintro e w9 ⟨rfl, hb9⟩
    have s9 := hb9.size
    have hT9 := hX9.trans (hb9.mono sX9)
    have b_9 := b_8.trans (hT9.mono (by omega))
    have x_9 := cells_below x_8 hT9 (by omega)
    have u_9 := own_below u_8 hT9
    have y_9 := own_below y_8 hT9
    have g_9 := own_below g_8 hT9
    have aV_9 := Blk.past hT9 aV_8
    have aS_9 := Blk.past hT9 aS_8
    have x1_9 := Blk.past hT9 x1_8
    clear x_8 u_8 y_8 g_8 aV_8 aS_8 x1_8 b_8 cell_aV froz_aV lt_aV cell_aS froz_aS lt_aS cell_x1 froz_x1 lt_x1 hT9 hX9 hb9
    have cell_aV := aV_9.cell
    have froz_aV := aV_9.frozen
    have lt_aV := aV_9.lt
    have cell_aS := aS_9.cell
    have froz_aS := aS_9.frozen
    have lt_aS := aS_9.lt
    have cell_x1 := x1_9.cell
    have froz_x1 := x1_9.frozen
    have lt_x1 := x1_9.lt
    go_wp2_with fail
    go_region_held3 (fun w' => w'.cell? ⟨w.heap.size, 0, none⟩ = some (.int .i64 k) ∧ w'.cell? ⟨w.heap.size, 1, none⟩ = some (.int .i64 n) ∧ w'.cell? ⟨w.heap.size + 1, 0, none⟩ = some (.int .i64 m) ∧ w'.cell? ⟨w.heap.size + 1, 1, none⟩ = some (.slice A xs.length c) ∧ w'.cell? ⟨w.heap.size + 1, 2, none⟩ = some (.int .i64 t) ∧ w'.cell? ⟨w5.heap.size, 0, none⟩ = some (.int .i64 m) ∧ w'.cell? ⟨w5.heap.size, 1, none⟩ = some (.slice Ay xs.length xs.length) ∧ w'.cell? ⟨w5.heap.size, 2, none⟩ = some (.int .i64 t)) (exact ⟨(Blk.cell (t := 58) (cs := #[.int .i64 k, .int .i64 n]) (by repeat (first | (with_reducible assumption) | (with_reducible apply Blk.drew) | (with_reducible apply Blk.new; first | rfl | (simp; done)) | (with_reducible apply Blk.alloc) | (with_reducible apply Blk.set_) | (with_reducible apply Blk.past; focus assumption) | (with_reducible apply Blk.far; focus (first | (simp; done) | (simp; omega) | (dsimp only; omega))))) 0), (Blk.cell (t := 58) (cs := #[.int .i64 k, .int .i64 n]) (by repeat (first | (with_reducible assumption) | (with_reducible apply Blk.drew) | (with_reducible apply Blk.new; first | rfl | (simp; done)) | (with_reducible apply Blk.alloc) | (with_reducible apply Blk.set_) | (with_reducible apply Blk.past; focus assumption) | (with_reducible apply Blk.far; focus (first | (simp; done) | (simp; omega) | (dsimp only; omega))))) 1), (Blk.cell (t := 59) (cs := #[.int .i64 m, .slice A xs.length c, .int .i64 t]) (by repeat (first | (with_reducible assumption) | (with_reducible apply Blk.drew) | (with_reducible apply Blk.new; first | rfl | (simp; done)) | (with_reducible apply Blk.alloc) | (with_reducible apply Blk.set_) | (with_reducible apply Blk.past; focus assumption) | (with_reducible apply Blk.far; focus (first | (simp; done) | (simp; omega) | (dsimp only; omega))))) 0), (Blk.cell (t := 59) (cs := #[.int .i64 m, .slice A xs.length c, .int .i64 t]) (by repeat (first | (with_reducible assumption) | (with_reducible apply Blk.drew) | (with_reducible apply Blk.new; first | rfl | (simp; done)) | (with_reducible apply Blk.alloc) | (with_reducible apply Blk.set_) | (with_reducible apply Blk.past; focus assumption) | (with_reducible apply Blk.far; focus (first | (simp; done) | (simp; omega) | (dsimp only; omega))))) 1), (Blk.cell (t := 59) (cs := #[.int .i64 m, .slice A xs.length c, .int .i64 t]) (by repeat (first | (with_reducible assumption) | (with_reducible apply Blk.drew) | (with_reducible apply Blk.new; first | rfl | (simp; done)) | (with_reducible apply Blk.alloc) | (with_reducible apply Blk.set_) | (with_reducible apply Blk.past; focus assumption) | (with_reducible apply Blk.far; focus (first | (simp; done) | (simp; omega) | (dsimp only; omega))))) 2), (Blk.cell (t := 49) (cs := #[.int .i64 m, .slice Ay xs.length xs.length, .int .i64 t]) (by repeat (first | (with_reducible assumption) | (with_reducible apply Blk.drew) | (with_reducible apply Blk.new; first | rfl | (simp; done)) | (with_reducible apply Blk.alloc) | (with_reducible apply Blk.set_) | (with_reducible apply Blk.past; focus assumption) | (with_reducible apply Blk.far; focus (first | (simp; done) | (simp; omega) | (dsimp only; omega))))) 0), (Blk.cell (t := 49) (cs := #[.int .i64 m, .slice Ay xs.length xs.length, .int .i64 t]) (by repeat (first | (with_reducible assumption) | (with_reducible apply Blk.drew) | (with_reducible apply Blk.new; first | rfl | (simp; done)) | (with_reducible apply Blk.alloc) | (with_reducible apply Blk.set_) | (with_reducible apply Blk.past; focus assumption) | (with_reducible apply Blk.far; focus (first | (simp; done) | (simp; omega) | (dsimp only; omega))))) 1), (Blk.cell (t := 49) (cs := #[.int .i64 m, .slice Ay xs.length xs.length, .int .i64 t]) (by repeat (first | (with_reducible assumption) | (with_reducible apply Blk.drew) | (with_reducible apply Blk.new; first | rfl | (simp; done)) | (with_reducible apply Blk.alloc) | (with_reducible apply Blk.set_) | (with_reducible apply Blk.past; focus assumption) | (with_reducible apply Blk.far; focus (first | (simp; done) | (simp; omega) | (dsimp only; omega))))) 2)⟩) (first | (go_at_call 36; refine calls_forget0 (W := w9) ?_ ?_; (focus (repeat (first | (with_reducible exact Below.refl _ _) | (with_reducible refine Below.trans ?_ (Below.mono (by assumption) (by first | omega | (simp; done) | (simp; omega) | (simp [*]; done)))) | (with_reducible refine Below.alloc ?_ (by first | omega | (simp; done) | (simp; omega) | (simp [*]; done)) _) | (with_reducible refine Below.setCell ?_ (by first | omega | (simp; done) | (simp; omega) | (simp [*]; done)) _) | (with_reducible refine Below.drew ?_)))); intro X10 hX10; have sX10 := hX10.size; refine (toSealed_any _ _ _ _ _ _ ((cells_below x_9 hX10 (by omega)).more (by omega)) h1).mono ?_; rintro e w10 ⟨Az, rfl, z_10, hb10⟩; have s10 := hb10.size; have hT10 := hX10.trans (hb10.mono sX10); have b_10 := b_9.trans (hT10.mono (by omega)); have x_10 := cells_below x_9 hT10 (by omega); have u_10 := own_below u_9 hT10; have y_10 := own_below y_9 hT10; have g_10 := own_below g_9 hT10; have aV_10 := Blk.past hT10 aV_9; have aS_10 := Blk.past hT10 aS_9; have x1_10 := Blk.past hT10 x1_9; have z_hi := own_hi z_10; clear x_9 u_9 y_9 g_9 aV_9 aS_9 x1_9 b_9 cell_aV froz_aV lt_aV cell_aS froz_aS lt_aS cell_x1 froz_x1 lt_x1 hT10 hX10 hb10; have cell_aV := aV_10.cell; have froz_aV := aV_10.frozen; have lt_aV := aV_10.lt; have cell_aS := aS_10.cell; have froz_aS := aS_10.frozen; have lt_aS := aS_10.lt; have cell_x1 := x1_10.cell; have froz_x1 := x1_10.frozen; have lt_x1 := x1_10.lt) | (go_at_call 37; refine calls_forget0 (W := w10) ?_ ?_; (focus (repeat (first | (with_reducible exact Below.refl _ _) | (with_reducible refine Below.trans ?_ (Below.mono (by assumption) (by first | omega | (simp; done) | (simp; omega) | (simp [*]; done)))) | (with_reducible refine Below.alloc ?_ (by first | omega | (simp; done) | (simp; omega) | (simp [*]; done)) _) | (with_reducible refine Below.setCell ?_ (by first | omega | (simp; done) | (simp; omega) | (simp [*]; done)) _) | (with_reducible refine Below.drew ?_)))); intro X11 hX11; have sX11 := hX11.size; refine (eqSealed_same _ _ _ _ _ _ _ _ (Cells.of_own (own_below y_10 hX11)) (Cells.of_own (own_below z_10 hX11)) (by omega)).mono ?_; rintro e w11 ⟨rfl, hb11⟩; have s11 := hb11.size; have hT11 := hX11.trans (hb11.mono sX11); have b_11 := b_10.trans (hT11.mono (by omega)); have x_11 := cells_below x_10 hT11 (by omega); have u_11 := own_below u_10 hT11; have y_11 := own_below y_10 hT11; have g_11 := own_below g_10 hT11; have z_11 := own_below z_10 hT11; have aV_11 := Blk.past hT11 aV_10; have aS_11 := Blk.past hT11 aS_10; have x1_11 := Blk.past hT11 x1_10; clear x_10 u_10 y_10 g_10 z_10 aV_10 aS_10 x1_10 b_10 cell_aV froz_aV lt_aV cell_aS froz_aS lt_aS cell_x1 froz_x1 lt_x1 hT11 hX11 hb11; have cell_aV := aV_11.cell; have froz_aV := aV_11.frozen; have lt_aV := aV_11.lt; have cell_aS := aS_11.cell; have froz_aS := aS_11.frozen; have lt_aS := aS_11.lt; have cell_x1 := x1_11.cell; have froz_x1 := x1_11.frozen; have lt_x1 := x1_11.lt))
    clear z_11
    go_wp2_with fail
    refine calls_forget0 (W := w11) ?_ ?_
    (focus (repeat (first | (with_reducible exact Below.refl _ _) | (with_reducible refine Below.trans ?_ (Below.mono (by assumption) (by first | omega | (simp; done) | (simp; omega) | (simp [*]; done)))) | (with_reducible refine Below.alloc ?_ (by first | omega | (simp; done) | (simp; omega) | (simp [*]; done)) _) | (with_reducible refine Below.setCell ?_ (by first | omega | (simp; done) | (simp; omega) | (simp [*]; done)) _) | (with_reducible refine Below.drew ?_))))
    intro X12 hX12
    have sX12 := hX12.size
    refine (markSealed_any _ _ _ _ _ _ _ _ _ (own_below y_11 hX12) (by omega) (by omega) (by omega)).mono ?_
    rintro e w12 ⟨rfl, y_12, hg12⟩
    have s12 := hg12.size
    have b_12 := below_mark (b_11.trans (hX12.mono (by omega))) y_12 hg12 (by omega) (by omega)
    have x_12 := cells_apart (cells_below x_11 hX12 (by omega)) y_12 hg12 (by omega) (by omega)
    have u_12 := own_apart (own_below u_11 hX12) u_hi y_12 y_hi hg12 (by omega)
    have g_12 := own_apart (own_below g_11 hX12) g_hi y_12 y_hi hg12 (by omega)
    have aV_12 := blk_apart (Blk.past hX12 aV_11) y_12 y_hi hg12 (by omega)
    have aS_12 := blk_apart (Blk.past hX12 aS_11) y_12 y_hi hg12 (by omega)
    have x1_12 := blk_apart (Blk.past hX12 x1_11) y_12 y_hi hg12 (by omega)
    clear y_11
    clear x_11 u_11 g_11 aV_11 aS_11 x1_11 b_11 cell_aV froz_aV lt_aV cell_aS froz_aS lt_aS cell_x1 froz_x1 lt_x1 hX12 hg12
    have cell_aV := aV_12.cell
    have froz_aV := aV_12.frozen
    have lt_aV := aV_12.lt
    have cell_aS := aS_12.cell
    have froz_aS := aS_12.frozen
    have lt_aS := aS_12.lt
    have cell_x1 := x1_12.cell
    have froz_x1 := x1_12.frozen
    have lt_x1 := x1_12.lt
    go_wp2_with fail
    refine calls_forget0 (W := w12) ?_ ?_
    (focus (repeat (first | (with_reducible exact Below.refl _ _) | (with_reducible refine Below.trans ?_ (Below.mono (by assumption) (by first | omega | (simp; done) | (simp; omega) | (simp [*]; done)))) | (with_reducible refine Below.alloc ?_ (by first | omega | (simp; done) | (simp; omega) | (simp [*]; done)) _) | (with_reducible refine Below.setCell ?_ (by first | omega | (simp; done) | (simp; omega) | (simp [*]; done)) _) | (with_reducible refine Below.drew ?_))))
    intro X13 hX13
    have sX13 := hX13.size
    refine (eqIntS_same _ _ _ _ _ _ (Cells.of_own (own_below g_12 hX13)) (Cells.of_own (own_below u_12 hX13)) hl).mono ?_
    rintro e w13 ⟨rfl, hb13⟩
    have s13 := hb13.size
    have hT13 := hX13.trans (hb13.mono sX13)
    have b_13 := b_12.trans (hT13.mono (by omega))
    have x_13 := cells_below x_12 hT13 (by omega)
    have u_13 := own_below u_12 hT13
    have y_13 := own_below y_12 hT13
    have g_13 := own_below g_12 hT13
    have aV_13 := Blk.past hT13 aV_12
    have aS_13 := Blk.past hT13 aS_12
    have x1_13 := Blk.past hT13 x1_12
    clear x_12 u_12 y_12 g_12 aV_12 aS_12 x1_12 b_12 cell_aV froz_aV lt_aV cell_aS froz_aS lt_aS cell_x1 froz_x1 lt_x1 hT13 hX13 hb13
    have cell_aV := aV_13.cell
    have froz_aV := aV_13.frozen
    have lt_aV := aV_13.lt
    have cell_aS := aS_13.cell
    have froz_aS := aS_13.frozen
    have lt_aS := aS_13.lt
    have cell_x1 := x1_13.cell
    have froz_x1 := x1_13.frozen
    have lt_x1 := x1_13.lt
    clear y_13
    clear cell_x1 froz_x1 lt_x1
    clear x1_13
    go_wp2_with fail
    refine calls_forget0 (W := w13) ?_ ?_
    (focus (repeat (first | (with_reducible exact Below.refl _ _) | (with_reducible refine Below.trans ?_ (Below.mono (by assumption) (by first | omega | (simp; done) | (simp; omega) | (simp [*]; done)))) | (with_reducible refine Below.alloc ?_ (by first | omega | (simp; done) | (simp; omega) | (simp [*]; done)) _) | (with_reducible refine Below.setCell ?_ (by first | omega | (simp; done) | (simp; omega) | (simp [*]; done)) _) | (with_reducible refine Below.drew ?_))))
    intro X14 hX14
    have sX14 := hX14.size
    refine (markIntS_any _ _ _ _ _ _ _ (own_below g_13 hX14) hl (by omega) (by omega)).mono ?_
    rintro e w14 ⟨rfl, g_14, hg14⟩
    have s14 := hg14.size
    have b_14 := below_mark (b_13.trans (hX14.mono (by omega))) g_14 hg14 (by omega) (by omega)
    have x_14 := cells_apart (cells_below x_13 hX14 (by omega)) g_14 hg14 (by omega) (by omega)
    have u_14 := own_apart (own_below u_13 hX14) u_hi g_14 g_hi hg14 (by omega)
    have aV_14 := blk_apart (Blk.past hX14 aV_13) g_14 g_hi hg14 (by omega)
    have aS_14 := blk_apart (Blk.past hX14 aS_13) g_14 g_hi hg14 (by omega)
    clear g_13
    clear x_13 u_13 aV_13 aS_13 b_13 cell_aV froz_aV lt_aV cell_aS froz_aS lt_aS hX14 hg14
    have cell_aV := aV_14.cell
    have froz_aV := aV_14.frozen
    have lt_aV := aV_14.lt
    have cell_aS := aS_14.cell
    have froz_aS := aS_14.frozen
    have lt_aS := aS_14.lt
    go_wp2_with fail
    refine calls_forget0 (W := w14) ?_ ?_
    (focus (repeat (first | (with_reducible exact Below.refl _ _) | (with_reducible refine Below.trans ?_ (Below.mono (by assumption) (by first | omega | (simp; done) | (simp; omega) | (simp [*]; done)))) | (with_reducible refine Below.alloc ?_ (by first | omega | (simp; done) | (simp; omega) | (simp [*]; done)) _) | (with_reducible refine Below.setCell ?_ (by first | omega | (simp; done) | (simp; omega) | (simp [*]; done)) _) | (with_reducible refine Below.drew ?_))))
    intro X15 hX15
    have sX15 := hX15.size
    refine (heldIntS_any _ _ _ _ _ (Cells.of_own (own_below g_14 hX15)) hl (by omega) (by omega)).mono ?_
    rintro e w' ⟨rfl, rfl⟩
    have b_15 := b_14.trans (hX15.mono (by omega))
    have x_15 := cells_below x_14 hX15 (by omega)
    have u_15 := own_below u_14 hX15
    have g_15 := own_below g_14 hX15
    have aV_15 := Blk.past hX15 aV_14
    have aS_15 := Blk.past hX15 aS_14
    clear x_14 u_14 g_14 aV_14 aS_14 b_14 cell_aV froz_aV lt_aV cell_aS froz_aS lt_aS hX15
    have cell_aV := aV_15.cell
    have froz_aV := aV_15.frozen
    have lt_aV := aV_15.lt
    have cell_aS := aS_15.cell
    have froz_aS := aS_15.frozen
    have lt_aS := aS_15.lt
    go_wp2_with fail
    go_region_held3 (fun w' => w'.cell? ⟨w.heap.size, 0, none⟩ = some (.int .i64 k) ∧ w'.cell? ⟨w.heap.size, 1, none⟩ = some (.int .i64 n) ∧ w'.cell? ⟨w.heap.size + 1, 0, none⟩ = some (.int .i64 m) ∧ w'.cell? ⟨w.heap.size + 1, 1, none⟩ = some (.slice A xs.length c) ∧ w'.cell? ⟨w.heap.size + 1, 2, none⟩ = some (.int .i64 t)) (exact ⟨(Blk.cell (t := 58) (cs := #[.int .i64 k, .int .i64 n]) (by repeat (first | (with_reducible assumption) | (with_reducible apply Blk.drew) | (with_reducible apply Blk.new; first | rfl | (simp; done)) | (with_reducible apply Blk.alloc) | (with_reducible apply Blk.set_) | (with_reducible apply Blk.past; focus assumption) | (with_reducible apply Blk.far; focus (first | (simp; done) | (simp; omega) | (dsimp only; omega))))) 0), (Blk.cell (t := 58) (cs := #[.int .i64 k, .int .i64 n]) (by repeat (first | (with_reducible assumption) | (with_reducible apply Blk.drew) | (with_reducible apply Blk.new; first | rfl | (simp; done)) | (with_reducible apply Blk.alloc) | (with_reducible apply Blk.set_) | (with_reducible apply Blk.past; focus assumption) | (with_reducible apply Blk.far; focus (first | (simp; done) | (simp; omega) | (dsimp only; omega))))) 1), (Blk.cell (t := 59) (cs := #[.int .i64 m, .slice A xs.length c, .int .i64 t]) (by repeat (first | (with_reducible assumption) | (with_reducible apply Blk.drew) | (with_reducible apply Blk.new; first | rfl | (simp; done)) | (with_reducible apply Blk.alloc) | (with_reducible apply Blk.set_) | (with_reducible apply Blk.past; focus assumption) | (with_reducible apply Blk.far; focus (first | (simp; done) | (simp; omega) | (dsimp only; omega))))) 0), (Blk.cell (t := 59) (cs := #[.int .i64 m, .slice A xs.length c, .int .i64 t]) (by repeat (first | (with_reducible assumption) | (with_reducible apply Blk.drew) | (with_reducible apply Blk.new; first | rfl | (simp; done)) | (with_reducible apply Blk.alloc) | (with_reducible apply Blk.set_) | (with_reducible apply Blk.past; focus assumption) | (with_reducible apply Blk.far; focus (first | (simp; done) | (simp; omega) | (dsimp only; omega))))) 1), (Blk.cell (t := 59) (cs := #[.int .i64 m, .slice A xs.length c, .int .i64 t]) (by repeat (first | (with_reducible assumption) | (with_reducible apply Blk.drew) | (with_reducible apply Blk.new; first | rfl | (simp; done)) | (with_reducible apply Blk.alloc) | (with_reducible apply Blk.set_) | (with_reducible apply Blk.past; focus assumption) | (with_reducible apply Blk.far; focus (first | (simp; done) | (simp; omega) | (dsimp only; omega))))) 2)⟩) (first | (go_at_call 35; refine calls_forget0 (W := X15) ?_ ?_; (focus (repeat (first | (with_reducible exact Below.refl _ _) | (with_reducible refine Below.trans ?_ (Below.mono (by assumption) (by first | omega | (simp; done) | (simp; omega) | (simp [*]; done)))) | (with_reducible refine Below.alloc ?_ (by first | omega | (simp; done) | (simp; omega) | (simp [*]; done)) _) | (with_reducible refine Below.setCell ?_ (by first | omega | (simp; done) | (simp; omega) | (simp [*]; done)) _) | (with_reducible refine Below.drew ?_)))); intro X16 hX16; have sX16 := hX16.size; refine (toVault_any _ _ _).mono ?_; rintro e w16 ⟨rfl, hb16⟩; have s16 := hb16.size; have hT16 := hX16.trans (hb16.mono sX16); have b_16 := b_15.trans (hT16.mono (by omega)); have x_16 := cells_below x_15 hT16 (by omega); have u_16 := own_below u_15 hT16; have g_16 := own_below g_15 hT16; have aV_16 := Blk.past hT16 aV_15; have aS_16 := Blk.past hT16 aS_15; clear x_15 u_15 g_15 aV_15 aS_15 b_15 cell_aV froz_aV lt_aV cell_aS froz_aS lt_aS hT16 hX16 hb16; have cell_aV := aV_16.cell; have froz_aV := aV_16.frozen; have lt_aV := aV_16.lt; have cell_aS := aS_16.cell; have froz_aS := aS_16.frozen; have lt_aS := aS_16.lt) | (go_at_call 36; refine calls_forget0 (W := w16) ?_ ?_; (focus (repeat (first | (with_reducible exact Below.refl _ _) | (with_reducible refine Below.trans ?_ (Below.mono (by assumption) (by first | omega | (simp; done) | (simp; omega) | (simp [*]; done)))) | (with_reducible refine Below.alloc ?_ (by first | omega | (simp; done) | (simp; omega) | (simp [*]; done)) _) | (with_reducible refine Below.setCell ?_ (by first | omega | (simp; done) | (simp; omega) | (simp [*]; done)) _) | (with_reducible refine Below.drew ?_)))); intro X17 hX17; have sX17 := hX17.size; refine (toSealed_any _ _ _ _ _ _ ((cells_below x_16 hX17 (by omega)).more (by omega)) h1).mono ?_; rintro e w17 ⟨Az, rfl, z_17, hb17⟩; have s17 := hb17.size; have hT17 := hX17.trans (hb17.mono sX17); have b_17 := b_16.trans (hT17.mono (by omega)); have x_17 := cells_below x_16 hT17 (by omega); have u_17 := own_below u_16 hT17; have g_17 := own_below g_16 hT17; have aV_17 := Blk.past hT17 aV_16; have aS_17 := Blk.past hT17 aS_16; have z_hi := own_hi z_17; clear x_16 u_16 g_16 aV_16 aS_16 b_16 cell_aV froz_aV lt_aV cell_aS froz_aS lt_aS hT17 hX17 hb17; have cell_aV := aV_17.cell; have froz_aV := aV_17.frozen; have lt_aV := aV_17.lt; have cell_aS := aS_17.cell; have froz_aS := aS_17.frozen; have lt_aS := aS_17.lt) | (go_at_call 26; refine calls_forget0 (W := w17) ?_ ?_; (focus (repeat (first | (with_reducible exact Below.refl _ _) | (with_reducible refine Below.trans ?_ (Below.mono (by assumption) (by first | omega | (simp; done) | (simp; omega) | (simp [*]; done)))) | (with_reducible refine Below.alloc ?_ (by first | omega | (simp; done) | (simp; omega) | (simp [*]; done)) _) | (with_reducible refine Below.setCell ?_ (by first | omega | (simp; done) | (simp; omega) | (simp [*]; done)) _) | (with_reducible refine Below.drew ?_)))); intro X18 hX18; have sX18 := hX18.size; refine (iLoad _ _ _ _ _ _ _ _ (Cells.of_own (own_below z_17 hX18)) (by omega)).mono ?_; rintro e w18 ⟨Ah, ch, rfl, h_18, hb18⟩; have s18 := hb18.size; have hT18 := hX18.trans (hb18.mono sX18); have b_18 := b_17.trans (hT18.mono (by omega)); have x_18 := cells_below x_17 hT18 (by omega); have u_18 := own_below u_17 hT18; have g_18 := own_below g_17 hT18; have z_18 := own_below z_17 hT18; have aV_18 := Blk.past hT18 aV_17; have aS_18 := Blk.past hT18 aS_17; have h_hi := own_hi h_18; clear x_17 u_17 g_17 z_17 aV_17 aS_17 b_17 cell_aV froz_aV lt_aV cell_aS froz_aS lt_aS hT18 hX18 hb18; have cell_aV := aV_18.cell; have froz_aV := aV_18.frozen; have lt_aV := aV_18.lt; have cell_aS := aS_18.cell; have froz_aS := aS_18.frozen; have lt_aS := aS_18.lt))
    go_wp2_with fail
    refine calls_forget0 (W := w18) ?_ ?_
    (focus (repeat (first | (with_reducible exact Below.refl _ _) | (with_reducible refine Below.trans ?_ (Below.mono (by assumption) (by first | omega | (simp; done) | (simp; omega) | (simp [*]; done)))) | (with_reducible refine Below.alloc ?_ (by first | omega | (simp; done) | (simp; omega) | (simp [*]; done)) _) | (with_reducible refine Below.setCell ?_ (by first | omega | (simp; done) | (simp; omega) | (simp [*]; done)) _) | (with_reducible refine Below.drew ?_))))
    intro X19 hX19
    have sX19 := hX19.size
    refine (eqIntS_same _ _ _ _ _ _ (Cells.of_own (own_below h_18 hX19)) (Cells.of_own (own_below u_18 hX19)) hl).mono ?_
    rintro e w19 ⟨rfl, hb19⟩
    have s19 := hb19.size
    have hT19 := hX19.trans (hb19.mono sX19)
    have b_19 := b_18.trans (hT19.mono (by omega))
    have x_19 := cells_below x_18 hT19 (by omega)
    have u_19 := own_below u_18 hT19
    have g_19 := own_below g_18 hT19
    have z_19 := own_below z_18 hT19
    have h_19 := own_below h_18 hT19
    have aV_19 := Blk.past hT19 aV_18
    have aS_19 := Blk.past hT19 aS_18
    clear x_18 u_18 g_18 z_18 h_18 aV_18 aS_18 b_18 cell_aV froz_aV lt_aV cell_aS froz_aS lt_aS hT19 hX19 hb19
    have cell_aV := aV_19.cell
    have froz_aV := aV_19.frozen
    have lt_aV := aV_19.lt
    have cell_aS := aS_19.cell
    have froz_aS := aS_19.frozen
    have lt_aS := aS_19.lt
    go_wp2_with fail
    refine calls_forget0 (W := w19) ?_ ?_
    (focus (repeat (first | (with_reducible exact Below.refl _ _) | (with_reducible refine Below.trans ?_ (Below.mono (by assumption) (by first | omega | (simp; done) | (simp; omega) | (simp [*]; done)))) | (with_reducible refine Below.alloc ?_ (by first | omega | (simp; done) | (simp; omega) | (simp [*]; done)) _) | (with_reducible refine Below.setCell ?_ (by first | omega | (simp; done) | (simp; omega) | (simp [*]; done)) _) | (with_reducible refine Below.drew ?_))))
    intro X20 hX20
    have sX20 := hX20.size
    refine (heldIntS_any _ _ _ _ _ (Cells.of_own (own_below g_19 hX20)) hl (by omega) (by omega)).mono ?_
    rintro e w' ⟨rfl, rfl⟩
    have b_20 := b_19.trans (hX20.mono (by omega))
    have x_20 := cells_below x_19 hX20 (by omega)
    have u_20 := own_below u_19 hX20
    have g_20 := own_below g_19 hX20
    have z_20 := own_below z_19 hX20
    have h_20 := own_below h_19 hX20
    have aV_20 := Blk.past hX20 aV_19
    have aS_20 := Blk.past hX20 aS_19
    clear x_19 u_19 g_19 z_19 h_19 aV_19 aS_19 b_19 cell_aV froz_aV lt_aV cell_aS froz_aS lt_aS hX20
    have cell_aV := aV_20.cell
    have froz_aV := aV_20.frozen
    have lt_aV := aV_20.lt
    have cell_aS := aS_20.cell
    have froz_aS := aS_20.frozen
    have lt_aS := aS_20.lt
    go_wp2
    go_ret
    refine ⟨rfl, b_20.trans ?_⟩
    repeat (first | (with_reducible exact Below.refl _ _) | (with_reducible refine Below.trans ?_ (Below.mono (by assumption) (by first | omega | (simp; done) | (simp; omega) | (simp [*]; done)))) | (with_reducible refine Below.alloc ?_ (by first | omega | (simp; done) | (simp; omega) | (simp [*]; done)) _) | (with_reducible refine Below.setCell ?_ (by first | omega | (simp; done) | (simp; omega) | (simp [*]; done)) _) | (with_reducible refine Below.drew ?_))
  · have hd : decide ((1048576 : Int) - (xs.length : Int) < 0) = true := by simp; omega
    have HD := hid hd
    clear hd
    go_enter Try.func9, Try.ntmps9
    have b_0 := (Below.refl w.heap.size w)
    have s_0 := b_0.size
    have x_0 := hx
    clear hx
    go_wp2_with fail
    refine calls_forget2 (W := w) (b0 := w.heap.size) (t0 := 58) (c0 := #[.int .i64 k, .int .i64 n]) (b1 := w.heap.size + 1) (t1 := 59) (c1 := #[.int .i64 m, .slice A xs.length c, .int .i64 t]) ?_ ?_ ?_ ?_
    (focus (first | ((repeat (first | (with_reducible assumption) | (with_reducible apply Blk.drew) | (with_reducible apply Blk.new; first | rfl | (simp; done)) | (with_reducible apply Blk.alloc) | (with_reducible apply Blk.set_) | (with_reducible apply Blk.past; focus assumption) | (with_reducible apply Blk.far; focus (first | (simp; done) | (simp; omega) | (dsimp only; omega))))); done) | (apply Blk.cast; (case h => (repeat (first | (with_reducible assumption) | (with_reducible apply Blk.drew) | (with_reducible apply Blk.new; first | rfl | (simp; done)) | (with_reducible apply Blk.alloc) | (with_reducible apply Blk.set_) | (with_reducible apply Blk.past; focus assumption) | (with_reducible apply Blk.far; focus (first | (simp; done) | (simp; omega) | (dsimp only; omega)))))); (case e => rfl))))
    (focus (first | ((repeat (first | (with_reducible assumption) | (with_reducible apply Blk.drew) | (with_reducible apply Blk.new; first | rfl | (simp; done)) | (with_reducible apply Blk.alloc) | (with_reducible apply Blk.set_) | (with_reducible apply Blk.past; focus assumption) | (with_reducible apply Blk.far; focus (first | (simp; done) | (simp; omega) | (dsimp only; omega))))); done) | (apply Blk.cast; (case h => (repeat (first | (with_reducible assumption) | (with_reducible apply Blk.drew) | (with_reducible apply Blk.new; first | rfl | (simp; done)) | (with_reducible apply Blk.alloc) | (with_reducible apply Blk.set_) | (with_reducible apply Blk.past; focus assumption) | (with_reducible apply Blk.far; focus (first | (simp; done) | (simp; omega) | (dsimp only; omega)))))); (case e => rfl))))
    (focus (repeat (first | (with_reducible exact Below.refl _ _) | (with_reducible refine Below.trans ?_ (Below.mono (by assumption) (by first | omega | (simp; done) | (simp; omega) | (simp [*]; done)))) | (with_reducible refine Below.alloc ?_ (by first | omega | (simp; done) | (simp; omega) | (simp [*]; done)) _) | (with_reducible refine Below.setCell ?_ (by first | omega | (simp; done) | (simp; omega) | (simp [*]; done)) _) | (with_reducible refine Below.drew ?_))))
    intro X1 aV_n aS_n hX1
    have sX1 := hX1.size
    have aV_lt := aV_n.lt
    have aS_lt := aS_n.lt
    refine (szSealed_any _ _ _ _ _ _ _ hn (by omega) (by omega)).mono ?_
    rintro e w1 ⟨rfl, hb1⟩
    have s1 := hb1.size
    have hT1 := hX1.trans (hb1.mono sX1)
    have b_1 := b_0.trans (hT1.mono (by omega))
    have x_1 := cells_below x_0 hT1 (by omega)
    have aV_1 := Blk.past hb1 aV_n
    have aS_1 := Blk.past hb1 aS_n
    clear x_0 aV_n aS_n b_0 hT1 hX1 hb1
    have cell_aV := aV_1.cell
    have froz_aV := aV_1.frozen
    have lt_aV := aV_1.lt
    have cell_aS := aS_1.cell
    have froz_aS := aS_1.frozen
    have lt_aS := aS_1.lt
    rw [HD.out, pick_yes]
    go_wp2
    go_ret
    refine ⟨rfl, b_1.trans ?_⟩
    repeat (first | (with_reducible exact Below.refl _ _) | (with_reducible refine Below.trans ?_ (Below.mono (by assumption) (by first | omega | (simp; done) | (simp; omega) | (simp [*]; done)))) | (with_reducible refine Below.alloc ?_ (by first | omega | (simp; done) | (simp; omega) | (simp [*]; done)) _) | (with_reducible refine Below.setCell ?_ (by first | omega | (simp; done) | (simp; omega) | (simp [*]; done)) _) | (with_reducible refine Below.drew ?_))
set_option maxRecDepth 100000 in
theorem lifted (os : Os) (started : os.Started) (H : Type) (enc : TypeId × Value → H) :
    ReturnsInHanded {} Try.checked os 9 .any (Rows.fnExactLoadSpec.pre6 enc Try.prog Try.f9 Rows.fnExactLoadRow.domain false) (Rows.fnExactLoadSpec.post enc Try.prog Try.f9 false true false false) := by
  refine returnsInHanded_of_change (C := Try.checked) own started (by kernel_rfl) Try.func9
    (ChangeSpec.witness6 (enc := enc) (C := Try.checked) false ⟨#[], #[.agg #[.int .i64 0, .int .i64 0], .agg #[.int .i64 0, .slice none 0 0, .int .i64 0]], []⟩ 8 (by kernel_rfl) (by kernel_rfl) (by kernel_rfl) (by kernel_rfl)) ?_
  intro W base args ds gs before hval0 hW _ _
  have hval : ∀ (j : Nat) t v, Try.f9.params[j]? = some t → args[j]? = some v → Value.okWide Try.prog W .any base t v := hval0
  have hW' := hW
  obtain ⟨p, q, hA0, hV, rfl, _, _⟩ := hW
  have hA : DataW.TrodAll enc Try.prog W 0 (fun _ => true) true Try.f9.params.toList args.toList ds p := hA0
  rw [Try.params9] at hA hval
  obtain ⟨v0, vs0, d0, ds0, p0, q0, hargs, rfl, rfl, h0, r0⟩ := trodAll_cons hA
  obtain ⟨v1, vs1, d1, ds1, p1, q1, rfl, rfl, rfl, h1, r1⟩ := trodAll_cons r0
  obtain ⟨rfl, rfl, rfl⟩ := trodAll_nil r1
  obtain rfl : args = #[v0, v1] := by cases args; simp_all
  obtain ⟨rfl, rfl⟩ := trodVars_none hV
  obtain ⟨c0a, c0b, y0a, y0b, _, rfl, hd0, _, hy0a, hy0b⟩ := Joins.open_agg2 Try.underlying58 (by kernel_rfl) (by kernel_rfl : Try.prog.cellsOf 58 = 2) (hval 0 58 v0 rfl rfl) h0
  obtain ⟨a0a, e0a, _, wa0a⟩ := DataW.trod_int Try.underlying3 hy0a
  obtain rfl : c0a = .int .i64 a0a := by simpa using e0a
  obtain ⟨a0b, e0b, _, wa0b⟩ := DataW.trod_int Try.underlying3 hy0b
  obtain rfl : c0b = .int .i64 a0b := by simpa using e0b
  obtain ⟨c1a, c1b, c1c, y1a, y1b, y1c, _, rfl, hd1, hp1, hy1a, hy1b, hy1c⟩ := Joins.open_agg3 Try.underlying59 (by kernel_rfl) (by kernel_rfl : Try.prog.cellsOf 59 = 3) (hval 1 59 v1 rfl rfl) h1
  obtain ⟨a1a, e1a, _, wa1a⟩ := DataW.trod_int Try.underlying3 hy1a
  obtain rfl : c1a = .int .i64 a1a := by simpa using e1a
  obtain ⟨A1b, s1b, xs1b, rfl, hc1b, hw1b, hn1b⟩ := view_intsF Try.underlying24 Try.underlying3 (by kernel_rfl) hy1b (fun x hx => hW'.lt x (by simp [hp1, hx]))
  obtain ⟨a1c, e1c, _, wa1c⟩ := DataW.trod_int Try.underlying3 hy1c
  obtain rfl : c1c = .int .i64 a1c := by simpa using e1c
  refine (walk a0a a0b a1a A1b s1b xs1b a1c W hc1b hn1b).mono fun e W' ⟨he, hb⟩ => ?_
  subst he
  exact ⟨_, rfl, law_post rfl (by kernel_rfl) (by kernel_rfl) rfl Try.underlying4 hW' rfl rfl rfl hb⟩
theorem closed : joinedFacts Try.prog 9 Try.f9 Rows.fnExactLoadSpec Rows.fnExactLoadRow = true := by
  unfold joinedFacts
  rw [makeIs, mayIs, finalsIs]
  kernel_rfl
theorem over : Rows.fnExactLoadRow.holds Try.pinned (OpenSpec.ofChange Rows.fnExactLoadSpec) :=
  OpenClaim.holds_of_wide 9 Try.f9 rfl rfl rfl rfl rfl rfl rfl ⟨rfl, rfl, rfl, rfl, rfl⟩ rfl rfl rfl rfl rfl (by kernel_rfl) Try.func9 closed
    (of_decide_eq_true (by kernel_rfl)) (by unfold Func.isWrapper; first | (rw [if_pos (by decide +kernel)]; kernel_rfl) | (rw [if_neg (by decide +kernel)]; exact ⟨rfl, rfl⟩))
    (fun os started H enc _ => lifted os started H enc)
theorem proved : Rows.FnExactLoadSaid := over
#print axioms proved

end load
end Go.Proofs.Ytdfomahaplcgoaa
