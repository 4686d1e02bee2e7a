/- The law that Save of the program returns what the reference's returns, for all arguments. No conditions. -/
import Derived.Test.YtdfomahaplcgoaaSave2
import Derived.Test.YtdfomahaplcgoaaBoxS
import Derived.Test.YtdfomahaplcgoaaHead
import Derived.Outline
set_option linter.unusedVariables false
namespace Go.Proofs.Ytdfomahaplcgoaa
open Go.RowKit Go.ChangeShapes Go.WideShapes Go.ChangeAt

namespace save
set_option maxHeartbeats 3200000 in
theorem walk (k n : Int) (A : Option Addr) (c : Nat) (xs : List Int) (w : World) (hx : Cells w w.heap.size A (ints xs)) (hn : xs.length ≤ maxLen) :
    Calls Try.prog 10 #[.agg #[.int .i64 k, .int .i64 n], .slice A xs.length c] w fun e w' => e = .returned (.bool true) ∧ Below w.heap.size w w' := by
  have hl : (saveL k n xs).length ≤ 1000000000 := by
    unfold saveL sealL
    split
    · split
      · rw [sealTo_length]; unfold sealB at *; simp_all; omega
      · simp
    · simp
  unfold maxLen at hn
  by_cases h1 : xs.length ≤ 1048576
  · go_enter Try.func10, Try.ntmps10
    have b_0 := (Below.refl w.heap.size w)
    have s_0 := b_0.size
    have x_0 := hx
    clear hx
    go_wp2_with fail
    refine calls_forget1 (W := w) (b0 := w.heap.size) (t0 := 58) (c0 := #[.int .i64 k, .int .i64 n]) ?_ ?_ ?_
    (focus (first | ((repeat (first | (with_reducible assumption) | (with_reducible apply Blk.drew) | (with_reducible apply Blk.new; first | rfl | (simp; done)) | (with_reducible apply Blk.alloc) | (with_reducible apply Blk.set_) | (with_reducible apply Blk.past; focus assumption) | (with_reducible apply Blk.far; focus (first | (simp; done) | (simp; omega) | (dsimp only; omega))))); done) | (apply Blk.cast; (case h => (repeat (first | (with_reducible assumption) | (with_reducible apply Blk.drew) | (with_reducible apply Blk.new; first | rfl | (simp; done)) | (with_reducible apply Blk.alloc) | (with_reducible apply Blk.set_) | (with_reducible apply Blk.past; focus assumption) | (with_reducible apply Blk.far; focus (first | (simp; done) | (simp; omega) | (dsimp only; omega)))))); (case e => rfl))))
    (focus (repeat (first | (with_reducible exact Below.refl _ _) | (with_reducible refine Below.trans ?_ (Below.mono (by assumption) (by first | omega | (simp; done) | (simp; omega) | (simp [*]; done)))) | (with_reducible refine Below.alloc ?_ (by first | omega | (simp; done) | (simp; omega) | (simp [*]; done)) _) | (with_reducible refine Below.setCell ?_ (by first | omega | (simp; done) | (simp; omega) | (simp [*]; done)) _) | (with_reducible refine Below.drew ?_))))
    intro X1 aV_n hX1
    have sX1 := hX1.size
    have aV_lt := aV_n.lt
    refine (toVault_any _ _ _).mono ?_
    rintro e w1 ⟨rfl, hb1⟩
    have s1 := hb1.size
    have hT1 := hX1.trans (hb1.mono sX1)
    have b_1 := b_0.trans (hT1.mono (by omega))
    have x_1 := cells_below x_0 hT1 (by omega)
    have aV_1 := Blk.past hb1 aV_n
    clear x_0 aV_n b_0 hT1 hX1 hb1
    have cell_aV := aV_1.cell
    have froz_aV := aV_1.frozen
    have lt_aV := aV_1.lt
    go_wp2_with fail
    refine calls_forget0 (W := w1) ?_ ?_
    (focus (repeat (first | (with_reducible exact Below.refl _ _) | (with_reducible refine Below.trans ?_ (Below.mono (by assumption) (by first | omega | (simp; done) | (simp; omega) | (simp [*]; done)))) | (with_reducible refine Below.alloc ?_ (by first | omega | (simp; done) | (simp; omega) | (simp [*]; done)) _) | (with_reducible refine Below.setCell ?_ (by first | omega | (simp; done) | (simp; omega) | (simp [*]; done)) _) | (with_reducible refine Below.drew ?_))))
    intro X2 hX2
    have sX2 := hX2.size
    refine (toIntS_any _ _ _ _ ((cells_below x_1 hX2 (by omega)).more (by omega)) h1).mono ?_
    rintro e w2 ⟨rfl, a_2, hb2⟩
    have s2 := hb2.size
    have hT2 := hX2.trans (hb2.mono sX2)
    have b_2 := b_1.trans (hT2.mono (by omega))
    have x_2 := cells_below x_1 hT2 (by omega)
    have aV_2 := Blk.past hT2 aV_1
    have a_hi := own_hi a_2
    clear x_1 aV_1 b_1 cell_aV froz_aV lt_aV hT2 hX2 hb2
    have cell_aV := aV_2.cell
    have froz_aV := aV_2.frozen
    have lt_aV := aV_2.lt
    go_wp2_with fail
    refine calls_forget0 (W := w2) ?_ ?_
    (focus (repeat (first | (with_reducible exact Below.refl _ _) | (with_reducible refine Below.trans ?_ (Below.mono (by assumption) (by first | omega | (simp; done) | (simp; omega) | (simp [*]; done)))) | (with_reducible refine Below.alloc ?_ (by first | omega | (simp; done) | (simp; omega) | (simp [*]; done)) _) | (with_reducible refine Below.setCell ?_ (by first | omega | (simp; done) | (simp; omega) | (simp [*]; done)) _) | (with_reducible refine Below.drew ?_))))
    intro X3 hX3
    have sX3 := hX3.size
    refine (sSave _ _ _ _ _ _ (Cells.of_own (own_below a_2 hX3)) (by omega)).mono ?_
    rintro e w3 ⟨Au, cu, rfl, u_3, hb3⟩
    have s3 := hb3.size
    have hT3 := hX3.trans (hb3.mono sX3)
    have b_3 := b_2.trans (hT3.mono (by omega))
    have x_3 := cells_below x_2 hT3 (by omega)
    have a_3 := own_below a_2 hT3
    have aV_3 := Blk.past hT3 aV_2
    have u_hi := own_hi u_3
    clear x_2 a_2 aV_2 b_2 cell_aV froz_aV lt_aV hT3 hX3 hb3
    have cell_aV := aV_3.cell
    have froz_aV := aV_3.frozen
    have lt_aV := aV_3.lt
    clear a_3
    go_wp2_with fail
    refine calls_forget2 (W := w3) (b0 := w3.heap.size) (t0 := 39) (c0 := #[.int .i64 k, .int .i64 (pick (saveB k n xs) (n + 1) n)]) (b1 := w3.heap.size + 1) (t1 := 49) (c1 := #[.int .i64 (pick (saveB k n xs) n 0), .slice Au (saveL k n xs).length cu, .int .i64 (pick (saveB k n xs) (tagI k n (saveL k n xs)) 0)]) ?_ ?_ ?_ ?_
    (focus (first | ((repeat (first | (with_reducible assumption) | (with_reducible apply Blk.drew) | (with_reducible apply Blk.new; first | rfl | (simp; done)) | (with_reducible apply Blk.alloc) | (with_reducible apply Blk.set_) | (with_reducible apply Blk.past; focus assumption) | (with_reducible apply Blk.far; focus (first | (simp; done) | (simp; omega) | (dsimp only; omega))))); done) | (apply Blk.cast; (case h => (repeat (first | (with_reducible assumption) | (with_reducible apply Blk.drew) | (with_reducible apply Blk.new; first | rfl | (simp; done)) | (with_reducible apply Blk.alloc) | (with_reducible apply Blk.set_) | (with_reducible apply Blk.past; focus assumption) | (with_reducible apply Blk.far; focus (first | (simp; done) | (simp; omega) | (dsimp only; omega)))))); (case e => rfl))))
    (focus (first | ((repeat (first | (with_reducible assumption) | (with_reducible apply Blk.drew) | (with_reducible apply Blk.new; first | rfl | (simp; done)) | (with_reducible apply Blk.alloc) | (with_reducible apply Blk.set_) | (with_reducible apply Blk.past; focus assumption) | (with_reducible apply Blk.far; focus (first | (simp; done) | (simp; omega) | (dsimp only; omega))))); done) | (apply Blk.cast; (case h => (repeat (first | (with_reducible assumption) | (with_reducible apply Blk.drew) | (with_reducible apply Blk.new; first | rfl | (simp; done)) | (with_reducible apply Blk.alloc) | (with_reducible apply Blk.set_) | (with_reducible apply Blk.past; focus assumption) | (with_reducible apply Blk.far; focus (first | (simp; done) | (simp; omega) | (dsimp only; omega)))))); (case e => rfl))))
    (focus (repeat (first | (with_reducible exact Below.refl _ _) | (with_reducible refine Below.trans ?_ (Below.mono (by assumption) (by first | omega | (simp; done) | (simp; omega) | (simp [*]; done)))) | (with_reducible refine Below.alloc ?_ (by first | omega | (simp; done) | (simp; omega) | (simp [*]; done)) _) | (with_reducible refine Below.setCell ?_ (by first | omega | (simp; done) | (simp; omega) | (simp [*]; done)) _) | (with_reducible refine Below.drew ?_))))
    intro X4 uv_n us_n hX4
    have sX4 := hX4.size
    have uv_lt := uv_n.lt
    have us_lt := us_n.lt
    refine (toIntS_any _ _ _ _ ((cells_below x_3 hX4 (by omega)).more (by omega)) h1).mono ?_
    rintro e w4 ⟨rfl, y_4, hb4⟩
    have s4 := hb4.size
    have hT4 := hX4.trans (hb4.mono sX4)
    have b_4 := b_3.trans (hT4.mono (by omega))
    have x_4 := cells_below x_3 hT4 (by omega)
    have u_4 := own_below u_3 hT4
    have aV_4 := Blk.past hT4 aV_3
    have uv_4 := Blk.past hb4 uv_n
    have us_4 := Blk.past hb4 us_n
    have y_hi := own_hi y_4
    clear x_3 u_3 aV_3 uv_n us_n b_3 cell_aV froz_aV lt_aV hT4 hX4 hb4
    have cell_aV := aV_4.cell
    have froz_aV := aV_4.frozen
    have lt_aV := aV_4.lt
    have cell_uv := uv_4.cell
    have froz_uv := uv_4.frozen
    have lt_uv := uv_4.lt
    have cell_us := us_4.cell
    have froz_us := us_4.frozen
    have lt_us := us_4.lt
    go_wp2_with fail
    refine calls_forget0 (W := w4) ?_ ?_
    (focus (repeat (first | (with_reducible exact Below.refl _ _) | (with_reducible refine Below.trans ?_ (Below.mono (by assumption) (by first | omega | (simp; done) | (simp; omega) | (simp [*]; done)))) | (with_reducible refine Below.alloc ?_ (by first | omega | (simp; done) | (simp; omega) | (simp [*]; done)) _) | (with_reducible refine Below.setCell ?_ (by first | omega | (simp; done) | (simp; omega) | (simp [*]; done)) _) | (with_reducible refine Below.drew ?_))))
    intro X5 hX5
    have sX5 := hX5.size
    refine (toVault_any _ _ _).mono ?_
    rintro e w5 ⟨rfl, hb5⟩
    have s5 := hb5.size
    have hT5 := hX5.trans (hb5.mono sX5)
    have b_5 := b_4.trans (hT5.mono (by omega))
    have x_5 := cells_below x_4 hT5 (by omega)
    have u_5 := own_below u_4 hT5
    have y_5 := own_below y_4 hT5
    have aV_5 := Blk.past hT5 aV_4
    have uv_5 := Blk.past hT5 uv_4
    have us_5 := Blk.past hT5 us_4
    clear x_4 u_4 y_4 aV_4 uv_4 us_4 b_4 cell_aV froz_aV lt_aV cell_uv froz_uv lt_uv cell_us froz_us lt_us hT5 hX5 hb5
    have cell_aV := aV_5.cell
    have froz_aV := aV_5.frozen
    have lt_aV := aV_5.lt
    have cell_uv := uv_5.cell
    have froz_uv := uv_5.frozen
    have lt_uv := uv_5.lt
    have cell_us := us_5.cell
    have froz_us := us_5.frozen
    have lt_us := us_5.lt
    go_wp2_with fail
    refine calls_forget0 (W := w5) ?_ ?_
    (focus (repeat (first | (with_reducible exact Below.refl _ _) | (with_reducible refine Below.trans ?_ (Below.mono (by assumption) (by first | omega | (simp; done) | (simp; omega) | (simp [*]; done)))) | (with_reducible refine Below.alloc ?_ (by first | omega | (simp; done) | (simp; omega) | (simp [*]; done)) _) | (with_reducible refine Below.setCell ?_ (by first | omega | (simp; done) | (simp; omega) | (simp [*]; done)) _) | (with_reducible refine Below.drew ?_))))
    intro X6 hX6
    have sX6 := hX6.size
    refine (iSave _ _ _ _ _ _ (Cells.of_own (own_below y_5 hX6)) (by omega)).mono ?_
    rintro e w6 ⟨Ag, cg, rfl, g_6, hb6⟩
    have s6 := hb6.size
    have hT6 := hX6.trans (hb6.mono sX6)
    have b_6 := b_5.trans (hT6.mono (by omega))
    have x_6 := cells_below x_5 hT6 (by omega)
    have u_6 := own_below u_5 hT6
    have y_6 := own_below y_5 hT6
    have aV_6 := Blk.past hT6 aV_5
    have uv_6 := Blk.past hT6 uv_5
    have us_6 := Blk.past hT6 us_5
    have g_hi := own_hi g_6
    clear x_5 u_5 y_5 aV_5 uv_5 us_5 b_5 cell_aV froz_aV lt_aV cell_uv froz_uv lt_uv cell_us froz_us lt_us hT6 hX6 hb6
    have cell_aV := aV_6.cell
    have froz_aV := aV_6.frozen
    have lt_aV := aV_6.lt
    have cell_uv := uv_6.cell
    have froz_uv := uv_6.frozen
    have lt_uv := uv_6.lt
    have cell_us := us_6.cell
    have froz_us := us_6.frozen
    have lt_us := us_6.lt
    go_wp2_with fail
    refine calls_forget2 (W := w6) (b0 := w6.heap.size) (t0 := 39) (c0 := #[.int .i64 k, .int .i64 (pick (saveB k n xs) (n + 1) n)]) (b1 := w6.heap.size + 1) (t1 := 49) (c1 := #[.int .i64 (pick (saveB k n xs) n 0), .slice Ag (saveL k n xs).length cg, .int .i64 (pick (saveB k n xs) (tagI k n (saveL k n xs)) 0)]) ?_ ?_ ?_ ?_
    (focus (first | ((repeat (first | (with_reducible assumption) | (with_reducible apply Blk.drew) | (with_reducible apply Blk.new; first | rfl | (simp; done)) | (with_reducible apply Blk.alloc) | (with_reducible apply Blk.set_) | (with_reducible apply Blk.past; focus assumption) | (with_reducible apply Blk.far; focus (first | (simp; done) | (simp; omega) | (dsimp only; omega))))); done) | (apply Blk.cast; (case h => (repeat (first | (with_reducible assumption) | (with_reducible apply Blk.drew) | (with_reducible apply Blk.new; first | rfl | (simp; done)) | (with_reducible apply Blk.alloc) | (with_reducible apply Blk.set_) | (with_reducible apply Blk.past; focus assumption) | (with_reducible apply Blk.far; focus (first | (simp; done) | (simp; omega) | (dsimp only; omega)))))); (case e => rfl))))
    (focus (first | ((repeat (first | (with_reducible assumption) | (with_reducible apply Blk.drew) | (with_reducible apply Blk.new; first | rfl | (simp; done)) | (with_reducible apply Blk.alloc) | (with_reducible apply Blk.set_) | (with_reducible apply Blk.past; focus assumption) | (with_reducible apply Blk.far; focus (first | (simp; done) | (simp; omega) | (dsimp only; omega))))); done) | (apply Blk.cast; (case h => (repeat (first | (with_reducible assumption) | (with_reducible apply Blk.drew) | (with_reducible apply Blk.new; first | rfl | (simp; done)) | (with_reducible apply Blk.alloc) | (with_reducible apply Blk.set_) | (with_reducible apply Blk.past; focus assumption) | (with_reducible apply Blk.far; focus (first | (simp; done) | (simp; omega) | (dsimp only; omega)))))); (case e => rfl))))
    (focus (repeat (first | (with_reducible exact Below.refl _ _) | (with_reducible refine Below.trans ?_ (Below.mono (by assumption) (by first | omega | (simp; done) | (simp; omega) | (simp [*]; done)))) | (with_reducible refine Below.alloc ?_ (by first | omega | (simp; done) | (simp; omega) | (simp [*]; done)) _) | (with_reducible refine Below.setCell ?_ (by first | omega | (simp; done) | (simp; omega) | (simp [*]; done)) _) | (with_reducible refine Below.drew ?_))))
    intro X7 gv_n gs_n hX7
    have sX7 := hX7.size
    have gv_lt := gv_n.lt
    have gs_lt := gs_n.lt
    refine (eqVault_same _ _ _).mono ?_
    rintro e w7 ⟨rfl, hb7⟩
    have s7 := hb7.size
    have hT7 := hX7.trans (hb7.mono sX7)
    have b_7 := b_6.trans (hT7.mono (by omega))
    have x_7 := cells_below x_6 hT7 (by omega)
    have u_7 := own_below u_6 hT7
    have y_7 := own_below y_6 hT7
    have g_7 := own_below g_6 hT7
    have aV_7 := Blk.past hT7 aV_6
    have uv_7 := Blk.past hT7 uv_6
    have us_7 := Blk.past hT7 us_6
    have gv_7 := Blk.past hb7 gv_n
    have gs_7 := Blk.past hb7 gs_n
    clear x_6 u_6 y_6 g_6 aV_6 uv_6 us_6 gv_n gs_n b_6 cell_aV froz_aV lt_aV cell_uv froz_uv lt_uv cell_us froz_us lt_us hT7 hX7 hb7
    have cell_aV := aV_7.cell
    have froz_aV := aV_7.frozen
    have lt_aV := aV_7.lt
    have cell_uv := uv_7.cell
    have froz_uv := uv_7.frozen
    have lt_uv := uv_7.lt
    have cell_us := us_7.cell
    have froz_us := us_7.frozen
    have lt_us := us_7.lt
    have cell_gv := gv_7.cell
    have froz_gv := gv_7.frozen
    have lt_gv := gv_7.lt
    have cell_gs := gs_7.cell
    have froz_gs := gs_7.frozen
    have lt_gs := gs_7.lt
    go_wp2_with fail
    refine calls_forget0 (W := w7) ?_ ?_
    (focus (repeat (first | (with_reducible exact Below.refl _ _) | (with_reducible refine Below.trans ?_ (Below.mono (by assumption) (by first | omega | (simp; done) | (simp; omega) | (simp [*]; done)))) | (with_reducible refine Below.alloc ?_ (by first | omega | (simp; done) | (simp; omega) | (simp [*]; done)) _) | (with_reducible refine Below.setCell ?_ (by first | omega | (simp; done) | (simp; omega) | (simp [*]; done)) _) | (with_reducible refine Below.drew ?_))))
    intro X8 hX8
    have sX8 := hX8.size
    refine (eqSealed_same _ _ _ _ _ _ _ _ (Cells.of_own (own_below g_7 hX8)) (Cells.of_own (own_below u_7 hX8)) hl).mono ?_
    rintro e w8 ⟨rfl, hb8⟩
    have s8 := hb8.size
    have hT8 := hX8.trans (hb8.mono sX8)
    have b_8 := b_7.trans (hT8.mono (by omega))
    have x_8 := cells_below x_7 hT8 (by omega)
    have u_8 := own_below u_7 hT8
    have y_8 := own_below y_7 hT8
    have g_8 := own_below g_7 hT8
    have aV_8 := Blk.past hT8 aV_7
    have uv_8 := Blk.past hT8 uv_7
    have us_8 := Blk.past hT8 us_7
    have gv_8 := Blk.past hT8 gv_7
    have gs_8 := Blk.past hT8 gs_7
    clear x_7 u_7 y_7 g_7 aV_7 uv_7 us_7 gv_7 gs_7 b_7 cell_aV froz_aV lt_aV cell_uv froz_uv lt_uv cell_us froz_us lt_us cell_gv froz_gv lt_gv cell_gs froz_gs lt_gs hT8 hX8 hb8
    have cell_aV := aV_8.cell
    have froz_aV := aV_8.frozen
    have lt_aV := aV_8.lt
    have cell_uv := uv_8.cell
    have froz_uv := uv_8.frozen
    have lt_uv := uv_8.lt
    have cell_us := us_8.cell
    have froz_us := us_8.frozen
    have lt_us := us_8.lt
    have cell_gv := gv_8.cell
    have froz_gv := gv_8.frozen
    have lt_gv := gv_8.lt
    have cell_gs := gs_8.cell
    have froz_gs := gs_8.frozen
    have lt_gs := gs_8.lt
    go_wp2_with fail
    refine calls_forget0 (W := w8) ?_ ?_
    (focus (repeat (first | (with_reducible exact Below.refl _ _) | (with_reducible refine Below.trans ?_ (Below.mono (by assumption) (by first | omega | (simp; done) | (simp; omega) | (simp [*]; done)))) | (with_reducible refine Below.alloc ?_ (by first | omega | (simp; done) | (simp; omega) | (simp [*]; done)) _) | (with_reducible refine Below.setCell ?_ (by first | omega | (simp; done) | (simp; omega) | (simp [*]; done)) _) | (with_reducible refine Below.drew ?_))))
    intro X9 hX9
    have sX9 := hX9.size
    refine (toIntS_any _ _ _ _ ((cells_below x_8 hX9 (by omega)).more (by omega)) h1).mono ?_
    rintro e w9 ⟨rfl, z_9, hb9⟩
    have s9 := hb9.size
    have hT9 := hX9.trans (hb9.mono sX9)
    have b_9 := b_8.trans (hT9.mono (by omega))
    have x_9 := cells_below x_8 hT9 (by omega)
    have u_9 := own_below u_8 hT9
    have y_9 := own_below y_8 hT9
    have g_9 := own_below g_8 hT9
    have aV_9 := Blk.past hT9 aV_8
    have uv_9 := Blk.past hT9 uv_8
    have us_9 := Blk.past hT9 us_8
    have gv_9 := Blk.past hT9 gv_8
    have gs_9 := Blk.past hT9 gs_8
    have z_hi := own_hi z_9
    clear x_8 u_8 y_8 g_8 aV_8 uv_8 us_8 gv_8 gs_8 b_8 cell_aV froz_aV lt_aV cell_uv froz_uv lt_uv cell_us froz_us lt_us cell_gv froz_gv lt_gv cell_gs froz_gs lt_gs hT9 hX9 hb9
    have cell_aV := aV_9.cell
    have froz_aV := aV_9.frozen
    have lt_aV := aV_9.lt
    have cell_uv := uv_9.cell
    have froz_uv := uv_9.frozen
    have lt_uv := uv_9.lt
    have cell_us := us_9.cell
    have froz_us := us_9.frozen
    have lt_us := us_9.lt
    have cell_gv := gv_9.cell
    have froz_gv := gv_9.frozen
    have lt_gv := gv_9.lt
    have cell_gs := gs_9.cell
    have froz_gs := gs_9.frozen
    have lt_gs := gs_9.lt
    go_wp2_with fail
    refine calls_forget0 (W := w9) ?_ ?_
    (focus (repeat (first | (with_reducible exact Below.refl _ _) | (with_reducible refine Below.trans ?_ (Below.mono (by assumption) (by first | omega | (simp; done) | (simp; omega) | (simp [*]; done)))) | (with_reducible refine Below.alloc ?_ (by first | omega | (simp; done) | (simp; omega) | (simp [*]; done)) _) | (with_reducible refine Below.setCell ?_ (by first | omega | (simp; done) | (simp; omega) | (simp [*]; done)) _) | (with_reducible refine Below.drew ?_))))
    intro X10 hX10
    have sX10 := hX10.size
    refine (eqIntS_same _ _ _ _ _ _ (Cells.of_own (own_below y_9 hX10)) (Cells.of_own (own_below z_9 hX10)) (by omega)).mono ?_
    rintro e w10 ⟨rfl, hb10⟩
    have s10 := hb10.size
    have hT10 := hX10.trans (hb10.mono sX10)
    have b_10 := b_9.trans (hT10.mono (by omega))
    have x_10 := cells_below x_9 hT10 (by omega)
    have u_10 := own_below u_9 hT10
    have y_10 := own_below y_9 hT10
    have g_10 := own_below g_9 hT10
    have z_10 := own_below z_9 hT10
    have aV_10 := Blk.past hT10 aV_9
    have uv_10 := Blk.past hT10 uv_9
    have us_10 := Blk.past hT10 us_9
    have gv_10 := Blk.past hT10 gv_9
    have gs_10 := Blk.past hT10 gs_9
    clear x_9 u_9 y_9 g_9 z_9 aV_9 uv_9 us_9 gv_9 gs_9 b_9 cell_aV froz_aV lt_aV cell_uv froz_uv lt_uv cell_us froz_us lt_us cell_gv froz_gv lt_gv cell_gs froz_gs lt_gs hT10 hX10 hb10
    have cell_aV := aV_10.cell
    have froz_aV := aV_10.frozen
    have lt_aV := aV_10.lt
    have cell_uv := uv_10.cell
    have froz_uv := uv_10.frozen
    have lt_uv := uv_10.lt
    have cell_us := us_10.cell
    have froz_us := us_10.frozen
    have lt_us := us_10.lt
    have cell_gv := gv_10.cell
    have froz_gv := gv_10.frozen
    have lt_gv := gv_10.lt
    have cell_gs := gs_10.cell
    have froz_gs := gs_10.frozen
    have lt_gs := gs_10.lt
    clear z_10
    go_wp2_with fail
    refine calls_forget0 (W := w10) ?_ ?_
    (focus (repeat (first | (with_reducible exact Below.refl _ _) | (with_reducible refine Below.trans ?_ (Below.mono (by assumption) (by first | omega | (simp; done) | (simp; omega) | (simp [*]; done)))) | (with_reducible refine Below.alloc ?_ (by first | omega | (simp; done) | (simp; omega) | (simp [*]; done)) _) | (with_reducible refine Below.setCell ?_ (by first | omega | (simp; done) | (simp; omega) | (simp [*]; done)) _) | (with_reducible refine Below.drew ?_))))
    intro X11 hX11
    have sX11 := hX11.size
    refine (markIntS_any _ _ _ _ _ _ _ (own_below y_10 hX11) (by omega) (by omega) (by omega)).mono ?_
    rintro e w11 ⟨rfl, y_11, hg11⟩
    have s11 := hg11.size
    have b_11 := below_mark (b_10.trans (hX11.mono (by omega))) y_11 hg11 (by omega) (by omega)
    have x_11 := cells_apart (cells_below x_10 hX11 (by omega)) y_11 hg11 (by omega) (by omega)
    have u_11 := own_apart (own_below u_10 hX11) u_hi y_11 y_hi hg11 (by omega)
    have g_11 := own_apart (own_below g_10 hX11) g_hi y_11 y_hi hg11 (by omega)
    have aV_11 := blk_apart (Blk.past hX11 aV_10) y_11 y_hi hg11 (by omega)
    have uv_11 := blk_apart (Blk.past hX11 uv_10) y_11 y_hi hg11 (by omega)
    have us_11 := blk_apart (Blk.past hX11 us_10) y_11 y_hi hg11 (by omega)
    have gv_11 := blk_apart (Blk.past hX11 gv_10) y_11 y_hi hg11 (by omega)
    have gs_11 := blk_apart (Blk.past hX11 gs_10) y_11 y_hi hg11 (by omega)
    clear y_10
    clear x_10 u_10 g_10 aV_10 uv_10 us_10 gv_10 gs_10 b_10 cell_aV froz_aV lt_aV cell_uv froz_uv lt_uv cell_us froz_us lt_us cell_gv froz_gv lt_gv cell_gs froz_gs lt_gs hX11 hg11
    have cell_aV := aV_11.cell
    have froz_aV := aV_11.frozen
    have lt_aV := aV_11.lt
    have cell_uv := uv_11.cell
    have froz_uv := uv_11.frozen
    have lt_uv := uv_11.lt
    have cell_us := us_11.cell
    have froz_us := us_11.frozen
    have lt_us := us_11.lt
    have cell_gv := gv_11.cell
    have froz_gv := gv_11.frozen
    have lt_gv := gv_11.lt
    have cell_gs := gs_11.cell
    have froz_gs := gs_11.frozen
    have lt_gs := gs_11.lt
    go_wp2_with fail
    refine calls_forget0 (W := w11) ?_ ?_
    (focus (repeat (first | (with_reducible exact Below.refl _ _) | (with_reducible refine Below.trans ?_ (Below.mono (by assumption) (by first | omega | (simp; done) | (simp; omega) | (simp [*]; done)))) | (with_reducible refine Below.alloc ?_ (by first | omega | (simp; done) | (simp; omega) | (simp [*]; done)) _) | (with_reducible refine Below.setCell ?_ (by first | omega | (simp; done) | (simp; omega) | (simp [*]; done)) _) | (with_reducible refine Below.drew ?_))))
    intro X12 hX12
    have sX12 := hX12.size
    refine (eqVault_same _ _ _).mono ?_
    rintro e w12 ⟨rfl, hb12⟩
    have s12 := hb12.size
    have hT12 := hX12.trans (hb12.mono sX12)
    have b_12 := b_11.trans (hT12.mono (by omega))
    have x_12 := cells_below x_11 hT12 (by omega)
    have u_12 := own_below u_11 hT12
    have y_12 := own_below y_11 hT12
    have g_12 := own_below g_11 hT12
    have aV_12 := Blk.past hT12 aV_11
    have uv_12 := Blk.past hT12 uv_11
    have us_12 := Blk.past hT12 us_11
    have gv_12 := Blk.past hT12 gv_11
    have gs_12 := Blk.past hT12 gs_11
    clear x_11 u_11 y_11 g_11 aV_11 uv_11 us_11 gv_11 gs_11 b_11 cell_aV froz_aV lt_aV cell_uv froz_uv lt_uv cell_us froz_us lt_us cell_gv froz_gv lt_gv cell_gs froz_gs lt_gs hT12 hX12 hb12
    have cell_aV := aV_12.cell
    have froz_aV := aV_12.frozen
    have lt_aV := aV_12.lt
    have cell_uv := uv_12.cell
    have froz_uv := uv_12.frozen
    have lt_uv := uv_12.lt
    have cell_us := us_12.cell
    have froz_us := us_12.frozen
    have lt_us := us_12.lt
    have cell_gv := gv_12.cell
    have froz_gv := gv_12.frozen
    have lt_gv := gv_12.lt
    have cell_gs := gs_12.cell
    have froz_gs := gs_12.frozen
    have lt_gs := gs_12.lt
    go_wp2_with fail
    refine calls_forget0 (W := w12) ?_ ?_
    (focus (repeat (first | (with_reducible exact Below.refl _ _) | (with_reducible refine Below.trans ?_ (Below.mono (by assumption) (by first | omega | (simp; done) | (simp; omega) | (simp [*]; done)))) | (with_reducible refine Below.alloc ?_ (by first | omega | (simp; done) | (simp; omega) | (simp [*]; done)) _) | (with_reducible refine Below.setCell ?_ (by first | omega | (simp; done) | (simp; omega) | (simp [*]; done)) _) | (with_reducible refine Below.drew ?_))))
    intro X13 hX13
    have sX13 := hX13.size
    refine (eqSealed_same _ _ _ _ _ _ _ _ (Cells.of_own (own_below g_12 hX13)) (Cells.of_own (own_below u_12 hX13)) hl).mono ?_
    rintro e w13 ⟨rfl, hb13⟩
    have s13 := hb13.size
    have hT13 := hX13.trans (hb13.mono sX13)
    have b_13 := b_12.trans (hT13.mono (by omega))
    have x_13 := cells_below x_12 hT13 (by omega)
    have u_13 := own_below u_12 hT13
    have y_13 := own_below y_12 hT13
    have g_13 := own_below g_12 hT13
    have aV_13 := Blk.past hT13 aV_12
    have uv_13 := Blk.past hT13 uv_12
    have us_13 := Blk.past hT13 us_12
    have gv_13 := Blk.past hT13 gv_12
    have gs_13 := Blk.past hT13 gs_12
    clear x_12 u_12 y_12 g_12 aV_12 uv_12 us_12 gv_12 gs_12 b_12 cell_aV froz_aV lt_aV cell_uv froz_uv lt_uv cell_us froz_us lt_us cell_gv froz_gv lt_gv cell_gs froz_gs lt_gs hT13 hX13 hb13
    have cell_aV := aV_13.cell
    have froz_aV := aV_13.frozen
    have lt_aV := aV_13.lt
    have cell_uv := uv_13.cell
    have froz_uv := uv_13.frozen
    have lt_uv := uv_13.lt
    have cell_us := us_13.cell
    have froz_us := us_13.frozen
    have lt_us := us_13.lt
    have cell_gv := gv_13.cell
    have froz_gv := gv_13.frozen
    have lt_gv := gv_13.lt
    have cell_gs := gs_13.cell
    have froz_gs := gs_13.frozen
    have lt_gs := gs_13.lt
    clear y_13
    go_wp2_with fail
    refine calls_forget0 (W := w13) ?_ ?_
    (focus (repeat (first | (with_reducible exact Below.refl _ _) | (with_reducible refine Below.trans ?_ (Below.mono (by assumption) (by first | omega | (simp; done) | (simp; omega) | (simp [*]; done)))) | (with_reducible refine Below.alloc ?_ (by first | omega | (simp; done) | (simp; omega) | (simp [*]; done)) _) | (with_reducible refine Below.setCell ?_ (by first | omega | (simp; done) | (simp; omega) | (simp [*]; done)) _) | (with_reducible refine Below.drew ?_))))
    intro X14 hX14
    have sX14 := hX14.size
    refine (markSealed_any _ _ _ _ _ _ _ _ _ (own_below g_13 hX14) hl (by omega) (by omega)).mono ?_
    rintro e w14 ⟨rfl, g_14, hg14⟩
    have s14 := hg14.size
    have b_14 := below_mark (b_13.trans (hX14.mono (by omega))) g_14 hg14 (by omega) (by omega)
    have x_14 := cells_apart (cells_below x_13 hX14 (by omega)) g_14 hg14 (by omega) (by omega)
    have u_14 := own_apart (own_below u_13 hX14) u_hi g_14 g_hi hg14 (by omega)
    have aV_14 := blk_apart (Blk.past hX14 aV_13) g_14 g_hi hg14 (by omega)
    have uv_14 := blk_apart (Blk.past hX14 uv_13) g_14 g_hi hg14 (by omega)
    have us_14 := blk_apart (Blk.past hX14 us_13) g_14 g_hi hg14 (by omega)
    have gv_14 := blk_apart (Blk.past hX14 gv_13) g_14 g_hi hg14 (by omega)
    have gs_14 := blk_apart (Blk.past hX14 gs_13) g_14 g_hi hg14 (by omega)
    clear g_13
    clear x_13 u_13 aV_13 uv_13 us_13 gv_13 gs_13 b_13 cell_aV froz_aV lt_aV cell_uv froz_uv lt_uv cell_us froz_us lt_us cell_gv froz_gv lt_gv cell_gs froz_gs lt_gs hX14 hg14
    have cell_aV := aV_14.cell
    have froz_aV := aV_14.frozen
    have lt_aV := aV_14.lt
    have cell_uv := uv_14.cell
    have froz_uv := uv_14.frozen
    have lt_uv := uv_14.lt
    have cell_us := us_14.cell
    have froz_us := us_14.frozen
    have lt_us := us_14.lt
    have cell_gv := gv_14.cell
    have froz_gv := gv_14.frozen
    have lt_gv := gv_14.lt
    have cell_gs := gs_14.cell
    have froz_gs := gs_14.frozen
    have lt_gs := gs_14.lt
    go_wp2_with fail
    refine calls_forget0 (W := w14) ?_ ?_
    (focus (repeat (first | (with_reducible exact Below.refl _ _) | (with_reducible refine Below.trans ?_ (Below.mono (by assumption) (by first | omega | (simp; done) | (simp; omega) | (simp [*]; done)))) | (with_reducible refine Below.alloc ?_ (by first | omega | (simp; done) | (simp; omega) | (simp [*]; done)) _) | (with_reducible refine Below.setCell ?_ (by first | omega | (simp; done) | (simp; omega) | (simp [*]; done)) _) | (with_reducible refine Below.drew ?_))))
    intro X15 hX15
    have sX15 := hX15.size
    refine (heldSealed_any _ _ _ _ _ _ _ (Cells.of_own (own_below g_14 hX15)) hl (by omega) (by omega)).mono ?_
    rintro e w15 ⟨rfl, hb15⟩
    have s15 := hb15.size
    have hT15 := hX15.trans (hb15.mono sX15)
    have b_15 := b_14.trans (hT15.mono (by omega))
    have x_15 := cells_below x_14 hT15 (by omega)
    have u_15 := own_below u_14 hT15
    have g_15 := own_below g_14 hT15
    have aV_15 := Blk.past hT15 aV_14
    have uv_15 := Blk.past hT15 uv_14
    have us_15 := Blk.past hT15 us_14
    have gv_15 := Blk.past hT15 gv_14
    have gs_15 := Blk.past hT15 gs_14
    clear x_14 u_14 g_14 aV_14 uv_14 us_14 gv_14 gs_14 b_14 cell_aV froz_aV lt_aV cell_uv froz_uv lt_uv cell_us froz_us lt_us cell_gv froz_gv lt_gv cell_gs froz_gs lt_gs hT15 hX15 hb15
    have cell_aV := aV_15.cell
    have froz_aV := aV_15.frozen
    have lt_aV := aV_15.lt
    have cell_uv := uv_15.cell
    have froz_uv := uv_15.frozen
    have lt_uv := uv_15.lt
    have cell_us := us_15.cell
    have froz_us := us_15.frozen
    have lt_us := us_15.lt
    have cell_gv := gv_15.cell
    have froz_gv := gv_15.frozen
    have lt_gv := gv_15.lt
    have cell_gs := gs_15.cell
    have froz_gs := gs_15.frozen
    have lt_gs := gs_15.lt
    go_wp2_with fail
    refine calls_forget0 (W := w15) ?_ ?_
    (focus (repeat (first | (with_reducible exact Below.refl _ _) | (with_reducible refine Below.trans ?_ (Below.mono (by assumption) (by first | omega | (simp; done) | (simp; omega) | (simp [*]; done)))) | (with_reducible refine Below.alloc ?_ (by first | omega | (simp; done) | (simp; omega) | (simp [*]; done)) _) | (with_reducible refine Below.setCell ?_ (by first | omega | (simp; done) | (simp; omega) | (simp [*]; done)) _) | (with_reducible refine Below.drew ?_))))
    intro X16 hX16
    have sX16 := hX16.size
    refine (toVault_any _ _ _).mono ?_
    rintro e w16 ⟨rfl, hb16⟩
    have s16 := hb16.size
    have hT16 := hX16.trans (hb16.mono sX16)
    have b_16 := b_15.trans (hT16.mono (by omega))
    have x_16 := cells_below x_15 hT16 (by omega)
    have u_16 := own_below u_15 hT16
    have g_16 := own_below g_15 hT16
    have aV_16 := Blk.past hT16 aV_15
    have uv_16 := Blk.past hT16 uv_15
    have us_16 := Blk.past hT16 us_15
    have gv_16 := Blk.past hT16 gv_15
    have gs_16 := Blk.past hT16 gs_15
    clear x_15 u_15 g_15 aV_15 uv_15 us_15 gv_15 gs_15 b_15 cell_aV froz_aV lt_aV cell_uv froz_uv lt_uv cell_us froz_us lt_us cell_gv froz_gv lt_gv cell_gs froz_gs lt_gs hT16 hX16 hb16
    have cell_aV := aV_16.cell
    have froz_aV := aV_16.frozen
    have lt_aV := aV_16.lt
    have cell_uv := uv_16.cell
    have froz_uv := uv_16.frozen
    have lt_uv := uv_16.lt
    have cell_us := us_16.cell
    have froz_us := us_16.frozen
    have lt_us := us_16.lt
    have cell_gv := gv_16.cell
    have froz_gv := gv_16.frozen
    have lt_gv := gv_16.lt
    have cell_gs := gs_16.cell
    have froz_gs := gs_16.frozen
    have lt_gs := gs_16.lt
    go_wp2_with fail
    refine calls_forget0 (W := w16) ?_ ?_
    (focus (repeat (first | (with_reducible exact Below.refl _ _) | (with_reducible refine Below.trans ?_ (Below.mono (by assumption) (by first | omega | (simp; done) | (simp; omega) | (simp [*]; done)))) | (with_reducible refine Below.alloc ?_ (by first | omega | (simp; done) | (simp; omega) | (simp [*]; done)) _) | (with_reducible refine Below.setCell ?_ (by first | omega | (simp; done) | (simp; omega) | (simp [*]; done)) _) | (with_reducible refine Below.drew ?_))))
    intro X17 hX17
    have sX17 := hX17.size
    refine (toIntS_any _ _ _ _ ((cells_below x_16 hX17 (by omega)).more (by omega)) h1).mono ?_
    rintro e w17 ⟨rfl, z_17, hb17⟩
    have s17 := hb17.size
    have hT17 := hX17.trans (hb17.mono sX17)
    have b_17 := b_16.trans (hT17.mono (by omega))
    have x_17 := cells_below x_16 hT17 (by omega)
    have u_17 := own_below u_16 hT17
    have g_17 := own_below g_16 hT17
    have aV_17 := Blk.past hT17 aV_16
    have uv_17 := Blk.past hT17 uv_16
    have us_17 := Blk.past hT17 us_16
    have gv_17 := Blk.past hT17 gv_16
    have gs_17 := Blk.past hT17 gs_16
    have z_hi := own_hi z_17
    clear x_16 u_16 g_16 aV_16 uv_16 us_16 gv_16 gs_16 b_16 cell_aV froz_aV lt_aV cell_uv froz_uv lt_uv cell_us froz_us lt_us cell_gv froz_gv lt_gv cell_gs froz_gs lt_gs hT17 hX17 hb17
    have cell_aV := aV_17.cell
    have froz_aV := aV_17.frozen
    have lt_aV := aV_17.lt
    have cell_uv := uv_17.cell
    have froz_uv := uv_17.frozen
    have lt_uv := uv_17.lt
    have cell_us := us_17.cell
    have froz_us := us_17.frozen
    have lt_us := us_17.lt
    have cell_gv := gv_17.cell
    have froz_gv := gv_17.frozen
    have lt_gv := gv_17.lt
    have cell_gs := gs_17.cell
    have froz_gs := gs_17.frozen
    have lt_gs := gs_17.lt
    go_wp2_with fail
    refine calls_forget0 (W := w17) ?_ ?_
    (focus (repeat (first | (with_reducible exact Below.refl _ _) | (with_reducible refine Below.trans ?_ (Below.mono (by assumption) (by first | omega | (simp; done) | (simp; omega) | (simp [*]; done)))) | (with_reducible refine Below.alloc ?_ (by first | omega | (simp; done) | (simp; omega) | (simp [*]; done)) _) | (with_reducible refine Below.setCell ?_ (by first | omega | (simp; done) | (simp; omega) | (simp [*]; done)) _) | (with_reducible refine Below.drew ?_))))
    intro X18 hX18
    have sX18 := hX18.size
    refine (iSave _ _ _ _ _ _ (Cells.of_own (own_below z_17 hX18)) (by omega)).mono ?_
    rintro e w18 ⟨Ah, ch, rfl, h_18, hb18⟩
    have s18 := hb18.size
    have hT18 := hX18.trans (hb18.mono sX18)
    have b_18 := b_17.trans (hT18.mono (by omega))
    have x_18 := cells_below x_17 hT18 (by omega)
    have u_18 := own_below u_17 hT18
    have g_18 := own_below g_17 hT18
    have z_18 := own_below z_17 hT18
    have aV_18 := Blk.past hT18 aV_17
    have uv_18 := Blk.past hT18 uv_17
    have us_18 := Blk.past hT18 us_17
    have gv_18 := Blk.past hT18 gv_17
    have gs_18 := Blk.past hT18 gs_17
    have h_hi := own_hi h_18
    clear x_17 u_17 g_17 z_17 aV_17 uv_17 us_17 gv_17 gs_17 b_17 cell_aV froz_aV lt_aV cell_uv froz_uv lt_uv cell_us froz_us lt_us cell_gv froz_gv lt_gv cell_gs froz_gs lt_gs hT18 hX18 hb18
    have cell_aV := aV_18.cell
    have froz_aV := aV_18.frozen
    have lt_aV := aV_18.lt
    have cell_uv := uv_18.cell
    have froz_uv := uv_18.frozen
    have lt_uv := uv_18.lt
    have cell_us := us_18.cell
    have froz_us := us_18.frozen
    have lt_us := us_18.lt
    have cell_gv := gv_18.cell
    have froz_gv := gv_18.frozen
    have lt_gv := gv_18.lt
    have cell_gs := gs_18.cell
    have froz_gs := gs_18.frozen
    have lt_gs := gs_18.lt
    clear z_18
    go_wp2_with fail
    refine calls_forget2 (W := w18) (b0 := w18.heap.size) (t0 := 39) (c0 := #[.int .i64 k, .int .i64 (pick (saveB k n xs) (n + 1) n)]) (b1 := w18.heap.size + 1) (t1 := 49) (c1 := #[.int .i64 (pick (saveB k n xs) n 0), .slice Ah (saveL k n xs).length ch, .int .i64 (pick (saveB k n xs) (tagI k n (saveL k n xs)) 0)]) ?_ ?_ ?_ ?_
    (focus (first | ((repeat (first | (with_reducible assumption) | (with_reducible apply Blk.drew) | (with_reducible apply Blk.new; first | rfl | (simp; done)) | (with_reducible apply Blk.alloc) | (with_reducible apply Blk.set_) | (with_reducible apply Blk.past; focus assumption) | (with_reducible apply Blk.far; focus (first | (simp; done) | (simp; omega) | (dsimp only; omega))))); done) | (apply Blk.cast; (case h => (repeat (first | (with_reducible assumption) | (with_reducible apply Blk.drew) | (with_reducible apply Blk.new; first | rfl | (simp; done)) | (with_reducible apply Blk.alloc) | (with_reducible apply Blk.set_) | (with_reducible apply Blk.past; focus assumption) | (with_reducible apply Blk.far; focus (first | (simp; done) | (simp; omega) | (dsimp only; omega)))))); (case e => rfl))))
    (focus (first | ((repeat (first | (with_reducible assumption) | (with_reducible apply Blk.drew) | (with_reducible apply Blk.new; first | rfl | (simp; done)) | (with_reducible apply Blk.alloc) | (with_reducible apply Blk.set_) | (with_reducible apply Blk.past; focus assumption) | (with_reducible apply Blk.far; focus (first | (simp; done) | (simp; omega) | (dsimp only; omega))))); done) | (apply Blk.cast; (case h => (repeat (first | (with_reducible assumption) | (with_reducible apply Blk.drew) | (with_reducible apply Blk.new; first | rfl | (simp; done)) | (with_reducible apply Blk.alloc) | (with_reducible apply Blk.set_) | (with_reducible apply Blk.past; focus assumption) | (with_reducible apply Blk.far; focus (first | (simp; done) | (simp; omega) | (dsimp only; omega)))))); (case e => rfl))))
    (focus (repeat (first | (with_reducible exact Below.refl _ _) | (with_reducible refine Below.trans ?_ (Below.mono (by assumption) (by first | omega | (simp; done) | (simp; omega) | (simp [*]; done)))) | (with_reducible refine Below.alloc ?_ (by first | omega | (simp; done) | (simp; omega) | (simp [*]; done)) _) | (with_reducible refine Below.setCell ?_ (by first | omega | (simp; done) | (simp; omega) | (simp [*]; done)) _) | (with_reducible refine Below.drew ?_))))
    intro X19 hv_n hs_n hX19
    have sX19 := hX19.size
    have hv_lt := hv_n.lt
    have hs_lt := hs_n.lt
    refine (eqVault_same _ _ _).mono ?_
    rintro e w19 ⟨rfl, hb19⟩
    have s19 := hb19.size
    have hT19 := hX19.trans (hb19.mono sX19)
    have b_19 := b_18.trans (hT19.mono (by omega))
    have x_19 := cells_below x_18 hT19 (by omega)
    have u_19 := own_below u_18 hT19
    have g_19 := own_below g_18 hT19
    have h_19 := own_below h_18 hT19
    have aV_19 := Blk.past hT19 aV_18
    have uv_19 := Blk.past hT19 uv_18
    have us_19 := Blk.past hT19 us_18
    have gv_19 := Blk.past hT19 gv_18
    have gs_19 := Blk.past hT19 gs_18
    have hv_19 := Blk.past hb19 hv_n
    have hs_19 := Blk.past hb19 hs_n
    clear x_18 u_18 g_18 h_18 aV_18 uv_18 us_18 gv_18 gs_18 hv_n hs_n b_18 cell_aV froz_aV lt_aV cell_uv froz_uv lt_uv cell_us froz_us lt_us cell_gv froz_gv lt_gv cell_gs froz_gs lt_gs hT19 hX19 hb19
    have cell_aV := aV_19.cell
    have froz_aV := aV_19.frozen
    have lt_aV := aV_19.lt
    have cell_uv := uv_19.cell
    have froz_uv := uv_19.frozen
    have lt_uv := uv_19.lt
    have cell_us := us_19.cell
    have froz_us := us_19.frozen
    have lt_us := us_19.lt
    have cell_gv := gv_19.cell
    have froz_gv := gv_19.frozen
    have lt_gv := gv_19.lt
    have cell_gs := gs_19.cell
    have froz_gs := gs_19.frozen
    have lt_gs := gs_19.lt
    have cell_hv := hv_19.cell
    have froz_hv := hv_19.frozen
    have lt_hv := hv_19.lt
    have cell_hs := hs_19.cell
    have froz_hs := hs_19.frozen
    have lt_hs := hs_19.lt
    go_wp2_with fail
    refine calls_forget0 (W := w19) ?_ ?_
    (focus (repeat (first | (with_reducible exact Below.refl _ _) | (with_reducible refine Below.trans ?_ (Below.mono (by assumption) (by first | omega | (simp; done) | (simp; omega) | (simp [*]; done)))) | (with_reducible refine Below.alloc ?_ (by first | omega | (simp; done) | (simp; omega) | (simp [*]; done)) _) | (with_reducible refine Below.setCell ?_ (by first | omega | (simp; done) | (simp; omega) | (simp [*]; done)) _) | (with_reducible refine Below.drew ?_))))
    intro X20 hX20
    have sX20 := hX20.size
    refine (eqSealed_same _ _ _ _ _ _ _ _ (Cells.of_own (own_below h_19 hX20)) (Cells.of_own (own_below u_19 hX20)) hl).mono ?_
    rintro e w20 ⟨rfl, hb20⟩
    have s20 := hb20.size
    have hT20 := hX20.trans (hb20.mono sX20)
    have b_20 := b_19.trans (hT20.mono (by omega))
    have x_20 := cells_below x_19 hT20 (by omega)
    have u_20 := own_below u_19 hT20
    have g_20 := own_below g_19 hT20
    have h_20 := own_below h_19 hT20
    have aV_20 := Blk.past hT20 aV_19
    have uv_20 := Blk.past hT20 uv_19
    have us_20 := Blk.past hT20 us_19
    have gv_20 := Blk.past hT20 gv_19
    have gs_20 := Blk.past hT20 gs_19
    have hv_20 := Blk.past hT20 hv_19
    have hs_20 := Blk.past hT20 hs_19
    clear x_19 u_19 g_19 h_19 aV_19 uv_19 us_19 gv_19 gs_19 hv_19 hs_19 b_19 cell_aV froz_aV lt_aV cell_uv froz_uv lt_uv cell_us froz_us lt_us cell_gv froz_gv lt_gv cell_gs froz_gs lt_gs cell_hv froz_hv lt_hv cell_hs froz_hs lt_hs hT20 hX20 hb20
    have cell_aV := aV_20.cell
    have froz_aV := aV_20.frozen
    have lt_aV := aV_20.lt
    have cell_uv := uv_20.cell
    have froz_uv := uv_20.frozen
    have lt_uv := uv_20.lt
    have cell_us := us_20.cell
    have froz_us := us_20.frozen
    have lt_us := us_20.lt
    have cell_gv := gv_20.cell
    have froz_gv := gv_20.frozen
    have lt_gv := gv_20.lt
    have cell_gs := gs_20.cell
    have froz_gs := gs_20.frozen
    have lt_gs := gs_20.lt
    have cell_hv := hv_20.cell
    have froz_hv := hv_20.frozen
    have lt_hv := hv_20.lt
    have cell_hs := hs_20.cell
    have froz_hs := hs_20.frozen
    have lt_hs := hs_20.lt
    go_wp2_with fail
    refine calls_forget0 (W := w20) ?_ ?_
    (focus (repeat (first | (with_reducible exact Below.refl _ _) | (with_reducible refine Below.trans ?_ (Below.mono (by assumption) (by first | omega | (simp; done) | (simp; omega) | (simp [*]; done)))) | (with_reducible refine Below.alloc ?_ (by first | omega | (simp; done) | (simp; omega) | (simp [*]; done)) _) | (with_reducible refine Below.setCell ?_ (by first | omega | (simp; done) | (simp; omega) | (simp [*]; done)) _) | (with_reducible refine Below.drew ?_))))
    intro X21 hX21
    have sX21 := hX21.size
    refine (heldSealed_any _ _ _ _ _ _ _ (Cells.of_own (own_below g_20 hX21)) hl (by omega) (by omega)).mono ?_
    rintro e w21 ⟨rfl, hb21⟩
    have s21 := hb21.size
    have hT21 := hX21.trans (hb21.mono sX21)
    have b_21 := b_20.trans (hT21.mono (by omega))
    have x_21 := cells_below x_20 hT21 (by omega)
    have u_21 := own_below u_20 hT21
    have g_21 := own_below g_20 hT21
    have h_21 := own_below h_20 hT21
    have aV_21 := Blk.past hT21 aV_20
    have uv_21 := Blk.past hT21 uv_20
    have us_21 := Blk.past hT21 us_20
    have gv_21 := Blk.past hT21 gv_20
    have gs_21 := Blk.past hT21 gs_20
    have hv_21 := Blk.past hT21 hv_20
    have hs_21 := Blk.past hT21 hs_20
    clear x_20 u_20 g_20 h_20 aV_20 uv_20 us_20 gv_20 gs_20 hv_20 hs_20 b_20 cell_aV froz_aV lt_aV cell_uv froz_uv lt_uv cell_us froz_us lt_us cell_gv froz_gv lt_gv cell_gs froz_gs lt_gs cell_hv froz_hv lt_hv cell_hs froz_hs lt_hs hT21 hX21 hb21
    have cell_aV := aV_21.cell
    have froz_aV := aV_21.frozen
    have lt_aV := aV_21.lt
    have cell_uv := uv_21.cell
    have froz_uv := uv_21.frozen
    have lt_uv := uv_21.lt
    have cell_us := us_21.cell
    have froz_us := us_21.frozen
    have lt_us := us_21.lt
    have cell_gv := gv_21.cell
    have froz_gv := gv_21.frozen
    have lt_gv := gv_21.lt
    have cell_gs := gs_21.cell
    have froz_gs := gs_21.frozen
    have lt_gs := gs_21.lt
    have cell_hv := hv_21.cell
    have froz_hv := hv_21.frozen
    have lt_hv := hv_21.lt
    have cell_hs := hs_21.cell
    have froz_hs := hs_21.frozen
    have lt_hs := hs_21.lt
    go_wp2
    go_ret
    refine ⟨rfl, b_21.trans ?_⟩
    repeat (first | (with_reducible exact Below.refl _ _) | (with_reducible refine Below.trans ?_ (Below.mono (by assumption) (by first | omega | (simp; done) | (simp; omega) | (simp [*]; done)))) | (with_reducible refine Below.alloc ?_ (by first | omega | (simp; done) | (simp; omega) | (simp [*]; done)) _) | (with_reducible refine Below.setCell ?_ (by first | omega | (simp; done) | (simp; omega) | (simp [*]; done)) _) | (with_reducible refine Below.drew ?_))
  · go_enter Try.func10, Try.ntmps10
    go_wp2
    go_ret
    refine ⟨rfl, ?_⟩
    repeat (first | (with_reducible exact Below.refl _ _) | (with_reducible refine Below.trans ?_ (Below.mono (by assumption) (by first | omega | (simp; done) | (simp; omega) | (simp [*]; done)))) | (with_reducible refine Below.alloc ?_ (by first | omega | (simp; done) | (simp; omega) | (simp [*]; done)) _) | (with_reducible refine Below.setCell ?_ (by first | omega | (simp; done) | (simp; omega) | (simp [*]; done)) _) | (with_reducible refine Below.drew ?_))
set_option maxRecDepth 100000 in
theorem lifted (os : Os) (started : os.Started) (H : Type) (enc : TypeId × Value → H) :
    ReturnsInHanded {} Try.checked os 10 .any (Rows.fnExactSaveSpec.pre6 enc Try.prog Try.f10 Rows.fnExactSaveRow.domain false) (Rows.fnExactSaveSpec.post enc Try.prog Try.f10 false true false false) := by
  refine returnsInHanded_of_change (C := Try.checked) own started (by kernel_rfl) Try.func10
    (ChangeSpec.witness6 (enc := enc) (C := Try.checked) false ⟨#[], #[.agg #[.int .i64 0, .int .i64 0], .slice none 0 0], []⟩ 8 (by kernel_rfl) (by kernel_rfl) (by kernel_rfl) (by kernel_rfl)) ?_
  intro W base args ds gs before hval0 hW _ _
  have hval : ∀ (j : Nat) t v, Try.f10.params[j]? = some t → args[j]? = some v → Value.okWide Try.prog W .any base t v := hval0
  have hW' := hW
  obtain ⟨p, q, hA0, hV, rfl, _, _⟩ := hW
  have hA : DataW.TrodAll enc Try.prog W 0 (fun _ => true) true Try.f10.params.toList args.toList ds p := hA0
  rw [Try.params10] at hA hval
  obtain ⟨v0, vs0, d0, ds0, p0, q0, hargs, rfl, rfl, h0, r0⟩ := trodAll_cons hA
  obtain ⟨v1, vs1, d1, ds1, p1, q1, rfl, rfl, rfl, h1, r1⟩ := trodAll_cons r0
  obtain ⟨rfl, rfl, rfl⟩ := trodAll_nil r1
  obtain rfl : args = #[v0, v1] := by cases args; simp_all
  obtain ⟨rfl, rfl⟩ := trodVars_none hV
  obtain ⟨c0a, c0b, y0a, y0b, _, rfl, hd0, _, hy0a, hy0b⟩ := Joins.open_agg2 Try.underlying58 (by kernel_rfl) (by kernel_rfl : Try.prog.cellsOf 58 = 2) (hval 0 58 v0 rfl rfl) h0
  obtain ⟨a0a, e0a, _, wa0a⟩ := DataW.trod_int Try.underlying3 hy0a
  obtain rfl : c0a = .int .i64 a0a := by simpa using e0a
  obtain ⟨a0b, e0b, _, wa0b⟩ := DataW.trod_int Try.underlying3 hy0b
  obtain rfl : c0b = .int .i64 a0b := by simpa using e0b
  obtain ⟨A1, c1, xs1, rfl, hc1, hw1, hn1⟩ := view_ints Try.underlying24 Try.underlying3 (by kernel_rfl) (hval 1 24 v1 rfl rfl) h1 (fun x hx => hW'.lt x (by simp [hx]))
  refine (walk a0a a0b A1 c1 xs1 W hc1 hn1).mono fun e W' ⟨he, hb⟩ => ?_
  subst he
  exact ⟨_, rfl, law_post rfl (by kernel_rfl) (by kernel_rfl) rfl Try.underlying4 hW' rfl rfl rfl hb⟩
theorem closed : joinedFacts Try.prog 10 Try.f10 Rows.fnExactSaveSpec Rows.fnExactSaveRow = true := by
  unfold joinedFacts
  rw [makeIs, mayIs, finalsIs]
  kernel_rfl
theorem over : Rows.fnExactSaveRow.holds Try.pinned (OpenSpec.ofChange Rows.fnExactSaveSpec) :=
  OpenClaim.holds_of_wide 10 Try.f10 rfl rfl rfl rfl rfl rfl rfl ⟨rfl, rfl, rfl, rfl, rfl⟩ rfl rfl rfl rfl rfl (by kernel_rfl) Try.func10 closed
    (of_decide_eq_true (by kernel_rfl)) (by unfold Func.isWrapper; first | (rw [if_pos (by decide +kernel)]; kernel_rfl) | (rw [if_neg (by decide +kernel)]; exact ⟨rfl, rfl⟩))
    (fun os started H enc _ => lifted os started H enc)
theorem proved : Rows.FnExactSaveSaid := over
#print axioms proved

end save
end Go.Proofs.Ytdfomahaplcgoaa
