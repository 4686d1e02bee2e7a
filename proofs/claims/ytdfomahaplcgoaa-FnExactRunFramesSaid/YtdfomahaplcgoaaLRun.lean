/- The law that RunFrames of the program returns what the reference's returns, for all arguments. No conditions. -/
import Derived.Test.YtdfomahaplcgoaaRunI
import Derived.Test.YtdfomahaplcgoaaRunS
import Derived.Test.YtdfomahaplcgoaaHead
import Derived.Outline
set_option linter.unusedVariables false
namespace Go.Proofs.Ytdfomahaplcgoaa
open Go.RowKit Go.ChangeShapes Go.WideShapes Go.ChangeAt

namespace runFrames
set_option maxHeartbeats 3200000 in
theorem walk (k : Int) (A : Option Addr) (c : Nat) (xs : List Int) (B : Option Addr) (d : Nat) (ys : List Int) (w : World) (hx : Cells w w.heap.size A (ints xs)) (hn : xs.length ≤ maxLen) (hy : Cells w w.heap.size B (ints ys)) (hm : ys.length ≤ maxLen) :
    Calls Try.prog 8 #[.int .i64 k, .slice A xs.length c, .slice B ys.length d] w fun e w' => e = .returned (.bool true) ∧ Below w.heap.size w w' := by
  unfold maxLen at hn hm
  by_cases h1 : xs.length ≤ 1048576
  rotate_left
  · go_enter Try.func8, Try.ntmps8
    go_wp2
    go_ret
    exact ⟨rfl, Below.refl _ _⟩
  by_cases h2 : ys.length ≤ 1048576
  rotate_left
  · go_enter Try.func8, Try.ntmps8
    go_wp2
    go_ret
    exact ⟨rfl, Below.refl _ _⟩
  have hl : (runL k xs ys).length ≤ 1000000000 := by
    unfold runL
    split
    · rw [List.length_take]; omega
    · simp
  go_enter Try.func8, Try.ntmps8
  have b_0 := (Below.refl w.heap.size w)
  have s_0 := b_0.size
  have x_0 := hx
  clear hx
  have y_0 := hy
  clear hy
  go_wp2_with fail
  refine calls_forget0 (W := w) ?_ ?_
  (focus (repeat (first | (with_reducible exact Below.refl _ _) | (with_reducible refine Below.trans ?_ (Below.mono (by assumption) (by first | omega | (simp; done) | (simp; omega) | (simp [*]; done)))) | (with_reducible refine Below.alloc ?_ (by first | omega | (simp; done) | (simp; omega) | (simp [*]; done)) _) | (with_reducible refine Below.setCell ?_ (by first | omega | (simp; done) | (simp; omega) | (simp [*]; done)) _) | (with_reducible refine Below.drew ?_))))
  intro X1 hX1
  have sX1 := hX1.size
  refine (toIntS_any _ _ _ _ ((cells_below x_0 hX1 (by omega)).more (by omega)) h1).mono ?_
  rintro e w1 ⟨rfl, a_1, hb1⟩
  have s1 := hb1.size
  have hT1 := hX1.trans (hb1.mono sX1)
  have b_1 := b_0.trans (hT1.mono (by omega))
  have x_1 := cells_below x_0 hT1 (by omega)
  have y_1 := cells_below y_0 hT1 (by omega)
  have a_in := own_in a_1
  clear x_0 y_0 b_0 hX1 hT1 hb1
  go_wp2_with fail
  refine calls_forget0 (W := w1) ?_ ?_
  (focus (repeat (first | (with_reducible exact Below.refl _ _) | (with_reducible refine Below.trans ?_ (Below.mono (by assumption) (by first | omega | (simp; done) | (simp; omega) | (simp [*]; done)))) | (with_reducible refine Below.alloc ?_ (by first | omega | (simp; done) | (simp; omega) | (simp [*]; done)) _) | (with_reducible refine Below.setCell ?_ (by first | omega | (simp; done) | (simp; omega) | (simp [*]; done)) _) | (with_reducible refine Below.drew ?_))))
  intro X2 hX2
  have sX2 := hX2.size
  refine (toIntS_any _ _ _ _ ((cells_below y_1 hX2 (by omega)).more (by omega)) h2).mono ?_
  rintro e w2 ⟨rfl, bb_2, hb2⟩
  have s2 := hb2.size
  have hT2 := hX2.trans (hb2.mono sX2)
  have b_2 := b_1.trans (hT2.mono (by omega))
  have x_2 := cells_below x_1 hT2 (by omega)
  have y_2 := cells_below y_1 hT2 (by omega)
  have a_2 := own_below a_1 hT2
  have bb_in := own_in bb_2
  clear x_1 y_1 a_1 b_1 hX2 hT2 hb2
  go_wp2_with fail
  refine calls_forget0 (W := w2) ?_ ?_
  (focus (repeat (first | (with_reducible exact Below.refl _ _) | (with_reducible refine Below.trans ?_ (Below.mono (by assumption) (by first | omega | (simp; done) | (simp; omega) | (simp [*]; done)))) | (with_reducible refine Below.alloc ?_ (by first | omega | (simp; done) | (simp; omega) | (simp [*]; done)) _) | (with_reducible refine Below.setCell ?_ (by first | omega | (simp; done) | (simp; omega) | (simp [*]; done)) _) | (with_reducible refine Below.drew ?_))))
  intro X3 hX3
  have sX3 := hX3.size
  refine (sRunFrames _ _ _ _ _ _ _ _ (Cells.of_own (own_below a_2 hX3)) (Cells.of_own (own_below bb_2 hX3)) (by omega) (by omega)).mono ?_
  rintro e w3 ⟨Au, cu, rfl, u_3, hb3⟩
  have s3 := hb3.size
  have hT3 := hX3.trans (hb3.mono sX3)
  have b_3 := b_2.trans (hT3.mono (by omega))
  have x_3 := cells_below x_2 hT3 (by omega)
  have y_3 := cells_below y_2 hT3 (by omega)
  have a_3 := own_below a_2 hT3
  have bb_3 := own_below bb_2 hT3
  have u_in := own_in u_3
  clear x_2 y_2 a_2 bb_2 b_2 hX3 hT3 hb3
  clear a_3
  clear bb_3
  go_wp2_with fail
  refine calls_forget0 (W := w3) ?_ ?_
  (focus (repeat (first | (with_reducible exact Below.refl _ _) | (with_reducible refine Below.trans ?_ (Below.mono (by assumption) (by first | omega | (simp; done) | (simp; omega) | (simp [*]; done)))) | (with_reducible refine Below.alloc ?_ (by first | omega | (simp; done) | (simp; omega) | (simp [*]; done)) _) | (with_reducible refine Below.setCell ?_ (by first | omega | (simp; done) | (simp; omega) | (simp [*]; done)) _) | (with_reducible refine Below.drew ?_))))
  intro X4 hX4
  have sX4 := hX4.size
  refine (toIntS_any _ _ _ _ ((cells_below x_3 hX4 (by omega)).more (by omega)) h1).mono ?_
  rintro e w4 ⟨rfl, p_4, hb4⟩
  have s4 := hb4.size
  have hT4 := hX4.trans (hb4.mono sX4)
  have b_4 := b_3.trans (hT4.mono (by omega))
  have x_4 := cells_below x_3 hT4 (by omega)
  have y_4 := cells_below y_3 hT4 (by omega)
  have u_4 := own_below u_3 hT4
  have p_in := own_in p_4
  clear x_3 y_3 u_3 b_3 hX4 hT4 hb4
  go_wp2_with fail
  refine calls_forget0 (W := w4) ?_ ?_
  (focus (repeat (first | (with_reducible exact Below.refl _ _) | (with_reducible refine Below.trans ?_ (Below.mono (by assumption) (by first | omega | (simp; done) | (simp; omega) | (simp [*]; done)))) | (with_reducible refine Below.alloc ?_ (by first | omega | (simp; done) | (simp; omega) | (simp [*]; done)) _) | (with_reducible refine Below.setCell ?_ (by first | omega | (simp; done) | (simp; omega) | (simp [*]; done)) _) | (with_reducible refine Below.drew ?_))))
  intro X5 hX5
  have sX5 := hX5.size
  refine (toIntS_any _ _ _ _ ((cells_below y_4 hX5 (by omega)).more (by omega)) h2).mono ?_
  rintro e w5 ⟨rfl, q_5, hb5⟩
  have s5 := hb5.size
  have hT5 := hX5.trans (hb5.mono sX5)
  have b_5 := b_4.trans (hT5.mono (by omega))
  have x_5 := cells_below x_4 hT5 (by omega)
  have y_5 := cells_below y_4 hT5 (by omega)
  have u_5 := own_below u_4 hT5
  have p_5 := own_below p_4 hT5
  have q_in := own_in q_5
  clear x_4 y_4 u_4 p_4 b_4 hX5 hT5 hb5
  go_wp2_with fail
  refine calls_forget0 (W := w5) ?_ ?_
  (focus (repeat (first | (with_reducible exact Below.refl _ _) | (with_reducible refine Below.trans ?_ (Below.mono (by assumption) (by first | omega | (simp; done) | (simp; omega) | (simp [*]; done)))) | (with_reducible refine Below.alloc ?_ (by first | omega | (simp; done) | (simp; omega) | (simp [*]; done)) _) | (with_reducible refine Below.setCell ?_ (by first | omega | (simp; done) | (simp; omega) | (simp [*]; done)) _) | (with_reducible refine Below.drew ?_))))
  intro X6 hX6
  have sX6 := hX6.size
  refine (iRunFrames _ _ _ _ _ _ _ _ (Cells.of_own (own_below p_5 hX6)) (Cells.of_own (own_below q_5 hX6)) (by omega) (by omega)).mono ?_
  rintro e w6 ⟨Ag, cg, rfl, g_6, hb6⟩
  have s6 := hb6.size
  have hT6 := hX6.trans (hb6.mono sX6)
  have b_6 := b_5.trans (hT6.mono (by omega))
  have x_6 := cells_below x_5 hT6 (by omega)
  have y_6 := cells_below y_5 hT6 (by omega)
  have u_6 := own_below u_5 hT6
  have p_6 := own_below p_5 hT6
  have q_6 := own_below q_5 hT6
  have g_in := own_in g_6
  clear x_5 y_5 u_5 p_5 q_5 b_5 hX6 hT6 hb6
  go_wp2_with fail
  refine calls_forget0 (W := w6) ?_ ?_
  (focus (repeat (first | (with_reducible exact Below.refl _ _) | (with_reducible refine Below.trans ?_ (Below.mono (by assumption) (by first | omega | (simp; done) | (simp; omega) | (simp [*]; done)))) | (with_reducible refine Below.alloc ?_ (by first | omega | (simp; done) | (simp; omega) | (simp [*]; done)) _) | (with_reducible refine Below.setCell ?_ (by first | omega | (simp; done) | (simp; omega) | (simp [*]; done)) _) | (with_reducible refine Below.drew ?_))))
  intro X7 hX7
  have sX7 := hX7.size
  refine (eqIntS_same _ _ _ _ _ _ (Cells.of_own (own_below g_6 hX7)) (Cells.of_own (own_below u_6 hX7)) hl).mono ?_
  rintro e w7 ⟨rfl, hb7⟩
  have s7 := hb7.size
  have hT7 := hX7.trans (hb7.mono sX7)
  have b_7 := b_6.trans (hT7.mono (by omega))
  have x_7 := cells_below x_6 hT7 (by omega)
  have y_7 := cells_below y_6 hT7 (by omega)
  have u_7 := own_below u_6 hT7
  have p_7 := own_below p_6 hT7
  have q_7 := own_below q_6 hT7
  have g_7 := own_below g_6 hT7
  clear x_6 y_6 u_6 p_6 q_6 g_6 b_6 hX7 hT7 hb7
  go_wp2_with fail
  refine calls_forget0 (W := w7) ?_ ?_
  (focus (repeat (first | (with_reducible exact Below.refl _ _) | (with_reducible refine Below.trans ?_ (Below.mono (by assumption) (by first | omega | (simp; done) | (simp; omega) | (simp [*]; done)))) | (with_reducible refine Below.alloc ?_ (by first | omega | (simp; done) | (simp; omega) | (simp [*]; done)) _) | (with_reducible refine Below.setCell ?_ (by first | omega | (simp; done) | (simp; omega) | (simp [*]; done)) _) | (with_reducible refine Below.drew ?_))))
  intro X8 hX8
  have sX8 := hX8.size
  refine (toIntS_any _ _ _ _ ((cells_below x_7 hX8 (by omega)).more (by omega)) h1).mono ?_
  rintro e w8 ⟨rfl, z_8, hb8⟩
  have s8 := hb8.size
  have hT8 := hX8.trans (hb8.mono sX8)
  have b_8 := b_7.trans (hT8.mono (by omega))
  have x_8 := cells_below x_7 hT8 (by omega)
  have y_8 := cells_below y_7 hT8 (by omega)
  have u_8 := own_below u_7 hT8
  have p_8 := own_below p_7 hT8
  have q_8 := own_below q_7 hT8
  have g_8 := own_below g_7 hT8
  have z_in := own_in z_8
  clear x_7 y_7 u_7 p_7 q_7 g_7 b_7 hX8 hT8 hb8
  go_wp2_with fail
  refine calls_forget0 (W := w8) ?_ ?_
  (focus (repeat (first | (with_reducible exact Below.refl _ _) | (with_reducible refine Below.trans ?_ (Below.mono (by assumption) (by first | omega | (simp; done) | (simp; omega) | (simp [*]; done)))) | (with_reducible refine Below.alloc ?_ (by first | omega | (simp; done) | (simp; omega) | (simp [*]; done)) _) | (with_reducible refine Below.setCell ?_ (by first | omega | (simp; done) | (simp; omega) | (simp [*]; done)) _) | (with_reducible refine Below.drew ?_))))
  intro X9 hX9
  have sX9 := hX9.size
  refine (eqIntS_same _ _ _ _ _ _ (Cells.of_own (own_below p_8 hX9)) (Cells.of_own (own_below z_8 hX9)) (by omega)).mono ?_
  rintro e w9 ⟨rfl, hb9⟩
  have s9 := hb9.size
  have hT9 := hX9.trans (hb9.mono sX9)
  have b_9 := b_8.trans (hT9.mono (by omega))
  have x_9 := cells_below x_8 hT9 (by omega)
  have y_9 := cells_below y_8 hT9 (by omega)
  have u_9 := own_below u_8 hT9
  have p_9 := own_below p_8 hT9
  have q_9 := own_below q_8 hT9
  have g_9 := own_below g_8 hT9
  have z_9 := own_below z_8 hT9
  clear x_8 y_8 u_8 p_8 q_8 g_8 z_8 b_8 hX9 hT9 hb9
  clear z_9
  go_wp2_with fail
  refine calls_forget0 (W := w9) ?_ ?_
  (focus (repeat (first | (with_reducible exact Below.refl _ _) | (with_reducible refine Below.trans ?_ (Below.mono (by assumption) (by first | omega | (simp; done) | (simp; omega) | (simp [*]; done)))) | (with_reducible refine Below.alloc ?_ (by first | omega | (simp; done) | (simp; omega) | (simp [*]; done)) _) | (with_reducible refine Below.setCell ?_ (by first | omega | (simp; done) | (simp; omega) | (simp [*]; done)) _) | (with_reducible refine Below.drew ?_))))
  intro X10 hX10
  have sX10 := hX10.size
  refine (toIntS_any _ _ _ _ ((cells_below y_9 hX10 (by omega)).more (by omega)) h2).mono ?_
  rintro e w10 ⟨rfl, z_10, hb10⟩
  have s10 := hb10.size
  have hT10 := hX10.trans (hb10.mono sX10)
  have b_10 := b_9.trans (hT10.mono (by omega))
  have x_10 := cells_below x_9 hT10 (by omega)
  have y_10 := cells_below y_9 hT10 (by omega)
  have u_10 := own_below u_9 hT10
  have p_10 := own_below p_9 hT10
  have q_10 := own_below q_9 hT10
  have g_10 := own_below g_9 hT10
  have z_in := own_in z_10
  clear x_9 y_9 u_9 p_9 q_9 g_9 b_9 hX10 hT10 hb10
  go_wp2_with fail
  refine calls_forget0 (W := w10) ?_ ?_
  (focus (repeat (first | (with_reducible exact Below.refl _ _) | (with_reducible refine Below.trans ?_ (Below.mono (by assumption) (by first | omega | (simp; done) | (simp; omega) | (simp [*]; done)))) | (with_reducible refine Below.alloc ?_ (by first | omega | (simp; done) | (simp; omega) | (simp [*]; done)) _) | (with_reducible refine Below.setCell ?_ (by first | omega | (simp; done) | (simp; omega) | (simp [*]; done)) _) | (with_reducible refine Below.drew ?_))))
  intro X11 hX11
  have sX11 := hX11.size
  refine (eqIntS_same _ _ _ _ _ _ (Cells.of_own (own_below q_10 hX11)) (Cells.of_own (own_below z_10 hX11)) (by omega)).mono ?_
  rintro e w11 ⟨rfl, hb11⟩
  have s11 := hb11.size
  have hT11 := hX11.trans (hb11.mono sX11)
  have b_11 := b_10.trans (hT11.mono (by omega))
  have x_11 := cells_below x_10 hT11 (by omega)
  have y_11 := cells_below y_10 hT11 (by omega)
  have u_11 := own_below u_10 hT11
  have p_11 := own_below p_10 hT11
  have q_11 := own_below q_10 hT11
  have g_11 := own_below g_10 hT11
  have z_11 := own_below z_10 hT11
  clear x_10 y_10 u_10 p_10 q_10 g_10 z_10 b_10 hX11 hT11 hb11
  clear z_11
  go_wp2_with fail
  refine calls_forget0 (W := w11) ?_ ?_
  (focus (repeat (first | (with_reducible exact Below.refl _ _) | (with_reducible refine Below.trans ?_ (Below.mono (by assumption) (by first | omega | (simp; done) | (simp; omega) | (simp [*]; done)))) | (with_reducible refine Below.alloc ?_ (by first | omega | (simp; done) | (simp; omega) | (simp [*]; done)) _) | (with_reducible refine Below.setCell ?_ (by first | omega | (simp; done) | (simp; omega) | (simp [*]; done)) _) | (with_reducible refine Below.drew ?_))))
  intro X12 hX12
  have sX12 := hX12.size
  refine (markIntS_any _ _ _ _ _ _ _ (own_below p_11 hX12) (by omega) (by omega) (by omega)).mono ?_
  rintro e w12 ⟨rfl, p_12, hg12⟩
  have s12 := hg12.size
  have hT12 := below_grown hX12 hg12
  have b_12 := gr_below hT12 b_11 (by omega) (fun q hq => by have h1 := p_in q hq; omega)
  have x_12 := gr_cells hT12 x_11 (by omega) (fun q hq => by have h1 := p_in q hq; omega)
  have y_12 := gr_cells hT12 y_11 (by omega) (fun q hq => by have h1 := p_in q hq; omega)
  have u_12 := gr_own hT12 u_11 (fun q p hq hp => by have h1 := p_in q hq; have h2 := u_in p hp; omega)
  have q_12 := gr_own hT12 q_11 (fun q p hq hp => by have h1 := p_in q hq; have h2 := q_in p hp; omega)
  have g_12 := gr_own hT12 g_11 (fun q p hq hp => by have h1 := p_in q hq; have h2 := g_in p hp; omega)
  clear x_11 y_11 u_11 p_11 q_11 g_11 b_11 hX12 hT12 hg12
  go_wp2_with fail
  refine calls_forget0 (W := w12) ?_ ?_
  (focus (repeat (first | (with_reducible exact Below.refl _ _) | (with_reducible refine Below.trans ?_ (Below.mono (by assumption) (by first | omega | (simp; done) | (simp; omega) | (simp [*]; done)))) | (with_reducible refine Below.alloc ?_ (by first | omega | (simp; done) | (simp; omega) | (simp [*]; done)) _) | (with_reducible refine Below.setCell ?_ (by first | omega | (simp; done) | (simp; omega) | (simp [*]; done)) _) | (with_reducible refine Below.drew ?_))))
  intro X13 hX13
  have sX13 := hX13.size
  refine (markIntS_any _ _ _ _ _ _ _ (own_below q_12 hX13) (by omega) (by omega) (by omega)).mono ?_
  rintro e w13 ⟨rfl, q_13, hg13⟩
  have s13 := hg13.size
  have hT13 := below_grown hX13 hg13
  have b_13 := gr_below hT13 b_12 (by omega) (fun q hq => by have h1 := q_in q hq; omega)
  have x_13 := gr_cells hT13 x_12 (by omega) (fun q hq => by have h1 := q_in q hq; omega)
  have y_13 := gr_cells hT13 y_12 (by omega) (fun q hq => by have h1 := q_in q hq; omega)
  have u_13 := gr_own hT13 u_12 (fun q p hq hp => by have h1 := q_in q hq; have h2 := u_in p hp; omega)
  have p_13 := gr_own hT13 p_12 (fun q p hq hp => by have h1 := q_in q hq; have h2 := p_in p hp; omega)
  have g_13 := gr_own hT13 g_12 (fun q p hq hp => by have h1 := q_in q hq; have h2 := g_in p hp; omega)
  clear x_12 y_12 u_12 p_12 q_12 g_12 b_12 hX13 hT13 hg13
  go_wp2_with fail
  refine calls_forget0 (W := w13) ?_ ?_
  (focus (repeat (first | (with_reducible exact Below.refl _ _) | (with_reducible refine Below.trans ?_ (Below.mono (by assumption) (by first | omega | (simp; done) | (simp; omega) | (simp [*]; done)))) | (with_reducible refine Below.alloc ?_ (by first | omega | (simp; done) | (simp; omega) | (simp [*]; done)) _) | (with_reducible refine Below.setCell ?_ (by first | omega | (simp; done) | (simp; omega) | (simp [*]; done)) _) | (with_reducible refine Below.drew ?_))))
  intro X14 hX14
  have sX14 := hX14.size
  refine (eqIntS_same _ _ _ _ _ _ (Cells.of_own (own_below g_13 hX14)) (Cells.of_own (own_below u_13 hX14)) hl).mono ?_
  rintro e w14 ⟨rfl, hb14⟩
  have s14 := hb14.size
  have hT14 := hX14.trans (hb14.mono sX14)
  have b_14 := b_13.trans (hT14.mono (by omega))
  have x_14 := cells_below x_13 hT14 (by omega)
  have y_14 := cells_below y_13 hT14 (by omega)
  have u_14 := own_below u_13 hT14
  have p_14 := own_below p_13 hT14
  have q_14 := own_below q_13 hT14
  have g_14 := own_below g_13 hT14
  clear x_13 y_13 u_13 p_13 q_13 g_13 b_13 hX14 hT14 hb14
  clear p_14
  clear q_14
  go_wp2_with fail
  refine calls_forget0 (W := w14) ?_ ?_
  (focus (repeat (first | (with_reducible exact Below.refl _ _) | (with_reducible refine Below.trans ?_ (Below.mono (by assumption) (by first | omega | (simp; done) | (simp; omega) | (simp [*]; done)))) | (with_reducible refine Below.alloc ?_ (by first | omega | (simp; done) | (simp; omega) | (simp [*]; done)) _) | (with_reducible refine Below.setCell ?_ (by first | omega | (simp; done) | (simp; omega) | (simp [*]; done)) _) | (with_reducible refine Below.drew ?_))))
  intro X15 hX15
  have sX15 := hX15.size
  refine (markIntS_any _ _ _ _ _ _ _ (own_below g_14 hX15) hl (by omega) (by omega)).mono ?_
  rintro e w15 ⟨rfl, g_15, hg15⟩
  have s15 := hg15.size
  have hT15 := below_grown hX15 hg15
  have b_15 := gr_below hT15 b_14 (by omega) (fun q hq => by have h1 := g_in q hq; omega)
  have x_15 := gr_cells hT15 x_14 (by omega) (fun q hq => by have h1 := g_in q hq; omega)
  have y_15 := gr_cells hT15 y_14 (by omega) (fun q hq => by have h1 := g_in q hq; omega)
  have u_15 := gr_own hT15 u_14 (fun q p hq hp => by have h1 := g_in q hq; have h2 := u_in p hp; omega)
  clear x_14 y_14 u_14 g_14 b_14 hX15 hT15 hg15
  go_wp2_with fail
  refine calls_forget0 (W := w15) ?_ ?_
  (focus (repeat (first | (with_reducible exact Below.refl _ _) | (with_reducible refine Below.trans ?_ (Below.mono (by assumption) (by first | omega | (simp; done) | (simp; omega) | (simp [*]; done)))) | (with_reducible refine Below.alloc ?_ (by first | omega | (simp; done) | (simp; omega) | (simp [*]; done)) _) | (with_reducible refine Below.setCell ?_ (by first | omega | (simp; done) | (simp; omega) | (simp [*]; done)) _) | (with_reducible refine Below.drew ?_))))
  intro X16 hX16
  have sX16 := hX16.size
  refine (heldIntS_any _ _ _ _ _ (Cells.of_own (own_below g_15 hX16)) hl (by omega) (by omega)).mono ?_
  rintro e w' ⟨rfl, rfl⟩
  have b_16 := b_15.trans (hX16.mono (by omega))
  have x_16 := cells_below x_15 hX16 (by omega)
  have y_16 := cells_below y_15 hX16 (by omega)
  have u_16 := own_below u_15 hX16
  have g_16 := own_below g_15 hX16
  clear x_15 y_15 u_15 g_15 b_15 hX16
  go_wp2_with fail
  refine calls_forget0 (W := X16) ?_ ?_
  (focus (repeat (first | (with_reducible exact Below.refl _ _) | (with_reducible refine Below.trans ?_ (Below.mono (by assumption) (by first | omega | (simp; done) | (simp; omega) | (simp [*]; done)))) | (with_reducible refine Below.alloc ?_ (by first | omega | (simp; done) | (simp; omega) | (simp [*]; done)) _) | (with_reducible refine Below.setCell ?_ (by first | omega | (simp; done) | (simp; omega) | (simp [*]; done)) _) | (with_reducible refine Below.drew ?_))))
  intro X17 hX17
  have sX17 := hX17.size
  refine (toIntS_any _ _ _ _ ((cells_below x_16 hX17 (by omega)).more (by omega)) h1).mono ?_
  rintro e w17 ⟨rfl, a_17, hb17⟩
  have s17 := hb17.size
  have hT17 := hX17.trans (hb17.mono sX17)
  have b_17 := b_16.trans (hT17.mono (by omega))
  have x_17 := cells_below x_16 hT17 (by omega)
  have y_17 := cells_below y_16 hT17 (by omega)
  have u_17 := own_below u_16 hT17
  have g_17 := own_below g_16 hT17
  have a_in := own_in a_17
  clear x_16 y_16 u_16 g_16 b_16 hX17 hT17 hb17
  go_wp2_with fail
  refine calls_forget0 (W := w17) ?_ ?_
  (focus (repeat (first | (with_reducible exact Below.refl _ _) | (with_reducible refine Below.trans ?_ (Below.mono (by assumption) (by first | omega | (simp; done) | (simp; omega) | (simp [*]; done)))) | (with_reducible refine Below.alloc ?_ (by first | omega | (simp; done) | (simp; omega) | (simp [*]; done)) _) | (with_reducible refine Below.setCell ?_ (by first | omega | (simp; done) | (simp; omega) | (simp [*]; done)) _) | (with_reducible refine Below.drew ?_))))
  intro X18 hX18
  have sX18 := hX18.size
  refine (toIntS_any _ _ _ _ ((cells_below y_17 hX18 (by omega)).more (by omega)) h2).mono ?_
  rintro e w18 ⟨rfl, bb_18, hb18⟩
  have s18 := hb18.size
  have hT18 := hX18.trans (hb18.mono sX18)
  have b_18 := b_17.trans (hT18.mono (by omega))
  have x_18 := cells_below x_17 hT18 (by omega)
  have y_18 := cells_below y_17 hT18 (by omega)
  have u_18 := own_below u_17 hT18
  have g_18 := own_below g_17 hT18
  have a_18 := own_below a_17 hT18
  have bb_in := own_in bb_18
  clear x_17 y_17 u_17 g_17 a_17 b_17 hX18 hT18 hb18
  go_wp2_with fail
  refine calls_forget0 (W := w18) ?_ ?_
  (focus (repeat (first | (with_reducible exact Below.refl _ _) | (with_reducible refine Below.trans ?_ (Below.mono (by assumption) (by first | omega | (simp; done) | (simp; omega) | (simp [*]; done)))) | (with_reducible refine Below.alloc ?_ (by first | omega | (simp; done) | (simp; omega) | (simp [*]; done)) _) | (with_reducible refine Below.setCell ?_ (by first | omega | (simp; done) | (simp; omega) | (simp [*]; done)) _) | (with_reducible refine Below.drew ?_))))
  intro X19 hX19
  have sX19 := hX19.size
  refine (iRunFrames _ _ _ _ _ _ _ _ (Cells.of_own (own_below a_18 hX19)) (Cells.of_own (own_below bb_18 hX19)) (by omega) (by omega)).mono ?_
  rintro e w19 ⟨Ah, ch, rfl, h_19, hb19⟩
  have s19 := hb19.size
  have hT19 := hX19.trans (hb19.mono sX19)
  have b_19 := b_18.trans (hT19.mono (by omega))
  have x_19 := cells_below x_18 hT19 (by omega)
  have y_19 := cells_below y_18 hT19 (by omega)
  have u_19 := own_below u_18 hT19
  have g_19 := own_below g_18 hT19
  have a_19 := own_below a_18 hT19
  have bb_19 := own_below bb_18 hT19
  have h_in := own_in h_19
  clear x_18 y_18 u_18 g_18 a_18 bb_18 b_18 hX19 hT19 hb19
  go_wp2_with fail
  refine calls_forget0 (W := w19) ?_ ?_
  (focus (repeat (first | (with_reducible exact Below.refl _ _) | (with_reducible refine Below.trans ?_ (Below.mono (by assumption) (by first | omega | (simp; done) | (simp; omega) | (simp [*]; done)))) | (with_reducible refine Below.alloc ?_ (by first | omega | (simp; done) | (simp; omega) | (simp [*]; done)) _) | (with_reducible refine Below.setCell ?_ (by first | omega | (simp; done) | (simp; omega) | (simp [*]; done)) _) | (with_reducible refine Below.drew ?_))))
  intro X20 hX20
  have sX20 := hX20.size
  refine (eqIntS_same _ _ _ _ _ _ (Cells.of_own (own_below h_19 hX20)) (Cells.of_own (own_below u_19 hX20)) hl).mono ?_
  rintro e w20 ⟨rfl, hb20⟩
  have s20 := hb20.size
  have hT20 := hX20.trans (hb20.mono sX20)
  have b_20 := b_19.trans (hT20.mono (by omega))
  have x_20 := cells_below x_19 hT20 (by omega)
  have y_20 := cells_below y_19 hT20 (by omega)
  have u_20 := own_below u_19 hT20
  have g_20 := own_below g_19 hT20
  have a_20 := own_below a_19 hT20
  have bb_20 := own_below bb_19 hT20
  have h_20 := own_below h_19 hT20
  clear x_19 y_19 u_19 g_19 a_19 bb_19 h_19 b_19 hX20 hT20 hb20
  go_wp2_with fail
  refine calls_forget0 (W := w20) ?_ ?_
  (focus (repeat (first | (with_reducible exact Below.refl _ _) | (with_reducible refine Below.trans ?_ (Below.mono (by assumption) (by first | omega | (simp; done) | (simp; omega) | (simp [*]; done)))) | (with_reducible refine Below.alloc ?_ (by first | omega | (simp; done) | (simp; omega) | (simp [*]; done)) _) | (with_reducible refine Below.setCell ?_ (by first | omega | (simp; done) | (simp; omega) | (simp [*]; done)) _) | (with_reducible refine Below.drew ?_))))
  intro X21 hX21
  have sX21 := hX21.size
  refine (heldIntS_any _ _ _ _ _ (Cells.of_own (own_below g_20 hX21)) hl (by omega) (by omega)).mono ?_
  rintro e w' ⟨rfl, rfl⟩
  have b_21 := b_20.trans (hX21.mono (by omega))
  have x_21 := cells_below x_20 hX21 (by omega)
  have y_21 := cells_below y_20 hX21 (by omega)
  have u_21 := own_below u_20 hX21
  have g_21 := own_below g_20 hX21
  have a_21 := own_below a_20 hX21
  have bb_21 := own_below bb_20 hX21
  have h_21 := own_below h_20 hX21
  clear x_20 y_20 u_20 g_20 a_20 bb_20 h_20 b_20 hX21
  go_wp2
  go_ret
  refine ⟨rfl, b_21.trans ?_⟩
  repeat (first | (with_reducible exact Below.refl _ _) | (with_reducible refine Below.trans ?_ (Below.mono (by assumption) (by first | omega | (simp; done) | (simp; omega) | (simp [*]; done)))) | (with_reducible refine Below.alloc ?_ (by first | omega | (simp; done) | (simp; omega) | (simp [*]; done)) _) | (with_reducible refine Below.setCell ?_ (by first | omega | (simp; done) | (simp; omega) | (simp [*]; done)) _) | (with_reducible refine Below.drew ?_))
set_option maxRecDepth 100000 in
theorem lifted (os : Os) (started : os.Started) (H : Type) (enc : TypeId × Value → H) :
    ReturnsInHanded {} Try.checked os 8 .any (Rows.fnExactRunFramesSpec.pre6 enc Try.prog Try.f8 Rows.fnExactRunFramesRow.domain false) (Rows.fnExactRunFramesSpec.post enc Try.prog Try.f8 false true false false) := by
  refine returnsInHanded_of_change (C := Try.checked) own started (by kernel_rfl) Try.func8
    (ChangeSpec.witness6 (enc := enc) (C := Try.checked) false ⟨#[], #[.int .i64 0, .slice none 0 0, .slice none 0 0], []⟩ 8 (by kernel_rfl) (by kernel_rfl) (by kernel_rfl) (by kernel_rfl)) ?_
  intro W base args ds gs before hval0 hW _ _
  have hval : ∀ (j : Nat) t v, Try.f8.params[j]? = some t → args[j]? = some v → Value.okWide Try.prog W .any base t v := hval0
  have hW' := hW
  obtain ⟨p, q, hA0, hV, rfl, _, _⟩ := hW
  have hA : DataW.TrodAll enc Try.prog W 0 (fun _ => true) true Try.f8.params.toList args.toList ds p := hA0
  rw [Try.params8] at hA hval
  obtain ⟨v0, vs0, d0, ds0, p0, q0, hargs, rfl, rfl, h0, r0⟩ := trodAll_cons hA
  obtain ⟨v1, vs1, d1, ds1, p1, q1, rfl, rfl, rfl, h1, r1⟩ := trodAll_cons r0
  obtain ⟨v2, vs2, d2, ds2, p2, q2, rfl, rfl, rfl, h2, r2⟩ := trodAll_cons r1
  obtain ⟨rfl, rfl, rfl⟩ := trodAll_nil r2
  obtain rfl : args = #[v0, v1, v2] := by cases args; simp_all
  obtain ⟨rfl, rfl⟩ := trodVars_none hV
  obtain ⟨a0, rfl, hd0, _, wa0⟩ := open_int Try.underlying3 (hval 0 3 v0 rfl rfl) h0
  obtain ⟨A1, c1, xs1, rfl, hc1, hw1, hn1⟩ := view_ints Try.underlying24 Try.underlying3 (by kernel_rfl) (hval 1 24 v1 rfl rfl) h1 (fun x hx => hW'.lt x (by simp [hx]))
  obtain ⟨A2, c2, xs2, rfl, hc2, hw2, hn2⟩ := view_ints Try.underlying24 Try.underlying3 (by kernel_rfl) (hval 2 24 v2 rfl rfl) h2 (fun x hx => hW'.lt x (by simp [hx]))
  refine (walk a0 A1 c1 xs1 A2 c2 xs2 W hc1 hn1 hc2 hn2).mono fun e W' ⟨he, hb⟩ => ?_
  subst he
  exact ⟨_, rfl, law_post rfl (by kernel_rfl) (by kernel_rfl) rfl Try.underlying4 hW' rfl rfl rfl hb⟩
theorem closed : joinedFacts Try.prog 8 Try.f8 Rows.fnExactRunFramesSpec Rows.fnExactRunFramesRow = true := by
  unfold joinedFacts
  rw [makeIs, mayIs, finalsIs]
  kernel_rfl
theorem over : Rows.fnExactRunFramesRow.holds Try.pinned (OpenSpec.ofChange Rows.fnExactRunFramesSpec) :=
  OpenClaim.holds_of_wide 8 Try.f8 rfl rfl rfl rfl rfl rfl rfl ⟨rfl, rfl, rfl, rfl, rfl⟩ rfl rfl rfl rfl rfl (by kernel_rfl) Try.func8 closed
    (of_decide_eq_true (by kernel_rfl)) (by unfold Func.isWrapper; first | (rw [if_pos (by decide +kernel)]; kernel_rfl) | (rw [if_neg (by decide +kernel)]; exact ⟨rfl, rfl⟩))
    (fun os started H enc _ => lifted os started H enc)
theorem proved : Rows.FnExactRunFramesSaid := over
#print axioms proved

end runFrames
end Go.Proofs.Ytdfomahaplcgoaa
