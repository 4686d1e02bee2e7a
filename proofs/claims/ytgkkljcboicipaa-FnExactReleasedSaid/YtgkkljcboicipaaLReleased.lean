/- The law that Released of the program returns what the reference's returns, for all arguments. No conditions. -/
import Derived.Test.YtgkkljcboicipaaReleased
import Derived.Test.YtgkkljcboicipaaStructs
import Derived.Test.YtgkkljcboicipaaHead
set_option linter.unusedVariables false
namespace Go.Proofs.Ytgkkljcboicipaa
open Go.RowKit Go.ChangeShapes Go.WideShapes Go.ChangeAt

namespace released
set_option maxHeartbeats 3200000 in
theorem walk (p : Int) (A : Option Addr) (c : Nat) (xs : List Int) (r : Int) (B : Option Addr) (d n : Nat) (ms : List Int) (w : World) (hx : Cells w w.heap.size A (ints xs)) (hn : xs.length ≤ maxLen)
    (hl : ms.length = n * 3) (hm : Cells w w.heap.size B (ints ms)) (hn2 : n ≤ maxLen) :
    Calls Try.prog 10 #[.int .i64 p, .slice A xs.length c, .int .i64 r, .slice B n d] w fun e w' => e = .returned (.bool true) ∧ Below w.heap.size w w' := by
  unfold maxLen at hn hn2
  have HL := hid hl
  have hN := relL_length p xs r ms n
  clear hl
  by_cases h1 : xs.length ≤ 1048576
  · by_cases h2 : n ≤ 1048576
    · have HD := hid (show decide ((1048576 : Int) - (n : Int) < 0) = false by simp; omega)
      go_enter Try.func10, Try.ntmps10
      have b_0 := (Below.refl w.heap.size w)
      have s_0 := b_0.size
      have x_0 := hx
      clear hx
      have q_0 := hm
      clear hm
      go_wp2_with fail
      refine calls_forget0 (W := w) ?_ ?_
      (focus (repeat (first | (with_reducible exact Below.refl _ _) | (with_reducible refine Below.trans ?_ (Below.mono (by assumption) (by first | omega | (simp; done) | (simp; omega) | (simp [*]; done)))) | (with_reducible refine Below.alloc ?_ (by first | omega | (simp; done) | (simp; omega) | (simp [*]; done)) _) | (with_reducible refine Below.setCell ?_ (by first | omega | (simp; done) | (simp; omega) | (simp [*]; done)) _) | (with_reducible refine Below.drew ?_) | (with_reducible refine below_drewN ?_))))
      intro X1 hX1
      have sX1 := hX1.size
      refine (szMsgS_any _ _ _ _ _ (by omega) (by omega) (by omega)).mono ?_
      rintro e w' ⟨rfl, rfl⟩
      have b_1 := b_0.trans (hX1.mono (by omega))
      have x_1 := cells_below x_0 hX1 (by omega)
      have q_1 := cells_below q_0 hX1 (by omega)
      clear x_0 q_0 b_0 hX1
      rw [HD.out, pick_no]
      go_wp2_with fail
      refine calls_forget0 (W := X1) ?_ ?_
      (focus (repeat (first | (with_reducible exact Below.refl _ _) | (with_reducible refine Below.trans ?_ (Below.mono (by assumption) (by first | omega | (simp; done) | (simp; omega) | (simp [*]; done)))) | (with_reducible refine Below.alloc ?_ (by first | omega | (simp; done) | (simp; omega) | (simp [*]; done)) _) | (with_reducible refine Below.setCell ?_ (by first | omega | (simp; done) | (simp; omega) | (simp [*]; done)) _) | (with_reducible refine Below.drew ?_) | (with_reducible refine below_drewN ?_))))
      intro X2 hX2
      have sX2 := hX2.size
      refine (toIntS_any _ _ _ _ ((cells_below x_1 hX2 (by omega)).more (by omega)) h1).mono ?_
      rintro e w2 ⟨rfl, a_2, hb2⟩
      have s2 := hb2.size
      have hT2 := hX2.trans (hb2.mono sX2)
      have b_2 := b_1.trans (hT2.mono (by omega))
      have x_2 := cells_below x_1 hT2 (by omega)
      have q_2 := cells_below q_1 hT2 (by omega)
      have a_in := own_in a_2
      clear x_1 q_1 b_1 hX2 hT2 hb2
      go_wp2_with fail
      refine calls_forget0 (W := w2) ?_ ?_
      (focus (repeat (first | (with_reducible exact Below.refl _ _) | (with_reducible refine Below.trans ?_ (Below.mono (by assumption) (by first | omega | (simp; done) | (simp; omega) | (simp [*]; done)))) | (with_reducible refine Below.alloc ?_ (by first | omega | (simp; done) | (simp; omega) | (simp [*]; done)) _) | (with_reducible refine Below.setCell ?_ (by first | omega | (simp; done) | (simp; omega) | (simp [*]; done)) _) | (with_reducible refine Below.drew ?_) | (with_reducible refine below_drewN ?_))))
      intro X3 hX3
      have sX3 := hX3.size
      refine (toMsgS_any _ _ _ _ _ HL.out ((cells_below q_2 hX3 (by omega)).more (by omega)) h2).mono ?_
      rintro e w3 ⟨rfl, f_3, hb3⟩
      have s3 := hb3.size
      have hT3 := hX3.trans (hb3.mono sX3)
      have b_3 := b_2.trans (hT3.mono (by omega))
      have x_3 := cells_below x_2 hT3 (by omega)
      have q_3 := cells_below q_2 hT3 (by omega)
      have a_3 := own_below a_2 hT3
      have f_in := own_in f_3
      clear x_2 q_2 a_2 b_2 hX3 hT3 hb3
      go_wp2_with fail
      refine calls_forget0 (W := w3) ?_ ?_
      (focus (repeat (first | (with_reducible exact Below.refl _ _) | (with_reducible refine Below.trans ?_ (Below.mono (by assumption) (by first | omega | (simp; done) | (simp; omega) | (simp [*]; done)))) | (with_reducible refine Below.alloc ?_ (by first | omega | (simp; done) | (simp; omega) | (simp [*]; done)) _) | (with_reducible refine Below.setCell ?_ (by first | omega | (simp; done) | (simp; omega) | (simp [*]; done)) _) | (with_reducible refine Below.drew ?_) | (with_reducible refine below_drewN ?_))))
      intro X4 hX4
      have sX4 := hX4.size
      refine (sReleased _ _ _ _ _ _ _ _ _ _ (Cells.of_own (own_below a_3 hX4)) (by omega) (Cells.of_own (own_below f_3 hX4)) HL.out (by omega)).mono ?_
      rintro e w4 ⟨Au, cu, rfl, u_4, hb4⟩
      have s4 := hb4.size
      have hT4 := hX4.trans (hb4.mono sX4)
      have b_4 := b_3.trans (hT4.mono (by omega))
      have x_4 := cells_below x_3 hT4 (by omega)
      have q_4 := cells_below q_3 hT4 (by omega)
      have a_4 := own_below a_3 hT4
      have f_4 := own_below f_3 hT4
      have u_in := own_in u_4
      clear x_3 q_3 a_3 f_3 b_3 hX4 hT4 hb4
      clear a_4
      clear f_4
      go_wp2_with fail
      refine calls_forget0 (W := w4) ?_ ?_
      (focus (repeat (first | (with_reducible exact Below.refl _ _) | (with_reducible refine Below.trans ?_ (Below.mono (by assumption) (by first | omega | (simp; done) | (simp; omega) | (simp [*]; done)))) | (with_reducible refine Below.alloc ?_ (by first | omega | (simp; done) | (simp; omega) | (simp [*]; done)) _) | (with_reducible refine Below.setCell ?_ (by first | omega | (simp; done) | (simp; omega) | (simp [*]; done)) _) | (with_reducible refine Below.drew ?_) | (with_reducible refine below_drewN ?_))))
      intro X5 hX5
      have sX5 := hX5.size
      refine (toIntS_any _ _ _ _ ((cells_below x_4 hX5 (by omega)).more (by omega)) h1).mono ?_
      rintro e w5 ⟨rfl, y_5, hb5⟩
      have s5 := hb5.size
      have hT5 := hX5.trans (hb5.mono sX5)
      have b_5 := b_4.trans (hT5.mono (by omega))
      have x_5 := cells_below x_4 hT5 (by omega)
      have q_5 := cells_below q_4 hT5 (by omega)
      have u_5 := own_below u_4 hT5
      have y_in := own_in y_5
      clear x_4 q_4 u_4 b_4 hX5 hT5 hb5
      go_wp2_with fail
      refine calls_forget0 (W := w5) ?_ ?_
      (focus (repeat (first | (with_reducible exact Below.refl _ _) | (with_reducible refine Below.trans ?_ (Below.mono (by assumption) (by first | omega | (simp; done) | (simp; omega) | (simp [*]; done)))) | (with_reducible refine Below.alloc ?_ (by first | omega | (simp; done) | (simp; omega) | (simp [*]; done)) _) | (with_reducible refine Below.setCell ?_ (by first | omega | (simp; done) | (simp; omega) | (simp [*]; done)) _) | (with_reducible refine Below.drew ?_) | (with_reducible refine below_drewN ?_))))
      intro X6 hX6
      have sX6 := hX6.size
      refine (toMsgS_any _ _ _ _ _ HL.out ((cells_below q_5 hX6 (by omega)).more (by omega)) h2).mono ?_
      rintro e w6 ⟨rfl, v_6, hb6⟩
      have s6 := hb6.size
      have hT6 := hX6.trans (hb6.mono sX6)
      have b_6 := b_5.trans (hT6.mono (by omega))
      have x_6 := cells_below x_5 hT6 (by omega)
      have q_6 := cells_below q_5 hT6 (by omega)
      have u_6 := own_below u_5 hT6
      have y_6 := own_below y_5 hT6
      have v_in := own_in v_6
      clear x_5 q_5 u_5 y_5 b_5 hX6 hT6 hb6
      go_wp2_with fail
      refine calls_forget0 (W := w6) ?_ ?_
      (focus (repeat (first | (with_reducible exact Below.refl _ _) | (with_reducible refine Below.trans ?_ (Below.mono (by assumption) (by first | omega | (simp; done) | (simp; omega) | (simp [*]; done)))) | (with_reducible refine Below.alloc ?_ (by first | omega | (simp; done) | (simp; omega) | (simp [*]; done)) _) | (with_reducible refine Below.setCell ?_ (by first | omega | (simp; done) | (simp; omega) | (simp [*]; done)) _) | (with_reducible refine Below.drew ?_) | (with_reducible refine below_drewN ?_))))
      intro X7 hX7
      have sX7 := hX7.size
      refine (iReleased _ _ _ _ _ _ _ _ _ _ (Cells.of_own (own_below y_6 hX7)) (by omega) (Cells.of_own (own_below v_6 hX7)) HL.out (by omega)).mono ?_
      rintro e w7 ⟨Ag, cg, rfl, g_7, hb7⟩
      have s7 := hb7.size
      have hT7 := hX7.trans (hb7.mono sX7)
      have b_7 := b_6.trans (hT7.mono (by omega))
      have x_7 := cells_below x_6 hT7 (by omega)
      have q_7 := cells_below q_6 hT7 (by omega)
      have u_7 := own_below u_6 hT7
      have y_7 := own_below y_6 hT7
      have v_7 := own_below v_6 hT7
      have g_in := own_in g_7
      clear x_6 q_6 u_6 y_6 v_6 b_6 hX7 hT7 hb7
      go_wp2_with fail
      refine calls_forget0 (W := w7) ?_ ?_
      (focus (repeat (first | (with_reducible exact Below.refl _ _) | (with_reducible refine Below.trans ?_ (Below.mono (by assumption) (by first | omega | (simp; done) | (simp; omega) | (simp [*]; done)))) | (with_reducible refine Below.alloc ?_ (by first | omega | (simp; done) | (simp; omega) | (simp [*]; done)) _) | (with_reducible refine Below.setCell ?_ (by first | omega | (simp; done) | (simp; omega) | (simp [*]; done)) _) | (with_reducible refine Below.drew ?_) | (with_reducible refine below_drewN ?_))))
      intro X8 hX8
      have sX8 := hX8.size
      refine (eqIntS_same _ _ _ _ _ _ (Cells.of_own (own_below g_7 hX8)) (Cells.of_own (own_below u_7 hX8)) (by omega)).mono ?_
      rintro e w8 ⟨rfl, hb8⟩
      have s8 := hb8.size
      have hT8 := hX8.trans (hb8.mono sX8)
      have b_8 := b_7.trans (hT8.mono (by omega))
      have x_8 := cells_below x_7 hT8 (by omega)
      have q_8 := cells_below q_7 hT8 (by omega)
      have u_8 := own_below u_7 hT8
      have y_8 := own_below y_7 hT8
      have v_8 := own_below v_7 hT8
      have g_8 := own_below g_7 hT8
      clear x_7 q_7 u_7 y_7 v_7 g_7 b_7 hX8 hT8 hb8
      go_wp2_with fail
      refine calls_forget0 (W := w8) ?_ ?_
      (focus (repeat (first | (with_reducible exact Below.refl _ _) | (with_reducible refine Below.trans ?_ (Below.mono (by assumption) (by first | omega | (simp; done) | (simp; omega) | (simp [*]; done)))) | (with_reducible refine Below.alloc ?_ (by first | omega | (simp; done) | (simp; omega) | (simp [*]; done)) _) | (with_reducible refine Below.setCell ?_ (by first | omega | (simp; done) | (simp; omega) | (simp [*]; done)) _) | (with_reducible refine Below.drew ?_) | (with_reducible refine below_drewN ?_))))
      intro X9 hX9
      have sX9 := hX9.size
      refine (toIntS_any _ _ _ _ ((cells_below x_8 hX9 (by omega)).more (by omega)) h1).mono ?_
      rintro e w9 ⟨rfl, z_9, hb9⟩
      have s9 := hb9.size
      have hT9 := hX9.trans (hb9.mono sX9)
      have b_9 := b_8.trans (hT9.mono (by omega))
      have x_9 := cells_below x_8 hT9 (by omega)
      have q_9 := cells_below q_8 hT9 (by omega)
      have u_9 := own_below u_8 hT9
      have y_9 := own_below y_8 hT9
      have v_9 := own_below v_8 hT9
      have g_9 := own_below g_8 hT9
      have z_in := own_in z_9
      clear x_8 q_8 u_8 y_8 v_8 g_8 b_8 hX9 hT9 hb9
      go_wp2_with fail
      refine calls_forget0 (W := w9) ?_ ?_
      (focus (repeat (first | (with_reducible exact Below.refl _ _) | (with_reducible refine Below.trans ?_ (Below.mono (by assumption) (by first | omega | (simp; done) | (simp; omega) | (simp [*]; done)))) | (with_reducible refine Below.alloc ?_ (by first | omega | (simp; done) | (simp; omega) | (simp [*]; done)) _) | (with_reducible refine Below.setCell ?_ (by first | omega | (simp; done) | (simp; omega) | (simp [*]; done)) _) | (with_reducible refine Below.drew ?_) | (with_reducible refine below_drewN ?_))))
      intro X10 hX10
      have sX10 := hX10.size
      refine (eqIntS_same _ _ _ _ _ _ (Cells.of_own (own_below y_9 hX10)) (Cells.of_own (own_below z_9 hX10)) (by omega)).mono ?_
      rintro e w10 ⟨rfl, hb10⟩
      have s10 := hb10.size
      have hT10 := hX10.trans (hb10.mono sX10)
      have b_10 := b_9.trans (hT10.mono (by omega))
      have x_10 := cells_below x_9 hT10 (by omega)
      have q_10 := cells_below q_9 hT10 (by omega)
      have u_10 := own_below u_9 hT10
      have y_10 := own_below y_9 hT10
      have v_10 := own_below v_9 hT10
      have g_10 := own_below g_9 hT10
      have z_10 := own_below z_9 hT10
      clear x_9 q_9 u_9 y_9 v_9 g_9 z_9 b_9 hX10 hT10 hb10
      clear z_10
      go_wp2_with fail
      refine calls_forget0 (W := w10) ?_ ?_
      (focus (repeat (first | (with_reducible exact Below.refl _ _) | (with_reducible refine Below.trans ?_ (Below.mono (by assumption) (by first | omega | (simp; done) | (simp; omega) | (simp [*]; done)))) | (with_reducible refine Below.alloc ?_ (by first | omega | (simp; done) | (simp; omega) | (simp [*]; done)) _) | (with_reducible refine Below.setCell ?_ (by first | omega | (simp; done) | (simp; omega) | (simp [*]; done)) _) | (with_reducible refine Below.drew ?_) | (with_reducible refine below_drewN ?_))))
      intro X11 hX11
      have sX11 := hX11.size
      refine (toMsgS_any _ _ _ _ _ HL.out ((cells_below q_10 hX11 (by omega)).more (by omega)) h2).mono ?_
      rintro e w11 ⟨rfl, z_11, hb11⟩
      have s11 := hb11.size
      have hT11 := hX11.trans (hb11.mono sX11)
      have b_11 := b_10.trans (hT11.mono (by omega))
      have x_11 := cells_below x_10 hT11 (by omega)
      have q_11 := cells_below q_10 hT11 (by omega)
      have u_11 := own_below u_10 hT11
      have y_11 := own_below y_10 hT11
      have v_11 := own_below v_10 hT11
      have g_11 := own_below g_10 hT11
      have z_in := own_in z_11
      clear x_10 q_10 u_10 y_10 v_10 g_10 b_10 hX11 hT11 hb11
      go_wp2_with fail
      refine calls_forget0 (W := w11) ?_ ?_
      (focus (repeat (first | (with_reducible exact Below.refl _ _) | (with_reducible refine Below.trans ?_ (Below.mono (by assumption) (by first | omega | (simp; done) | (simp; omega) | (simp [*]; done)))) | (with_reducible refine Below.alloc ?_ (by first | omega | (simp; done) | (simp; omega) | (simp [*]; done)) _) | (with_reducible refine Below.setCell ?_ (by first | omega | (simp; done) | (simp; omega) | (simp [*]; done)) _) | (with_reducible refine Below.drew ?_) | (with_reducible refine below_drewN ?_))))
      intro X12 hX12
      have sX12 := hX12.size
      refine (eqMsgS_same _ _ _ _ _ _ _ HL.out (Cells.of_own (own_below v_11 hX12)) (Cells.of_own (own_below z_11 hX12)) (by omega)).mono ?_
      rintro e w12 ⟨rfl, hb12⟩
      have s12 := hb12.size
      have hT12 := hX12.trans (hb12.mono sX12)
      have b_12 := b_11.trans (hT12.mono (by omega))
      have x_12 := cells_below x_11 hT12 (by omega)
      have q_12 := cells_below q_11 hT12 (by omega)
      have u_12 := own_below u_11 hT12
      have y_12 := own_below y_11 hT12
      have v_12 := own_below v_11 hT12
      have g_12 := own_below g_11 hT12
      have z_12 := own_below z_11 hT12
      clear x_11 q_11 u_11 y_11 v_11 g_11 z_11 b_11 hX12 hT12 hb12
      clear z_12
      go_wp2_with fail
      refine calls_forget0 (W := w12) ?_ ?_
      (focus (repeat (first | (with_reducible exact Below.refl _ _) | (with_reducible refine Below.trans ?_ (Below.mono (by assumption) (by first | omega | (simp; done) | (simp; omega) | (simp [*]; done)))) | (with_reducible refine Below.alloc ?_ (by first | omega | (simp; done) | (simp; omega) | (simp [*]; done)) _) | (with_reducible refine Below.setCell ?_ (by first | omega | (simp; done) | (simp; omega) | (simp [*]; done)) _) | (with_reducible refine Below.drew ?_) | (with_reducible refine below_drewN ?_))))
      intro X13 hX13
      have sX13 := hX13.size
      refine (markIntS_any _ _ _ _ _ _ _ (own_below y_12 hX13) (by omega) (by omega) (by omega)).mono ?_
      rintro e w13 ⟨rfl, y_13, hg13⟩
      have s13 := hg13.size
      have hT13 := below_grown hX13 hg13
      have b_13 := gr_below hT13 b_12 (by omega) (fun q hq => by have h1 := y_in q hq; omega)
      have x_13 := gr_cells hT13 x_12 (by omega) (fun q hq => by have h1 := y_in q hq; omega)
      have q_13 := gr_cells hT13 q_12 (by omega) (fun q hq => by have h1 := y_in q hq; omega)
      have u_13 := gr_own hT13 u_12 (fun q p hq hp => by have h1 := y_in q hq; have h2 := u_in p hp; omega)
      have v_13 := gr_own hT13 v_12 (fun q p hq hp => by have h1 := y_in q hq; have h2 := v_in p hp; omega)
      have g_13 := gr_own hT13 g_12 (fun q p hq hp => by have h1 := y_in q hq; have h2 := g_in p hp; omega)
      clear x_12 q_12 u_12 y_12 v_12 g_12 b_12 hX13 hT13 hg13
      go_wp2_with fail
      refine calls_forget0 (W := w13) ?_ ?_
      (focus (repeat (first | (with_reducible exact Below.refl _ _) | (with_reducible refine Below.trans ?_ (Below.mono (by assumption) (by first | omega | (simp; done) | (simp; omega) | (simp [*]; done)))) | (with_reducible refine Below.alloc ?_ (by first | omega | (simp; done) | (simp; omega) | (simp [*]; done)) _) | (with_reducible refine Below.setCell ?_ (by first | omega | (simp; done) | (simp; omega) | (simp [*]; done)) _) | (with_reducible refine Below.drew ?_) | (with_reducible refine below_drewN ?_))))
      intro X14 hX14
      have sX14 := hX14.size
      refine (markMsgS_any _ _ _ _ _ _ _ (own_below v_13 hX14) (by omega) (by omega) (by omega)).mono ?_
      rintro e w14 ⟨rfl, v_14, hg14⟩
      have s14 := hg14.size
      have hT14 := below_grown hX14 hg14
      have b_14 := gr_below hT14 b_13 (by omega) (fun q hq => by have h1 := v_in q hq; omega)
      have x_14 := gr_cells hT14 x_13 (by omega) (fun q hq => by have h1 := v_in q hq; omega)
      have q_14 := gr_cells hT14 q_13 (by omega) (fun q hq => by have h1 := v_in q hq; omega)
      have u_14 := gr_own hT14 u_13 (fun q p hq hp => by have h1 := v_in q hq; have h2 := u_in p hp; omega)
      have y_14 := gr_own hT14 y_13 (fun q p hq hp => by have h1 := v_in q hq; have h2 := y_in p hp; omega)
      have g_14 := gr_own hT14 g_13 (fun q p hq hp => by have h1 := v_in q hq; have h2 := g_in p hp; omega)
      clear x_13 q_13 u_13 y_13 v_13 g_13 b_13 hX14 hT14 hg14
      go_wp2_with fail
      refine calls_forget0 (W := w14) ?_ ?_
      (focus (repeat (first | (with_reducible exact Below.refl _ _) | (with_reducible refine Below.trans ?_ (Below.mono (by assumption) (by first | omega | (simp; done) | (simp; omega) | (simp [*]; done)))) | (with_reducible refine Below.alloc ?_ (by first | omega | (simp; done) | (simp; omega) | (simp [*]; done)) _) | (with_reducible refine Below.setCell ?_ (by first | omega | (simp; done) | (simp; omega) | (simp [*]; done)) _) | (with_reducible refine Below.drew ?_) | (with_reducible refine below_drewN ?_))))
      intro X15 hX15
      have sX15 := hX15.size
      refine (eqIntS_same _ _ _ _ _ _ (Cells.of_own (own_below g_14 hX15)) (Cells.of_own (own_below u_14 hX15)) (by omega)).mono ?_
      rintro e w15 ⟨rfl, hb15⟩
      have s15 := hb15.size
      have hT15 := hX15.trans (hb15.mono sX15)
      have b_15 := b_14.trans (hT15.mono (by omega))
      have x_15 := cells_below x_14 hT15 (by omega)
      have q_15 := cells_below q_14 hT15 (by omega)
      have u_15 := own_below u_14 hT15
      have y_15 := own_below y_14 hT15
      have v_15 := own_below v_14 hT15
      have g_15 := own_below g_14 hT15
      clear x_14 q_14 u_14 y_14 v_14 g_14 b_14 hX15 hT15 hb15
      clear y_15
      clear v_15
      go_wp2_with fail
      refine calls_forget0 (W := w15) ?_ ?_
      (focus (repeat (first | (with_reducible exact Below.refl _ _) | (with_reducible refine Below.trans ?_ (Below.mono (by assumption) (by first | omega | (simp; done) | (simp; omega) | (simp [*]; done)))) | (with_reducible refine Below.alloc ?_ (by first | omega | (simp; done) | (simp; omega) | (simp [*]; done)) _) | (with_reducible refine Below.setCell ?_ (by first | omega | (simp; done) | (simp; omega) | (simp [*]; done)) _) | (with_reducible refine Below.drew ?_) | (with_reducible refine below_drewN ?_))))
      intro X16 hX16
      have sX16 := hX16.size
      refine (markIntS_any _ _ _ _ _ _ _ (own_below g_15 hX16) (by omega) (by omega) (by omega)).mono ?_
      rintro e w16 ⟨rfl, g_16, hg16⟩
      have s16 := hg16.size
      have hT16 := below_grown hX16 hg16
      have b_16 := gr_below hT16 b_15 (by omega) (fun q hq => by have h1 := g_in q hq; omega)
      have x_16 := gr_cells hT16 x_15 (by omega) (fun q hq => by have h1 := g_in q hq; omega)
      have q_16 := gr_cells hT16 q_15 (by omega) (fun q hq => by have h1 := g_in q hq; omega)
      have u_16 := gr_own hT16 u_15 (fun q p hq hp => by have h1 := g_in q hq; have h2 := u_in p hp; omega)
      clear x_15 q_15 u_15 g_15 b_15 hX16 hT16 hg16
      go_wp2_with fail
      refine calls_forget0 (W := w16) ?_ ?_
      (focus (repeat (first | (with_reducible exact Below.refl _ _) | (with_reducible refine Below.trans ?_ (Below.mono (by assumption) (by first | omega | (simp; done) | (simp; omega) | (simp [*]; done)))) | (with_reducible refine Below.alloc ?_ (by first | omega | (simp; done) | (simp; omega) | (simp [*]; done)) _) | (with_reducible refine Below.setCell ?_ (by first | omega | (simp; done) | (simp; omega) | (simp [*]; done)) _) | (with_reducible refine Below.drew ?_) | (with_reducible refine below_drewN ?_))))
      intro X17 hX17
      have sX17 := hX17.size
      refine (heldIntS_any _ _ _ _ _ (Cells.of_own (own_below g_16 hX17)) (by omega) (by omega) (by omega)).mono ?_
      rintro e w' ⟨rfl, rfl⟩
      have b_17 := b_16.trans (hX17.mono (by omega))
      have x_17 := cells_below x_16 hX17 (by omega)
      have q_17 := cells_below q_16 hX17 (by omega)
      have u_17 := own_below u_16 hX17
      have g_17 := own_below g_16 hX17
      clear x_16 q_16 u_16 g_16 b_16 hX17
      go_wp2_with fail
      refine calls_forget0 (W := X17) ?_ ?_
      (focus (repeat (first | (with_reducible exact Below.refl _ _) | (with_reducible refine Below.trans ?_ (Below.mono (by assumption) (by first | omega | (simp; done) | (simp; omega) | (simp [*]; done)))) | (with_reducible refine Below.alloc ?_ (by first | omega | (simp; done) | (simp; omega) | (simp [*]; done)) _) | (with_reducible refine Below.setCell ?_ (by first | omega | (simp; done) | (simp; omega) | (simp [*]; done)) _) | (with_reducible refine Below.drew ?_) | (with_reducible refine below_drewN ?_))))
      intro X18 hX18
      have sX18 := hX18.size
      refine (toIntS_any _ _ _ _ ((cells_below x_17 hX18 (by omega)).more (by omega)) h1).mono ?_
      rintro e w18 ⟨rfl, z_18, hb18⟩
      have s18 := hb18.size
      have hT18 := hX18.trans (hb18.mono sX18)
      have b_18 := b_17.trans (hT18.mono (by omega))
      have x_18 := cells_below x_17 hT18 (by omega)
      have q_18 := cells_below q_17 hT18 (by omega)
      have u_18 := own_below u_17 hT18
      have g_18 := own_below g_17 hT18
      have z_in := own_in z_18
      clear x_17 q_17 u_17 g_17 b_17 hX18 hT18 hb18
      go_wp2_with fail
      refine calls_forget0 (W := w18) ?_ ?_
      (focus (repeat (first | (with_reducible exact Below.refl _ _) | (with_reducible refine Below.trans ?_ (Below.mono (by assumption) (by first | omega | (simp; done) | (simp; omega) | (simp [*]; done)))) | (with_reducible refine Below.alloc ?_ (by first | omega | (simp; done) | (simp; omega) | (simp [*]; done)) _) | (with_reducible refine Below.setCell ?_ (by first | omega | (simp; done) | (simp; omega) | (simp [*]; done)) _) | (with_reducible refine Below.drew ?_) | (with_reducible refine below_drewN ?_))))
      intro X19 hX19
      have sX19 := hX19.size
      refine (toMsgS_any _ _ _ _ _ HL.out ((cells_below q_18 hX19 (by omega)).more (by omega)) h2).mono ?_
      rintro e w19 ⟨rfl, t_19, hb19⟩
      have s19 := hb19.size
      have hT19 := hX19.trans (hb19.mono sX19)
      have b_19 := b_18.trans (hT19.mono (by omega))
      have x_19 := cells_below x_18 hT19 (by omega)
      have q_19 := cells_below q_18 hT19 (by omega)
      have u_19 := own_below u_18 hT19
      have g_19 := own_below g_18 hT19
      have z_19 := own_below z_18 hT19
      have t_in := own_in t_19
      clear x_18 q_18 u_18 g_18 z_18 b_18 hX19 hT19 hb19
      go_wp2_with fail
      refine calls_forget0 (W := w19) ?_ ?_
      (focus (repeat (first | (with_reducible exact Below.refl _ _) | (with_reducible refine Below.trans ?_ (Below.mono (by assumption) (by first | omega | (simp; done) | (simp; omega) | (simp [*]; done)))) | (with_reducible refine Below.alloc ?_ (by first | omega | (simp; done) | (simp; omega) | (simp [*]; done)) _) | (with_reducible refine Below.setCell ?_ (by first | omega | (simp; done) | (simp; omega) | (simp [*]; done)) _) | (with_reducible refine Below.drew ?_) | (with_reducible refine below_drewN ?_))))
      intro X20 hX20
      have sX20 := hX20.size
      refine (iReleased _ _ _ _ _ _ _ _ _ _ (Cells.of_own (own_below z_19 hX20)) (by omega) (Cells.of_own (own_below t_19 hX20)) HL.out (by omega)).mono ?_
      rintro e w20 ⟨Ah, ch, rfl, h_20, hb20⟩
      have s20 := hb20.size
      have hT20 := hX20.trans (hb20.mono sX20)
      have b_20 := b_19.trans (hT20.mono (by omega))
      have x_20 := cells_below x_19 hT20 (by omega)
      have q_20 := cells_below q_19 hT20 (by omega)
      have u_20 := own_below u_19 hT20
      have g_20 := own_below g_19 hT20
      have z_20 := own_below z_19 hT20
      have t_20 := own_below t_19 hT20
      have h_in := own_in h_20
      clear x_19 q_19 u_19 g_19 z_19 t_19 b_19 hX20 hT20 hb20
      clear z_20
      clear t_20
      go_wp2_with fail
      refine calls_forget0 (W := w20) ?_ ?_
      (focus (repeat (first | (with_reducible exact Below.refl _ _) | (with_reducible refine Below.trans ?_ (Below.mono (by assumption) (by first | omega | (simp; done) | (simp; omega) | (simp [*]; done)))) | (with_reducible refine Below.alloc ?_ (by first | omega | (simp; done) | (simp; omega) | (simp [*]; done)) _) | (with_reducible refine Below.setCell ?_ (by first | omega | (simp; done) | (simp; omega) | (simp [*]; done)) _) | (with_reducible refine Below.drew ?_) | (with_reducible refine below_drewN ?_))))
      intro X21 hX21
      have sX21 := hX21.size
      refine (eqIntS_same _ _ _ _ _ _ (Cells.of_own (own_below h_20 hX21)) (Cells.of_own (own_below u_20 hX21)) (by omega)).mono ?_
      rintro e w21 ⟨rfl, hb21⟩
      have s21 := hb21.size
      have hT21 := hX21.trans (hb21.mono sX21)
      have b_21 := b_20.trans (hT21.mono (by omega))
      have x_21 := cells_below x_20 hT21 (by omega)
      have q_21 := cells_below q_20 hT21 (by omega)
      have u_21 := own_below u_20 hT21
      have g_21 := own_below g_20 hT21
      have h_21 := own_below h_20 hT21
      clear x_20 q_20 u_20 g_20 h_20 b_20 hX21 hT21 hb21
      go_wp2_with fail
      refine calls_forget0 (W := w21) ?_ ?_
      (focus (repeat (first | (with_reducible exact Below.refl _ _) | (with_reducible refine Below.trans ?_ (Below.mono (by assumption) (by first | omega | (simp; done) | (simp; omega) | (simp [*]; done)))) | (with_reducible refine Below.alloc ?_ (by first | omega | (simp; done) | (simp; omega) | (simp [*]; done)) _) | (with_reducible refine Below.setCell ?_ (by first | omega | (simp; done) | (simp; omega) | (simp [*]; done)) _) | (with_reducible refine Below.drew ?_) | (with_reducible refine below_drewN ?_))))
      intro X22 hX22
      have sX22 := hX22.size
      refine (heldIntS_any _ _ _ _ _ (Cells.of_own (own_below g_21 hX22)) (by omega) (by omega) (by omega)).mono ?_
      rintro e w' ⟨rfl, rfl⟩
      have b_22 := b_21.trans (hX22.mono (by omega))
      have x_22 := cells_below x_21 hX22 (by omega)
      have q_22 := cells_below q_21 hX22 (by omega)
      have u_22 := own_below u_21 hX22
      have g_22 := own_below g_21 hX22
      have h_22 := own_below h_21 hX22
      clear x_21 q_21 u_21 g_21 h_21 b_21 hX22
      go_wp2
      go_ret
      refine ⟨rfl, b_22.trans ?_⟩
      repeat (first | (with_reducible exact Below.refl _ _) | (with_reducible refine Below.trans ?_ (Below.mono (by assumption) (by first | omega | (simp; done) | (simp; omega) | (simp [*]; done)))) | (with_reducible refine Below.alloc ?_ (by first | omega | (simp; done) | (simp; omega) | (simp [*]; done)) _) | (with_reducible refine Below.setCell ?_ (by first | omega | (simp; done) | (simp; omega) | (simp [*]; done)) _) | (with_reducible refine Below.drew ?_) | (with_reducible refine below_drewN ?_))
    · have HD := hid (show decide ((1048576 : Int) - (n : Int) < 0) = true by simp; omega)
      go_enter Try.func10, Try.ntmps10
      go_wp2_with fail
      refine (szMsgS_any _ _ _ _ _ (by omega) (by omega) (by omega)).mono ?_
      rintro e w' ⟨rfl, rfl⟩
      rw [HD.out, pick_yes]
      go_wp2
      go_ret
      exact ⟨rfl, Below.refl _ _⟩
  · go_enter Try.func10, Try.ntmps10
    go_wp2
    go_ret
    exact ⟨rfl, Below.refl _ _⟩
set_option maxRecDepth 100000 in
theorem lifted (os : Os) (started : os.Started) (H : Type) (enc : TypeId × Value → H) :
    ReturnsInHanded {} Try.checked os 10 .any (Rows.fnExactReleasedSpec.pre6 enc Try.prog Try.f10 Rows.fnExactReleasedRow.domain false) (Rows.fnExactReleasedSpec.post enc Try.prog Try.f10 false true false false) := by
  refine returnsInHanded_of_change (C := Try.checked) own started (by kernel_rfl) Try.func10
    (ChangeSpec.witness6 (enc := enc) (C := Try.checked) false ⟨#[], #[.int .i64 0, .slice none 0 0, .int .i64 0, .slice none 0 0], []⟩ 8 (by kernel_rfl) (by kernel_rfl) (by kernel_rfl) (by kernel_rfl)) ?_
  intro W base args ds gs before hval0 hW _ _
  have hval : ∀ (j : Nat) t v, Try.f10.params[j]? = some t → args[j]? = some v → Value.okWide Try.prog W .any base t v := hval0
  have hW' := hW
  obtain ⟨p, q, hA0, hV, rfl, _, _⟩ := hW
  have hA : DataW.TrodAll enc Try.prog W 0 (fun _ => true) true Try.f10.params.toList args.toList ds p := hA0
  rw [Try.params10] at hA hval
  obtain ⟨v0, vs0, d0, ds0, p0, q0, hargs, rfl, rfl, h0, r0⟩ := trodAll_cons hA
  obtain ⟨v1, vs1, d1, ds1, p1, q1, rfl, rfl, rfl, h1, r1⟩ := trodAll_cons r0
  obtain ⟨v2, vs2, d2, ds2, p2, q2, rfl, rfl, rfl, h2, r2⟩ := trodAll_cons r1
  obtain ⟨v3, vs3, d3, ds3, p3, q3, rfl, rfl, rfl, h3, r3⟩ := trodAll_cons r2
  obtain ⟨rfl, rfl, rfl⟩ := trodAll_nil r3
  obtain rfl : args = #[v0, v1, v2, v3] := by cases args; simp_all
  obtain ⟨rfl, rfl⟩ := trodVars_none hV
  obtain ⟨a0, rfl, hd0, _, wa0⟩ := open_int Try.underlying3 (hval 0 3 v0 rfl rfl) h0
  obtain ⟨A1, c1, xs1, rfl, hc1, hw1, hn1⟩ := view_ints Try.underlying30 Try.underlying3 (by kernel_rfl) (hval 1 30 v1 rfl rfl) h1 (fun x hx => hW'.lt x (by simp [hx]))
  obtain ⟨a2, rfl, hd2, _, wa2⟩ := open_int Try.underlying3 (hval 2 3 v2 rfl rfl) h2
  obtain ⟨A3, c3, n3, xs3, rfl, hl3, hc3, hn3⟩ := view_structs (F := 3) Try.underlying37 Try.underlying64 (by kernel_rfl) (by kernel_rfl) rfl (by kernel_rfl) (by decide) (hval 3 37 v3 rfl rfl) h3 (fun x hx => hW'.lt x (by simp [hx]))
  refine (walk a0 A1 c1 xs1 a2 A3 c3 n3 xs3 W hc1 hn1 hl3 hc3 hn3).mono fun e W' ⟨he, hb⟩ => ?_
  subst he
  exact ⟨_, rfl, law_post rfl (by kernel_rfl) (by kernel_rfl) rfl Try.underlying4 hW' rfl rfl rfl hb⟩
theorem closed : joinedFacts Try.prog 10 Try.f10 Rows.fnExactReleasedSpec Rows.fnExactReleasedRow = true := by
  unfold joinedFacts
  rw [makeIs, mayIs, finalsIs]
  kernel_rfl
theorem over : Rows.fnExactReleasedRow.holds Try.pinned (OpenSpec.ofChange Rows.fnExactReleasedSpec) :=
  OpenClaim.holds_of_wide 10 Try.f10 rfl rfl rfl rfl rfl rfl rfl ⟨rfl, rfl, rfl, rfl, rfl⟩ rfl rfl rfl rfl rfl (by kernel_rfl) Try.func10 closed
    (of_decide_eq_true (by kernel_rfl)) (by unfold Func.isWrapper; first | (rw [if_pos (by decide +kernel)]; kernel_rfl) | (rw [if_neg (by decide +kernel)]; exact ⟨rfl, rfl⟩))
    (fun os started H enc _ => lifted os started H enc)
theorem proved : Rows.FnExactReleasedSaid := over
#print axioms proved

end released
end Go.Proofs.Ytgkkljcboicipaa
