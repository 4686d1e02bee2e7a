/- The law that CoinsOf of the program returns what the reference's returns, for all arguments. No conditions. -/
import Derived.Test.YtgkkljcboicipaaCoins3
import Derived.Test.YtgkkljcboicipaaStructs
import Derived.Test.YtgkkljcboicipaaHead
set_option linter.unusedVariables false
namespace Go.Proofs.Ytgkkljcboicipaa
open Go.RowKit Go.ChangeShapes Go.WideShapes Go.ChangeAt

namespace coinsOf
set_option maxHeartbeats 3200000 in
theorem walk (p : Int) (B : Option Addr) (d n : Nat) (ms : List Int) (r : Int) (w : World) (hl : ms.length = n * 3) (hm : Cells w w.heap.size B (ints ms)) (hn2 : n ≤ maxLen) :
    Calls Try.prog 6 #[.int .i64 p, .slice B n d, .int .i64 r] w fun e w' => e = .returned (.bool true) ∧ Below w.heap.size w w' := by
  unfold maxLen at hn2
  have HL := hid hl
  have hN := coinsL_length p r ms n
  clear hl
  by_cases h2 : n ≤ 1048576
  · have HD := hid (show decide ((1048576 : Int) - (n : Int) < 0) = false by simp; omega)
    go_enter Try.func6, Try.ntmps6
    have b_0 := (Below.refl w.heap.size w)
    have s_0 := b_0.size
    have q_0 := hm
    clear hm
    go_wp2_with fail
    refine calls_forget0 (W := w) ?_ ?_
    (focus (repeat (first | (with_reducible exact Below.refl _ _) | (with_reducible refine Below.trans ?_ (Below.mono (by assumption) (by first | omega | (simp; done) | (simp; omega) | (simp [*]; done)))) | (with_reducible refine Below.alloc ?_ (by first | omega | (simp; done) | (simp; omega) | (simp [*]; done)) _) | (with_reducible refine Below.setCell ?_ (by first | omega | (simp; done) | (simp; omega) | (simp [*]; done)) _) | (with_reducible refine Below.drew ?_) | (with_reducible refine below_drewN ?_))))
    intro X1 hX1
    have sX1 := hX1.size
    refine (szMsgS_any _ _ _ _ _ (by omega) (by omega) (by omega)).mono ?_
    rintro e w' ⟨rfl, rfl⟩
    have b_1 := b_0.trans (hX1.mono (by omega))
    have q_1 := cells_below q_0 hX1 (by omega)
    clear q_0 b_0 hX1
    rw [HD.out, pick_no]
    go_wp2_with fail
    refine calls_forget0 (W := X1) ?_ ?_
    (focus (repeat (first | (with_reducible exact Below.refl _ _) | (with_reducible refine Below.trans ?_ (Below.mono (by assumption) (by first | omega | (simp; done) | (simp; omega) | (simp [*]; done)))) | (with_reducible refine Below.alloc ?_ (by first | omega | (simp; done) | (simp; omega) | (simp [*]; done)) _) | (with_reducible refine Below.setCell ?_ (by first | omega | (simp; done) | (simp; omega) | (simp [*]; done)) _) | (with_reducible refine Below.drew ?_) | (with_reducible refine below_drewN ?_))))
    intro X2 hX2
    have sX2 := hX2.size
    refine (toMsgS_any _ _ _ _ _ HL.out ((cells_below q_1 hX2 (by omega)).more (by omega)) h2).mono ?_
    rintro e w2 ⟨rfl, f_2, hb2⟩
    have s2 := hb2.size
    have hT2 := hX2.trans (hb2.mono sX2)
    have b_2 := b_1.trans (hT2.mono (by omega))
    have q_2 := cells_below q_1 hT2 (by omega)
    have f_in := own_in f_2
    clear q_1 b_1 hX2 hT2 hb2
    go_wp2_with fail
    refine calls_forget0 (W := w2) ?_ ?_
    (focus (repeat (first | (with_reducible exact Below.refl _ _) | (with_reducible refine Below.trans ?_ (Below.mono (by assumption) (by first | omega | (simp; done) | (simp; omega) | (simp [*]; done)))) | (with_reducible refine Below.alloc ?_ (by first | omega | (simp; done) | (simp; omega) | (simp [*]; done)) _) | (with_reducible refine Below.setCell ?_ (by first | omega | (simp; done) | (simp; omega) | (simp [*]; done)) _) | (with_reducible refine Below.drew ?_) | (with_reducible refine below_drewN ?_))))
    intro X3 hX3
    have sX3 := hX3.size
    refine (sCoinsOf _ _ _ _ _ _ _ (Cells.of_own (own_below f_2 hX3)) HL.out (by omega)).mono ?_
    rintro e w3 ⟨Au, cu, rfl, u_3, hb3⟩
    have s3 := hb3.size
    have hT3 := hX3.trans (hb3.mono sX3)
    have b_3 := b_2.trans (hT3.mono (by omega))
    have q_3 := cells_below q_2 hT3 (by omega)
    have f_3 := own_below f_2 hT3
    have u_in := own_in u_3
    clear q_2 f_2 b_2 hX3 hT3 hb3
    clear f_3
    go_wp2_with fail
    refine calls_forget0 (W := w3) ?_ ?_
    (focus (repeat (first | (with_reducible exact Below.refl _ _) | (with_reducible refine Below.trans ?_ (Below.mono (by assumption) (by first | omega | (simp; done) | (simp; omega) | (simp [*]; done)))) | (with_reducible refine Below.alloc ?_ (by first | omega | (simp; done) | (simp; omega) | (simp [*]; done)) _) | (with_reducible refine Below.setCell ?_ (by first | omega | (simp; done) | (simp; omega) | (simp [*]; done)) _) | (with_reducible refine Below.drew ?_) | (with_reducible refine below_drewN ?_))))
    intro X4 hX4
    have sX4 := hX4.size
    refine (toMsgS_any _ _ _ _ _ HL.out ((cells_below q_3 hX4 (by omega)).more (by omega)) h2).mono ?_
    rintro e w4 ⟨rfl, v_4, hb4⟩
    have s4 := hb4.size
    have hT4 := hX4.trans (hb4.mono sX4)
    have b_4 := b_3.trans (hT4.mono (by omega))
    have q_4 := cells_below q_3 hT4 (by omega)
    have u_4 := own_below u_3 hT4
    have v_in := own_in v_4
    clear q_3 u_3 b_3 hX4 hT4 hb4
    go_wp2_with fail
    refine calls_forget0 (W := w4) ?_ ?_
    (focus (repeat (first | (with_reducible exact Below.refl _ _) | (with_reducible refine Below.trans ?_ (Below.mono (by assumption) (by first | omega | (simp; done) | (simp; omega) | (simp [*]; done)))) | (with_reducible refine Below.alloc ?_ (by first | omega | (simp; done) | (simp; omega) | (simp [*]; done)) _) | (with_reducible refine Below.setCell ?_ (by first | omega | (simp; done) | (simp; omega) | (simp [*]; done)) _) | (with_reducible refine Below.drew ?_) | (with_reducible refine below_drewN ?_))))
    intro X5 hX5
    have sX5 := hX5.size
    refine (iCoinsOf _ _ _ _ _ _ _ (Cells.of_own (own_below v_4 hX5)) HL.out (by omega)).mono ?_
    rintro e w5 ⟨Ag, cg, rfl, g_5, hb5⟩
    have s5 := hb5.size
    have hT5 := hX5.trans (hb5.mono sX5)
    have b_5 := b_4.trans (hT5.mono (by omega))
    have q_5 := cells_below q_4 hT5 (by omega)
    have u_5 := own_below u_4 hT5
    have v_5 := own_below v_4 hT5
    have g_in := own_in g_5
    clear q_4 u_4 v_4 b_4 hX5 hT5 hb5
    go_wp2_with fail
    refine calls_forget0 (W := w5) ?_ ?_
    (focus (repeat (first | (with_reducible exact Below.refl _ _) | (with_reducible refine Below.trans ?_ (Below.mono (by assumption) (by first | omega | (simp; done) | (simp; omega) | (simp [*]; done)))) | (with_reducible refine Below.alloc ?_ (by first | omega | (simp; done) | (simp; omega) | (simp [*]; done)) _) | (with_reducible refine Below.setCell ?_ (by first | omega | (simp; done) | (simp; omega) | (simp [*]; done)) _) | (with_reducible refine Below.drew ?_) | (with_reducible refine below_drewN ?_))))
    intro X6 hX6
    have sX6 := hX6.size
    refine (eqIntS_same _ _ _ _ _ _ (Cells.of_own (own_below g_5 hX6)) (Cells.of_own (own_below u_5 hX6)) (by omega)).mono ?_
    rintro e w6 ⟨rfl, hb6⟩
    have s6 := hb6.size
    have hT6 := hX6.trans (hb6.mono sX6)
    have b_6 := b_5.trans (hT6.mono (by omega))
    have q_6 := cells_below q_5 hT6 (by omega)
    have u_6 := own_below u_5 hT6
    have v_6 := own_below v_5 hT6
    have g_6 := own_below g_5 hT6
    clear q_5 u_5 v_5 g_5 b_5 hX6 hT6 hb6
    go_wp2_with fail
    refine calls_forget0 (W := w6) ?_ ?_
    (focus (repeat (first | (with_reducible exact Below.refl _ _) | (with_reducible refine Below.trans ?_ (Below.mono (by assumption) (by first | omega | (simp; done) | (simp; omega) | (simp [*]; done)))) | (with_reducible refine Below.alloc ?_ (by first | omega | (simp; done) | (simp; omega) | (simp [*]; done)) _) | (with_reducible refine Below.setCell ?_ (by first | omega | (simp; done) | (simp; omega) | (simp [*]; done)) _) | (with_reducible refine Below.drew ?_) | (with_reducible refine below_drewN ?_))))
    intro X7 hX7
    have sX7 := hX7.size
    refine (toMsgS_any _ _ _ _ _ HL.out ((cells_below q_6 hX7 (by omega)).more (by omega)) h2).mono ?_
    rintro e w7 ⟨rfl, z_7, hb7⟩
    have s7 := hb7.size
    have hT7 := hX7.trans (hb7.mono sX7)
    have b_7 := b_6.trans (hT7.mono (by omega))
    have q_7 := cells_below q_6 hT7 (by omega)
    have u_7 := own_below u_6 hT7
    have v_7 := own_below v_6 hT7
    have g_7 := own_below g_6 hT7
    have z_in := own_in z_7
    clear q_6 u_6 v_6 g_6 b_6 hX7 hT7 hb7
    go_wp2_with fail
    refine calls_forget0 (W := w7) ?_ ?_
    (focus (repeat (first | (with_reducible exact Below.refl _ _) | (with_reducible refine Below.trans ?_ (Below.mono (by assumption) (by first | omega | (simp; done) | (simp; omega) | (simp [*]; done)))) | (with_reducible refine Below.alloc ?_ (by first | omega | (simp; done) | (simp; omega) | (simp [*]; done)) _) | (with_reducible refine Below.setCell ?_ (by first | omega | (simp; done) | (simp; omega) | (simp [*]; done)) _) | (with_reducible refine Below.drew ?_) | (with_reducible refine below_drewN ?_))))
    intro X8 hX8
    have sX8 := hX8.size
    refine (eqMsgS_same _ _ _ _ _ _ _ HL.out (Cells.of_own (own_below v_7 hX8)) (Cells.of_own (own_below z_7 hX8)) (by omega)).mono ?_
    rintro e w8 ⟨rfl, hb8⟩
    have s8 := hb8.size
    have hT8 := hX8.trans (hb8.mono sX8)
    have b_8 := b_7.trans (hT8.mono (by omega))
    have q_8 := cells_below q_7 hT8 (by omega)
    have u_8 := own_below u_7 hT8
    have v_8 := own_below v_7 hT8
    have g_8 := own_below g_7 hT8
    have z_8 := own_below z_7 hT8
    clear q_7 u_7 v_7 g_7 z_7 b_7 hX8 hT8 hb8
    clear z_8
    go_wp2_with fail
    refine calls_forget0 (W := w8) ?_ ?_
    (focus (repeat (first | (with_reducible exact Below.refl _ _) | (with_reducible refine Below.trans ?_ (Below.mono (by assumption) (by first | omega | (simp; done) | (simp; omega) | (simp [*]; done)))) | (with_reducible refine Below.alloc ?_ (by first | omega | (simp; done) | (simp; omega) | (simp [*]; done)) _) | (with_reducible refine Below.setCell ?_ (by first | omega | (simp; done) | (simp; omega) | (simp [*]; done)) _) | (with_reducible refine Below.drew ?_) | (with_reducible refine below_drewN ?_))))
    intro X9 hX9
    have sX9 := hX9.size
    refine (markMsgS_any _ _ _ _ _ _ _ (own_below v_8 hX9) (by omega) (by omega) (by omega)).mono ?_
    rintro e w9 ⟨rfl, v_9, hg9⟩
    have s9 := hg9.size
    have hT9 := below_grown hX9 hg9
    have b_9 := gr_below hT9 b_8 (by omega) (fun q hq => by have h1 := v_in q hq; omega)
    have q_9 := gr_cells hT9 q_8 (by omega) (fun q hq => by have h1 := v_in q hq; omega)
    have u_9 := gr_own hT9 u_8 (fun q p hq hp => by have h1 := v_in q hq; have h2 := u_in p hp; omega)
    have g_9 := gr_own hT9 g_8 (fun q p hq hp => by have h1 := v_in q hq; have h2 := g_in p hp; omega)
    clear q_8 u_8 v_8 g_8 b_8 hX9 hT9 hg9
    go_wp2_with fail
    refine calls_forget0 (W := w9) ?_ ?_
    (focus (repeat (first | (with_reducible exact Below.refl _ _) | (with_reducible refine Below.trans ?_ (Below.mono (by assumption) (by first | omega | (simp; done) | (simp; omega) | (simp [*]; done)))) | (with_reducible refine Below.alloc ?_ (by first | omega | (simp; done) | (simp; omega) | (simp [*]; done)) _) | (with_reducible refine Below.setCell ?_ (by first | omega | (simp; done) | (simp; omega) | (simp [*]; done)) _) | (with_reducible refine Below.drew ?_) | (with_reducible refine below_drewN ?_))))
    intro X10 hX10
    have sX10 := hX10.size
    refine (eqIntS_same _ _ _ _ _ _ (Cells.of_own (own_below g_9 hX10)) (Cells.of_own (own_below u_9 hX10)) (by omega)).mono ?_
    rintro e w10 ⟨rfl, hb10⟩
    have s10 := hb10.size
    have hT10 := hX10.trans (hb10.mono sX10)
    have b_10 := b_9.trans (hT10.mono (by omega))
    have q_10 := cells_below q_9 hT10 (by omega)
    have u_10 := own_below u_9 hT10
    have v_10 := own_below v_9 hT10
    have g_10 := own_below g_9 hT10
    clear q_9 u_9 v_9 g_9 b_9 hX10 hT10 hb10
    clear v_10
    go_wp2_with fail
    refine calls_forget0 (W := w10) ?_ ?_
    (focus (repeat (first | (with_reducible exact Below.refl _ _) | (with_reducible refine Below.trans ?_ (Below.mono (by assumption) (by first | omega | (simp; done) | (simp; omega) | (simp [*]; done)))) | (with_reducible refine Below.alloc ?_ (by first | omega | (simp; done) | (simp; omega) | (simp [*]; done)) _) | (with_reducible refine Below.setCell ?_ (by first | omega | (simp; done) | (simp; omega) | (simp [*]; done)) _) | (with_reducible refine Below.drew ?_) | (with_reducible refine below_drewN ?_))))
    intro X11 hX11
    have sX11 := hX11.size
    refine (markIntS_any _ _ _ _ _ _ _ (own_below g_10 hX11) (by omega) (by omega) (by omega)).mono ?_
    rintro e w11 ⟨rfl, g_11, hg11⟩
    have s11 := hg11.size
    have hT11 := below_grown hX11 hg11
    have b_11 := gr_below hT11 b_10 (by omega) (fun q hq => by have h1 := g_in q hq; omega)
    have q_11 := gr_cells hT11 q_10 (by omega) (fun q hq => by have h1 := g_in q hq; omega)
    have u_11 := gr_own hT11 u_10 (fun q p hq hp => by have h1 := g_in q hq; have h2 := u_in p hp; omega)
    clear q_10 u_10 g_10 b_10 hX11 hT11 hg11
    go_wp2_with fail
    refine calls_forget0 (W := w11) ?_ ?_
    (focus (repeat (first | (with_reducible exact Below.refl _ _) | (with_reducible refine Below.trans ?_ (Below.mono (by assumption) (by first | omega | (simp; done) | (simp; omega) | (simp [*]; done)))) | (with_reducible refine Below.alloc ?_ (by first | omega | (simp; done) | (simp; omega) | (simp [*]; done)) _) | (with_reducible refine Below.setCell ?_ (by first | omega | (simp; done) | (simp; omega) | (simp [*]; done)) _) | (with_reducible refine Below.drew ?_) | (with_reducible refine below_drewN ?_))))
    intro X12 hX12
    have sX12 := hX12.size
    refine (heldIntS_any _ _ _ _ _ (Cells.of_own (own_below g_11 hX12)) (by omega) (by omega) (by omega)).mono ?_
    rintro e w' ⟨rfl, rfl⟩
    have b_12 := b_11.trans (hX12.mono (by omega))
    have q_12 := cells_below q_11 hX12 (by omega)
    have u_12 := own_below u_11 hX12
    have g_12 := own_below g_11 hX12
    clear q_11 u_11 g_11 b_11 hX12
    go_wp2_with fail
    refine calls_forget0 (W := X12) ?_ ?_
    (focus (repeat (first | (with_reducible exact Below.refl _ _) | (with_reducible refine Below.trans ?_ (Below.mono (by assumption) (by first | omega | (simp; done) | (simp; omega) | (simp [*]; done)))) | (with_reducible refine Below.alloc ?_ (by first | omega | (simp; done) | (simp; omega) | (simp [*]; done)) _) | (with_reducible refine Below.setCell ?_ (by first | omega | (simp; done) | (simp; omega) | (simp [*]; done)) _) | (with_reducible refine Below.drew ?_) | (with_reducible refine below_drewN ?_))))
    intro X13 hX13
    have sX13 := hX13.size
    refine (toMsgS_any _ _ _ _ _ HL.out ((cells_below q_12 hX13 (by omega)).more (by omega)) h2).mono ?_
    rintro e w13 ⟨rfl, z_13, hb13⟩
    have s13 := hb13.size
    have hT13 := hX13.trans (hb13.mono sX13)
    have b_13 := b_12.trans (hT13.mono (by omega))
    have q_13 := cells_below q_12 hT13 (by omega)
    have u_13 := own_below u_12 hT13
    have g_13 := own_below g_12 hT13
    have z_in := own_in z_13
    clear q_12 u_12 g_12 b_12 hX13 hT13 hb13
    go_wp2_with fail
    refine calls_forget0 (W := w13) ?_ ?_
    (focus (repeat (first | (with_reducible exact Below.refl _ _) | (with_reducible refine Below.trans ?_ (Below.mono (by assumption) (by first | omega | (simp; done) | (simp; omega) | (simp [*]; done)))) | (with_reducible refine Below.alloc ?_ (by first | omega | (simp; done) | (simp; omega) | (simp [*]; done)) _) | (with_reducible refine Below.setCell ?_ (by first | omega | (simp; done) | (simp; omega) | (simp [*]; done)) _) | (with_reducible refine Below.drew ?_) | (with_reducible refine below_drewN ?_))))
    intro X14 hX14
    have sX14 := hX14.size
    refine (iCoinsOf _ _ _ _ _ _ _ (Cells.of_own (own_below z_13 hX14)) HL.out (by omega)).mono ?_
    rintro e w14 ⟨Ah, ch, rfl, h_14, hb14⟩
    have s14 := hb14.size
    have hT14 := hX14.trans (hb14.mono sX14)
    have b_14 := b_13.trans (hT14.mono (by omega))
    have q_14 := cells_below q_13 hT14 (by omega)
    have u_14 := own_below u_13 hT14
    have g_14 := own_below g_13 hT14
    have z_14 := own_below z_13 hT14
    have h_in := own_in h_14
    clear q_13 u_13 g_13 z_13 b_13 hX14 hT14 hb14
    clear z_14
    go_wp2_with fail
    refine calls_forget0 (W := w14) ?_ ?_
    (focus (repeat (first | (with_reducible exact Below.refl _ _) | (with_reducible refine Below.trans ?_ (Below.mono (by assumption) (by first | omega | (simp; done) | (simp; omega) | (simp [*]; done)))) | (with_reducible refine Below.alloc ?_ (by first | omega | (simp; done) | (simp; omega) | (simp [*]; done)) _) | (with_reducible refine Below.setCell ?_ (by first | omega | (simp; done) | (simp; omega) | (simp [*]; done)) _) | (with_reducible refine Below.drew ?_) | (with_reducible refine below_drewN ?_))))
    intro X15 hX15
    have sX15 := hX15.size
    refine (eqIntS_same _ _ _ _ _ _ (Cells.of_own (own_below h_14 hX15)) (Cells.of_own (own_below u_14 hX15)) (by omega)).mono ?_
    rintro e w15 ⟨rfl, hb15⟩
    have s15 := hb15.size
    have hT15 := hX15.trans (hb15.mono sX15)
    have b_15 := b_14.trans (hT15.mono (by omega))
    have q_15 := cells_below q_14 hT15 (by omega)
    have u_15 := own_below u_14 hT15
    have g_15 := own_below g_14 hT15
    have h_15 := own_below h_14 hT15
    clear q_14 u_14 g_14 h_14 b_14 hX15 hT15 hb15
    go_wp2_with fail
    refine calls_forget0 (W := w15) ?_ ?_
    (focus (repeat (first | (with_reducible exact Below.refl _ _) | (with_reducible refine Below.trans ?_ (Below.mono (by assumption) (by first | omega | (simp; done) | (simp; omega) | (simp [*]; done)))) | (with_reducible refine Below.alloc ?_ (by first | omega | (simp; done) | (simp; omega) | (simp [*]; done)) _) | (with_reducible refine Below.setCell ?_ (by first | omega | (simp; done) | (simp; omega) | (simp [*]; done)) _) | (with_reducible refine Below.drew ?_) | (with_reducible refine below_drewN ?_))))
    intro X16 hX16
    have sX16 := hX16.size
    refine (heldIntS_any _ _ _ _ _ (Cells.of_own (own_below g_15 hX16)) (by omega) (by omega) (by omega)).mono ?_
    rintro e w' ⟨rfl, rfl⟩
    have b_16 := b_15.trans (hX16.mono (by omega))
    have q_16 := cells_below q_15 hX16 (by omega)
    have u_16 := own_below u_15 hX16
    have g_16 := own_below g_15 hX16
    have h_16 := own_below h_15 hX16
    clear q_15 u_15 g_15 h_15 b_15 hX16
    go_wp2
    go_ret
    refine ⟨rfl, b_16.trans ?_⟩
    repeat (first | (with_reducible exact Below.refl _ _) | (with_reducible refine Below.trans ?_ (Below.mono (by assumption) (by first | omega | (simp; done) | (simp; omega) | (simp [*]; done)))) | (with_reducible refine Below.alloc ?_ (by first | omega | (simp; done) | (simp; omega) | (simp [*]; done)) _) | (with_reducible refine Below.setCell ?_ (by first | omega | (simp; done) | (simp; omega) | (simp [*]; done)) _) | (with_reducible refine Below.drew ?_) | (with_reducible refine below_drewN ?_))
  · have HD := hid (show decide ((1048576 : Int) - (n : Int) < 0) = true by simp; omega)
    go_enter Try.func6, Try.ntmps6
    go_wp2_with fail
    refine (szMsgS_any _ _ _ _ _ (by omega) (by omega) (by omega)).mono ?_
    rintro e w' ⟨rfl, rfl⟩
    rw [HD.out, pick_yes]
    go_wp2
    go_ret
    exact ⟨rfl, Below.refl _ _⟩
set_option maxRecDepth 100000 in
theorem lifted (os : Os) (started : os.Started) (H : Type) (enc : TypeId × Value → H) :
    ReturnsInHanded {} Try.checked os 6 .any (Rows.fnExactCoinsOfSpec.pre6 enc Try.prog Try.f6 Rows.fnExactCoinsOfRow.domain false) (Rows.fnExactCoinsOfSpec.post enc Try.prog Try.f6 false true false false) := by
  refine returnsInHanded_of_change (C := Try.checked) own started (by kernel_rfl) Try.func6
    (ChangeSpec.witness6 (enc := enc) (C := Try.checked) false ⟨#[], #[.int .i64 0, .slice none 0 0, .int .i64 0], []⟩ 8 (by kernel_rfl) (by kernel_rfl) (by kernel_rfl) (by kernel_rfl)) ?_
  intro W base args ds gs before hval0 hW _ _
  have hval : ∀ (j : Nat) t v, Try.f6.params[j]? = some t → args[j]? = some v → Value.okWide Try.prog W .any base t v := hval0
  have hW' := hW
  obtain ⟨p, q, hA0, hV, rfl, _, _⟩ := hW
  have hA : DataW.TrodAll enc Try.prog W 0 (fun _ => true) true Try.f6.params.toList args.toList ds p := hA0
  rw [Try.params6] at hA hval
  obtain ⟨v0, vs0, d0, ds0, p0, q0, hargs, rfl, rfl, h0, r0⟩ := trodAll_cons hA
  obtain ⟨v1, vs1, d1, ds1, p1, q1, rfl, rfl, rfl, h1, r1⟩ := trodAll_cons r0
  obtain ⟨v2, vs2, d2, ds2, p2, q2, rfl, rfl, rfl, h2, r2⟩ := trodAll_cons r1
  obtain ⟨rfl, rfl, rfl⟩ := trodAll_nil r2
  obtain rfl : args = #[v0, v1, v2] := by cases args; simp_all
  obtain ⟨rfl, rfl⟩ := trodVars_none hV
  obtain ⟨a0, rfl, hd0, _, wa0⟩ := open_int Try.underlying3 (hval 0 3 v0 rfl rfl) h0
  obtain ⟨A1, c1, n1, xs1, rfl, hl1, hc1, hn1⟩ := view_structs (F := 3) Try.underlying37 Try.underlying64 (by kernel_rfl) (by kernel_rfl) rfl (by kernel_rfl) (by decide) (hval 1 37 v1 rfl rfl) h1 (fun x hx => hW'.lt x (by simp [hx]))
  obtain ⟨a2, rfl, hd2, _, wa2⟩ := open_int Try.underlying3 (hval 2 3 v2 rfl rfl) h2
  refine (walk a0 A1 c1 n1 xs1 a2 W hl1 hc1 hn1).mono fun e W' ⟨he, hb⟩ => ?_
  subst he
  exact ⟨_, rfl, law_post rfl (by kernel_rfl) (by kernel_rfl) rfl Try.underlying4 hW' rfl rfl rfl hb⟩
theorem closed : joinedFacts Try.prog 6 Try.f6 Rows.fnExactCoinsOfSpec Rows.fnExactCoinsOfRow = true := by
  unfold joinedFacts
  rw [makeIs, mayIs, finalsIs]
  kernel_rfl
theorem over : Rows.fnExactCoinsOfRow.holds Try.pinned (OpenSpec.ofChange Rows.fnExactCoinsOfSpec) :=
  OpenClaim.holds_of_wide 6 Try.f6 rfl rfl rfl rfl rfl rfl rfl ⟨rfl, rfl, rfl, rfl, rfl⟩ rfl rfl rfl rfl rfl (by kernel_rfl) Try.func6 closed
    (of_decide_eq_true (by kernel_rfl)) (by unfold Func.isWrapper; first | (rw [if_pos (by decide +kernel)]; kernel_rfl) | (rw [if_neg (by decide +kernel)]; exact ⟨rfl, rfl⟩))
    (fun os started H enc _ => lifted os started H enc)
theorem proved : Rows.FnExactCoinsOfSaid := over
#print axioms proved

end coinsOf
end Go.Proofs.Ytgkkljcboicipaa
