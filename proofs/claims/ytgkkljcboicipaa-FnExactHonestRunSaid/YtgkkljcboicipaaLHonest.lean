/- The law that HonestRun of the program returns what the reference's returns, for all arguments. No conditions. -/
import Derived.Test.YtgkkljcboicipaaJudge2
import Derived.Test.YtgkkljcboicipaaHead
set_option linter.unusedVariables false
namespace Go.Proofs.Ytgkkljcboicipaa
open Go.RowKit Go.ChangeShapes Go.WideShapes Go.ChangeAt

namespace honestRun
set_option maxHeartbeats 3200000 in
theorem walk (p : Int) (A : Option Addr) (c : Nat) (xs : List Int) (r : Int) (w : World) (hx : Cells w w.heap.size A (ints xs)) (hn : xs.length ≤ maxLen) :
    Calls Try.prog 7 #[.int .i64 p, .slice A xs.length c, .int .i64 r] w fun e w' => e = .returned (.bool true) ∧ Below w.heap.size w w' := by
  unfold maxLen at hn
  have HL := hid (honL_length p xs r)
  have hN := honN_le p xs r
  by_cases h1 : xs.length ≤ 1048576
  · go_enter Try.func7, Try.ntmps7
    have b_0 := (Below.refl w.heap.size w)
    have s_0 := b_0.size
    have x_0 := hx
    clear hx
    go_wp2_with fail
    refine calls_forget0 (W := w) ?_ ?_
    (focus (repeat (first | (with_reducible exact Below.refl _ _) | (with_reducible refine Below.trans ?_ (Below.mono (by assumption) (by first | omega | (simp; done) | (simp; omega) | (simp [*]; done)))) | (with_reducible refine Below.alloc ?_ (by first | omega | (simp; done) | (simp; omega) | (simp [*]; done)) _) | (with_reducible refine Below.setCell ?_ (by first | omega | (simp; done) | (simp; omega) | (simp [*]; done)) _) | (with_reducible refine Below.drew ?_) | (with_reducible refine below_drewN ?_))))
    intro X1 hX1
    have sX1 := hX1.size
    refine (toIntS_any _ _ _ _ ((cells_below x_0 hX1 (by omega)).more (by omega)) h1).mono ?_
    rintro e w1 ⟨rfl, a_1, hb1⟩
    have s1 := hb1.size
    have hT1 := hX1.trans (hb1.mono sX1)
    have b_1 := b_0.trans (hT1.mono (by omega))
    have x_1 := cells_below x_0 hT1 (by omega)
    have a_in := own_in a_1
    clear x_0 b_0 hX1 hT1 hb1
    go_wp2_with fail
    refine calls_forget0 (W := w1) ?_ ?_
    (focus (repeat (first | (with_reducible exact Below.refl _ _) | (with_reducible refine Below.trans ?_ (Below.mono (by assumption) (by first | omega | (simp; done) | (simp; omega) | (simp [*]; done)))) | (with_reducible refine Below.alloc ?_ (by first | omega | (simp; done) | (simp; omega) | (simp [*]; done)) _) | (with_reducible refine Below.setCell ?_ (by first | omega | (simp; done) | (simp; omega) | (simp [*]; done)) _) | (with_reducible refine Below.drew ?_) | (with_reducible refine below_drewN ?_))))
    intro X2 hX2
    have sX2 := hX2.size
    refine (sHonestRun _ _ _ _ _ _ (Cells.of_own (own_below a_1 hX2)) (by omega)).mono ?_
    rintro e w2 ⟨Au, cu, rfl, u_2, hb2⟩
    have s2 := hb2.size
    have hT2 := hX2.trans (hb2.mono sX2)
    have b_2 := b_1.trans (hT2.mono (by omega))
    have x_2 := cells_below x_1 hT2 (by omega)
    have a_2 := own_below a_1 hT2
    have u_in := own_in u_2
    clear x_1 a_1 b_1 hX2 hT2 hb2
    clear a_2
    go_wp2_with fail
    refine calls_forget0 (W := w2) ?_ ?_
    (focus (repeat (first | (with_reducible exact Below.refl _ _) | (with_reducible refine Below.trans ?_ (Below.mono (by assumption) (by first | omega | (simp; done) | (simp; omega) | (simp [*]; done)))) | (with_reducible refine Below.alloc ?_ (by first | omega | (simp; done) | (simp; omega) | (simp [*]; done)) _) | (with_reducible refine Below.setCell ?_ (by first | omega | (simp; done) | (simp; omega) | (simp [*]; done)) _) | (with_reducible refine Below.drew ?_) | (with_reducible refine below_drewN ?_))))
    intro X3 hX3
    have sX3 := hX3.size
    refine (toIntS_any _ _ _ _ ((cells_below x_2 hX3 (by omega)).more (by omega)) h1).mono ?_
    rintro e w3 ⟨rfl, y_3, hb3⟩
    have s3 := hb3.size
    have hT3 := hX3.trans (hb3.mono sX3)
    have b_3 := b_2.trans (hT3.mono (by omega))
    have x_3 := cells_below x_2 hT3 (by omega)
    have u_3 := own_below u_2 hT3
    have y_in := own_in y_3
    clear x_2 u_2 b_2 hX3 hT3 hb3
    go_wp2_with fail
    refine calls_forget0 (W := w3) ?_ ?_
    (focus (repeat (first | (with_reducible exact Below.refl _ _) | (with_reducible refine Below.trans ?_ (Below.mono (by assumption) (by first | omega | (simp; done) | (simp; omega) | (simp [*]; done)))) | (with_reducible refine Below.alloc ?_ (by first | omega | (simp; done) | (simp; omega) | (simp [*]; done)) _) | (with_reducible refine Below.setCell ?_ (by first | omega | (simp; done) | (simp; omega) | (simp [*]; done)) _) | (with_reducible refine Below.drew ?_) | (with_reducible refine below_drewN ?_))))
    intro X4 hX4
    have sX4 := hX4.size
    refine (iHonestRun _ _ _ _ _ _ (Cells.of_own (own_below y_3 hX4)) (by omega)).mono ?_
    rintro e w4 ⟨Ag, cg, rfl, g_4, hb4⟩
    have s4 := hb4.size
    have hT4 := hX4.trans (hb4.mono sX4)
    have b_4 := b_3.trans (hT4.mono (by omega))
    have x_4 := cells_below x_3 hT4 (by omega)
    have u_4 := own_below u_3 hT4
    have y_4 := own_below y_3 hT4
    have g_in := own_in g_4
    clear x_3 u_3 y_3 b_3 hX4 hT4 hb4
    go_wp2_with fail
    refine calls_forget0 (W := w4) ?_ ?_
    (focus (repeat (first | (with_reducible exact Below.refl _ _) | (with_reducible refine Below.trans ?_ (Below.mono (by assumption) (by first | omega | (simp; done) | (simp; omega) | (simp [*]; done)))) | (with_reducible refine Below.alloc ?_ (by first | omega | (simp; done) | (simp; omega) | (simp [*]; done)) _) | (with_reducible refine Below.setCell ?_ (by first | omega | (simp; done) | (simp; omega) | (simp [*]; done)) _) | (with_reducible refine Below.drew ?_) | (with_reducible refine below_drewN ?_))))
    intro X5 hX5
    have sX5 := hX5.size
    refine (eqMsgS_same _ _ _ _ _ _ _ HL.out (Cells.of_own (own_below g_4 hX5)) (Cells.of_own (own_below u_4 hX5)) (by omega)).mono ?_
    rintro e w5 ⟨rfl, hb5⟩
    have s5 := hb5.size
    have hT5 := hX5.trans (hb5.mono sX5)
    have b_5 := b_4.trans (hT5.mono (by omega))
    have x_5 := cells_below x_4 hT5 (by omega)
    have u_5 := own_below u_4 hT5
    have y_5 := own_below y_4 hT5
    have g_5 := own_below g_4 hT5
    clear x_4 u_4 y_4 g_4 b_4 hX5 hT5 hb5
    go_wp2_with fail
    refine calls_forget0 (W := w5) ?_ ?_
    (focus (repeat (first | (with_reducible exact Below.refl _ _) | (with_reducible refine Below.trans ?_ (Below.mono (by assumption) (by first | omega | (simp; done) | (simp; omega) | (simp [*]; done)))) | (with_reducible refine Below.alloc ?_ (by first | omega | (simp; done) | (simp; omega) | (simp [*]; done)) _) | (with_reducible refine Below.setCell ?_ (by first | omega | (simp; done) | (simp; omega) | (simp [*]; done)) _) | (with_reducible refine Below.drew ?_) | (with_reducible refine below_drewN ?_))))
    intro X6 hX6
    have sX6 := hX6.size
    refine (toIntS_any _ _ _ _ ((cells_below x_5 hX6 (by omega)).more (by omega)) h1).mono ?_
    rintro e w6 ⟨rfl, z_6, hb6⟩
    have s6 := hb6.size
    have hT6 := hX6.trans (hb6.mono sX6)
    have b_6 := b_5.trans (hT6.mono (by omega))
    have x_6 := cells_below x_5 hT6 (by omega)
    have u_6 := own_below u_5 hT6
    have y_6 := own_below y_5 hT6
    have g_6 := own_below g_5 hT6
    have z_in := own_in z_6
    clear x_5 u_5 y_5 g_5 b_5 hX6 hT6 hb6
    go_wp2_with fail
    refine calls_forget0 (W := w6) ?_ ?_
    (focus (repeat (first | (with_reducible exact Below.refl _ _) | (with_reducible refine Below.trans ?_ (Below.mono (by assumption) (by first | omega | (simp; done) | (simp; omega) | (simp [*]; done)))) | (with_reducible refine Below.alloc ?_ (by first | omega | (simp; done) | (simp; omega) | (simp [*]; done)) _) | (with_reducible refine Below.setCell ?_ (by first | omega | (simp; done) | (simp; omega) | (simp [*]; done)) _) | (with_reducible refine Below.drew ?_) | (with_reducible refine below_drewN ?_))))
    intro X7 hX7
    have sX7 := hX7.size
    refine (eqIntS_same _ _ _ _ _ _ (Cells.of_own (own_below y_6 hX7)) (Cells.of_own (own_below z_6 hX7)) (by omega)).mono ?_
    rintro e w7 ⟨rfl, hb7⟩
    have s7 := hb7.size
    have hT7 := hX7.trans (hb7.mono sX7)
    have b_7 := b_6.trans (hT7.mono (by omega))
    have x_7 := cells_below x_6 hT7 (by omega)
    have u_7 := own_below u_6 hT7
    have y_7 := own_below y_6 hT7
    have g_7 := own_below g_6 hT7
    have z_7 := own_below z_6 hT7
    clear x_6 u_6 y_6 g_6 z_6 b_6 hX7 hT7 hb7
    clear z_7
    go_wp2_with fail
    refine calls_forget0 (W := w7) ?_ ?_
    (focus (repeat (first | (with_reducible exact Below.refl _ _) | (with_reducible refine Below.trans ?_ (Below.mono (by assumption) (by first | omega | (simp; done) | (simp; omega) | (simp [*]; done)))) | (with_reducible refine Below.alloc ?_ (by first | omega | (simp; done) | (simp; omega) | (simp [*]; done)) _) | (with_reducible refine Below.setCell ?_ (by first | omega | (simp; done) | (simp; omega) | (simp [*]; done)) _) | (with_reducible refine Below.drew ?_) | (with_reducible refine below_drewN ?_))))
    intro X8 hX8
    have sX8 := hX8.size
    refine (markIntS_any _ _ _ _ _ _ _ (own_below y_7 hX8) (by omega) (by omega) (by omega)).mono ?_
    rintro e w8 ⟨rfl, y_8, hg8⟩
    have s8 := hg8.size
    have hT8 := below_grown hX8 hg8
    have b_8 := gr_below hT8 b_7 (by omega) (fun q hq => by have h1 := y_in q hq; omega)
    have x_8 := gr_cells hT8 x_7 (by omega) (fun q hq => by have h1 := y_in q hq; omega)
    have u_8 := gr_own hT8 u_7 (fun q p hq hp => by have h1 := y_in q hq; have h2 := u_in p hp; omega)
    have g_8 := gr_own hT8 g_7 (fun q p hq hp => by have h1 := y_in q hq; have h2 := g_in p hp; omega)
    clear x_7 u_7 y_7 g_7 b_7 hX8 hT8 hg8
    go_wp2_with fail
    refine calls_forget0 (W := w8) ?_ ?_
    (focus (repeat (first | (with_reducible exact Below.refl _ _) | (with_reducible refine Below.trans ?_ (Below.mono (by assumption) (by first | omega | (simp; done) | (simp; omega) | (simp [*]; done)))) | (with_reducible refine Below.alloc ?_ (by first | omega | (simp; done) | (simp; omega) | (simp [*]; done)) _) | (with_reducible refine Below.setCell ?_ (by first | omega | (simp; done) | (simp; omega) | (simp [*]; done)) _) | (with_reducible refine Below.drew ?_) | (with_reducible refine below_drewN ?_))))
    intro X9 hX9
    have sX9 := hX9.size
    refine (eqMsgS_same _ _ _ _ _ _ _ HL.out (Cells.of_own (own_below g_8 hX9)) (Cells.of_own (own_below u_8 hX9)) (by omega)).mono ?_
    rintro e w9 ⟨rfl, hb9⟩
    have s9 := hb9.size
    have hT9 := hX9.trans (hb9.mono sX9)
    have b_9 := b_8.trans (hT9.mono (by omega))
    have x_9 := cells_below x_8 hT9 (by omega)
    have u_9 := own_below u_8 hT9
    have y_9 := own_below y_8 hT9
    have g_9 := own_below g_8 hT9
    clear x_8 u_8 y_8 g_8 b_8 hX9 hT9 hb9
    clear y_9
    go_wp2_with fail
    refine calls_forget0 (W := w9) ?_ ?_
    (focus (repeat (first | (with_reducible exact Below.refl _ _) | (with_reducible refine Below.trans ?_ (Below.mono (by assumption) (by first | omega | (simp; done) | (simp; omega) | (simp [*]; done)))) | (with_reducible refine Below.alloc ?_ (by first | omega | (simp; done) | (simp; omega) | (simp [*]; done)) _) | (with_reducible refine Below.setCell ?_ (by first | omega | (simp; done) | (simp; omega) | (simp [*]; done)) _) | (with_reducible refine Below.drew ?_) | (with_reducible refine below_drewN ?_))))
    intro X10 hX10
    have sX10 := hX10.size
    refine (markMsgS_any _ _ _ _ _ _ _ (own_below g_9 hX10) (by omega) (by omega) (by omega)).mono ?_
    rintro e w10 ⟨rfl, g_10, hg10⟩
    have s10 := hg10.size
    have hT10 := below_grown hX10 hg10
    have b_10 := gr_below hT10 b_9 (by omega) (fun q hq => by have h1 := g_in q hq; omega)
    have x_10 := gr_cells hT10 x_9 (by omega) (fun q hq => by have h1 := g_in q hq; omega)
    have u_10 := gr_own hT10 u_9 (fun q p hq hp => by have h1 := g_in q hq; have h2 := u_in p hp; omega)
    clear x_9 u_9 g_9 b_9 hX10 hT10 hg10
    go_wp2_with fail
    refine calls_forget0 (W := w10) ?_ ?_
    (focus (repeat (first | (with_reducible exact Below.refl _ _) | (with_reducible refine Below.trans ?_ (Below.mono (by assumption) (by first | omega | (simp; done) | (simp; omega) | (simp [*]; done)))) | (with_reducible refine Below.alloc ?_ (by first | omega | (simp; done) | (simp; omega) | (simp [*]; done)) _) | (with_reducible refine Below.setCell ?_ (by first | omega | (simp; done) | (simp; omega) | (simp [*]; done)) _) | (with_reducible refine Below.drew ?_) | (with_reducible refine below_drewN ?_))))
    intro X11 hX11
    have sX11 := hX11.size
    refine (heldMsgS_any _ _ _ _ _ (Cells.of_own (own_below g_10 hX11)) (by omega) (by omega) (by omega)).mono ?_
    rintro e w' ⟨rfl, rfl⟩
    have b_11 := b_10.trans (hX11.mono (by omega))
    have x_11 := cells_below x_10 hX11 (by omega)
    have u_11 := own_below u_10 hX11
    have g_11 := own_below g_10 hX11
    clear x_10 u_10 g_10 b_10 hX11
    go_wp2_with fail
    refine calls_forget0 (W := X11) ?_ ?_
    (focus (repeat (first | (with_reducible exact Below.refl _ _) | (with_reducible refine Below.trans ?_ (Below.mono (by assumption) (by first | omega | (simp; done) | (simp; omega) | (simp [*]; done)))) | (with_reducible refine Below.alloc ?_ (by first | omega | (simp; done) | (simp; omega) | (simp [*]; done)) _) | (with_reducible refine Below.setCell ?_ (by first | omega | (simp; done) | (simp; omega) | (simp [*]; done)) _) | (with_reducible refine Below.drew ?_) | (with_reducible refine below_drewN ?_))))
    intro X12 hX12
    have sX12 := hX12.size
    refine (toIntS_any _ _ _ _ ((cells_below x_11 hX12 (by omega)).more (by omega)) h1).mono ?_
    rintro e w12 ⟨rfl, z_12, hb12⟩
    have s12 := hb12.size
    have hT12 := hX12.trans (hb12.mono sX12)
    have b_12 := b_11.trans (hT12.mono (by omega))
    have x_12 := cells_below x_11 hT12 (by omega)
    have u_12 := own_below u_11 hT12
    have g_12 := own_below g_11 hT12
    have z_in := own_in z_12
    clear x_11 u_11 g_11 b_11 hX12 hT12 hb12
    go_wp2_with fail
    refine calls_forget0 (W := w12) ?_ ?_
    (focus (repeat (first | (with_reducible exact Below.refl _ _) | (with_reducible refine Below.trans ?_ (Below.mono (by assumption) (by first | omega | (simp; done) | (simp; omega) | (simp [*]; done)))) | (with_reducible refine Below.alloc ?_ (by first | omega | (simp; done) | (simp; omega) | (simp [*]; done)) _) | (with_reducible refine Below.setCell ?_ (by first | omega | (simp; done) | (simp; omega) | (simp [*]; done)) _) | (with_reducible refine Below.drew ?_) | (with_reducible refine below_drewN ?_))))
    intro X13 hX13
    have sX13 := hX13.size
    refine (iHonestRun _ _ _ _ _ _ (Cells.of_own (own_below z_12 hX13)) (by omega)).mono ?_
    rintro e w13 ⟨Ah, ch, rfl, h_13, hb13⟩
    have s13 := hb13.size
    have hT13 := hX13.trans (hb13.mono sX13)
    have b_13 := b_12.trans (hT13.mono (by omega))
    have x_13 := cells_below x_12 hT13 (by omega)
    have u_13 := own_below u_12 hT13
    have g_13 := own_below g_12 hT13
    have z_13 := own_below z_12 hT13
    have h_in := own_in h_13
    clear x_12 u_12 g_12 z_12 b_12 hX13 hT13 hb13
    clear z_13
    go_wp2_with fail
    refine calls_forget0 (W := w13) ?_ ?_
    (focus (repeat (first | (with_reducible exact Below.refl _ _) | (with_reducible refine Below.trans ?_ (Below.mono (by assumption) (by first | omega | (simp; done) | (simp; omega) | (simp [*]; done)))) | (with_reducible refine Below.alloc ?_ (by first | omega | (simp; done) | (simp; omega) | (simp [*]; done)) _) | (with_reducible refine Below.setCell ?_ (by first | omega | (simp; done) | (simp; omega) | (simp [*]; done)) _) | (with_reducible refine Below.drew ?_) | (with_reducible refine below_drewN ?_))))
    intro X14 hX14
    have sX14 := hX14.size
    refine (eqMsgS_same _ _ _ _ _ _ _ HL.out (Cells.of_own (own_below h_13 hX14)) (Cells.of_own (own_below u_13 hX14)) (by omega)).mono ?_
    rintro e w14 ⟨rfl, hb14⟩
    have s14 := hb14.size
    have hT14 := hX14.trans (hb14.mono sX14)
    have b_14 := b_13.trans (hT14.mono (by omega))
    have x_14 := cells_below x_13 hT14 (by omega)
    have u_14 := own_below u_13 hT14
    have g_14 := own_below g_13 hT14
    have h_14 := own_below h_13 hT14
    clear x_13 u_13 g_13 h_13 b_13 hX14 hT14 hb14
    go_wp2_with fail
    refine calls_forget0 (W := w14) ?_ ?_
    (focus (repeat (first | (with_reducible exact Below.refl _ _) | (with_reducible refine Below.trans ?_ (Below.mono (by assumption) (by first | omega | (simp; done) | (simp; omega) | (simp [*]; done)))) | (with_reducible refine Below.alloc ?_ (by first | omega | (simp; done) | (simp; omega) | (simp [*]; done)) _) | (with_reducible refine Below.setCell ?_ (by first | omega | (simp; done) | (simp; omega) | (simp [*]; done)) _) | (with_reducible refine Below.drew ?_) | (with_reducible refine below_drewN ?_))))
    intro X15 hX15
    have sX15 := hX15.size
    refine (heldMsgS_any _ _ _ _ _ (Cells.of_own (own_below g_14 hX15)) (by omega) (by omega) (by omega)).mono ?_
    rintro e w' ⟨rfl, rfl⟩
    have b_15 := b_14.trans (hX15.mono (by omega))
    have x_15 := cells_below x_14 hX15 (by omega)
    have u_15 := own_below u_14 hX15
    have g_15 := own_below g_14 hX15
    have h_15 := own_below h_14 hX15
    clear x_14 u_14 g_14 h_14 b_14 hX15
    go_wp2
    go_ret
    refine ⟨rfl, b_15.trans ?_⟩
    repeat (first | (with_reducible exact Below.refl _ _) | (with_reducible refine Below.trans ?_ (Below.mono (by assumption) (by first | omega | (simp; done) | (simp; omega) | (simp [*]; done)))) | (with_reducible refine Below.alloc ?_ (by first | omega | (simp; done) | (simp; omega) | (simp [*]; done)) _) | (with_reducible refine Below.setCell ?_ (by first | omega | (simp; done) | (simp; omega) | (simp [*]; done)) _) | (with_reducible refine Below.drew ?_) | (with_reducible refine below_drewN ?_))
  · go_enter Try.func7, Try.ntmps7
    go_wp2
    go_ret
    exact ⟨rfl, Below.refl _ _⟩
set_option maxRecDepth 100000 in
theorem lifted (os : Os) (started : os.Started) (H : Type) (enc : TypeId × Value → H) :
    ReturnsInHanded {} Try.checked os 7 .any (Rows.fnExactHonestRunSpec.pre6 enc Try.prog Try.f7 Rows.fnExactHonestRunRow.domain false) (Rows.fnExactHonestRunSpec.post enc Try.prog Try.f7 false true false false) := by
  refine returnsInHanded_of_change (C := Try.checked) own started (by kernel_rfl) Try.func7
    (ChangeSpec.witness6 (enc := enc) (C := Try.checked) false ⟨#[], #[.int .i64 0, .slice none 0 0, .int .i64 0], []⟩ 8 (by kernel_rfl) (by kernel_rfl) (by kernel_rfl) (by kernel_rfl)) ?_
  intro W base args ds gs before hval0 hW _ _
  have hval : ∀ (j : Nat) t v, Try.f7.params[j]? = some t → args[j]? = some v → Value.okWide Try.prog W .any base t v := hval0
  have hW' := hW
  obtain ⟨p, q, hA0, hV, rfl, _, _⟩ := hW
  have hA : DataW.TrodAll enc Try.prog W 0 (fun _ => true) true Try.f7.params.toList args.toList ds p := hA0
  rw [Try.params7] at hA hval
  obtain ⟨v0, vs0, d0, ds0, p0, q0, hargs, rfl, rfl, h0, r0⟩ := trodAll_cons hA
  obtain ⟨v1, vs1, d1, ds1, p1, q1, rfl, rfl, rfl, h1, r1⟩ := trodAll_cons r0
  obtain ⟨v2, vs2, d2, ds2, p2, q2, rfl, rfl, rfl, h2, r2⟩ := trodAll_cons r1
  obtain ⟨rfl, rfl, rfl⟩ := trodAll_nil r2
  obtain rfl : args = #[v0, v1, v2] := by cases args; simp_all
  obtain ⟨rfl, rfl⟩ := trodVars_none hV
  obtain ⟨a0, rfl, hd0, _, wa0⟩ := open_int Try.underlying3 (hval 0 3 v0 rfl rfl) h0
  obtain ⟨A1, c1, xs1, rfl, hc1, hw1, hn1⟩ := view_ints Try.underlying30 Try.underlying3 (by kernel_rfl) (hval 1 30 v1 rfl rfl) h1 (fun x hx => hW'.lt x (by simp [hx]))
  obtain ⟨a2, rfl, hd2, _, wa2⟩ := open_int Try.underlying3 (hval 2 3 v2 rfl rfl) h2
  refine (walk a0 A1 c1 xs1 a2 W hc1 hn1).mono fun e W' ⟨he, hb⟩ => ?_
  subst he
  exact ⟨_, rfl, law_post rfl (by kernel_rfl) (by kernel_rfl) rfl Try.underlying4 hW' rfl rfl rfl hb⟩
theorem closed : joinedFacts Try.prog 7 Try.f7 Rows.fnExactHonestRunSpec Rows.fnExactHonestRunRow = true := by
  unfold joinedFacts
  rw [makeIs, mayIs, finalsIs]
  kernel_rfl
theorem over : Rows.fnExactHonestRunRow.holds Try.pinned (OpenSpec.ofChange Rows.fnExactHonestRunSpec) :=
  OpenClaim.holds_of_wide 7 Try.f7 rfl rfl rfl rfl rfl rfl rfl ⟨rfl, rfl, rfl, rfl, rfl⟩ rfl rfl rfl rfl rfl (by kernel_rfl) Try.func7 closed
    (of_decide_eq_true (by kernel_rfl)) (by unfold Func.isWrapper; first | (rw [if_pos (by decide +kernel)]; kernel_rfl) | (rw [if_neg (by decide +kernel)]; exact ⟨rfl, rfl⟩))
    (fun os started H enc _ => lifted os started H enc)
theorem proved : Rows.FnExactHonestRunSaid := over
#print axioms proved

end honestRun
end Go.Proofs.Ytgkkljcboicipaa
