/- The law that Blame of the program returns what the reference's returns, for all arguments. No conditions. -/
import Derived.Test.YtgkkljcboicipaaJudge3
import Derived.Test.YtgkkljcboicipaaStructs
import Derived.Test.YtgkkljcboicipaaHead
set_option linter.unusedVariables false
namespace Go.Proofs.Ytgkkljcboicipaa
open Go.RowKit Go.ChangeShapes Go.WideShapes Go.ChangeAt

namespace blame
set_option maxHeartbeats 3200000 in
theorem walk (p : Int) (A : Option Addr) (c : Nat) (xs : List Int) (r : Int) (B : Option Addr) (d n : Nat) (ms : List Int) (w : World) (hx : Cells w w.heap.size A (ints xs)) (hn : xs.length ≤ maxLen)
    (hl : ms.length = n * 3) (hm : Cells w w.heap.size B (ints ms)) (hn2 : n ≤ maxLen) :
    Calls Try.prog 8 #[.int .i64 p, .slice A xs.length c, .int .i64 r, .slice B n d] w fun e w' => e = .returned (.bool true) ∧ Below w.heap.size w w' := by
  unfold maxLen at hn hn2
  have HL := hid hl
  clear hl
  by_cases h1 : xs.length ≤ 1048576
  · by_cases h2 : n ≤ 1048576
    · have HD := hid (show decide ((1048576 : Int) - (n : Int) < 0) = false by simp; omega)
      go_enter Try.func8, Try.ntmps8
      have b_0 := (Below.refl w.heap.size w)
      have s_0 := b_0.size
      have x_0 := hx
      clear hx
      have q_0 := hm
      clear hm
      go_wp2_with fail
      refine calls_forget0 (W := w) ?_ ?_
      (focus (repeat (first | (with_reducible exact Below.refl _ _) | (with_reducible refine Below.trans ?_ (Below.mono (by assumption) (by first | omega | (simp; done) | (simp; omega) | (simp [*]; done)))) | (with_reducible refine Below.alloc ?_ (by first | omega | (simp; done) | (simp; omega) | (simp [*]; done)) _) | (with_reducible refine Below.setCell ?_ (by first | omega | (simp; done) | (simp; omega) | (simp [*]; done)) _) | (with_reducible refine Below.drew ?_) | (with_reducible refine below_drewN ?_))))
      intro X1 hX1
      have sX1 := hX1.size
      refine (szMsgS_any _ _ _ _ _ (by omega) (by omega) (by omega)).mono ?_
      rintro e w' ⟨rfl, rfl⟩
      have b_1 := b_0.trans (hX1.mono (by omega))
      have x_1 := cells_below x_0 hX1 (by omega)
      have q_1 := cells_below q_0 hX1 (by omega)
      clear x_0 q_0 b_0 hX1
      rw [HD.out, pick_no]
      go_wp2_with fail
      refine calls_forget0 (W := X1) ?_ ?_
      (focus (repeat (first | (with_reducible exact Below.refl _ _) | (with_reducible refine Below.trans ?_ (Below.mono (by assumption) (by first | omega | (simp; done) | (simp; omega) | (simp [*]; done)))) | (with_reducible refine Below.alloc ?_ (by first | omega | (simp; done) | (simp; omega) | (simp [*]; done)) _) | (with_reducible refine Below.setCell ?_ (by first | omega | (simp; done) | (simp; omega) | (simp [*]; done)) _) | (with_reducible refine Below.drew ?_) | (with_reducible refine below_drewN ?_))))
      intro X2 hX2
      have sX2 := hX2.size
      refine (toIntS_any _ _ _ _ ((cells_below x_1 hX2 (by omega)).more (by omega)) h1).mono ?_
      rintro e w2 ⟨rfl, a_2, hb2⟩
      have s2 := hb2.size
      have hT2 := hX2.trans (hb2.mono sX2)
      have b_2 := b_1.trans (hT2.mono (by omega))
      have x_2 := cells_below x_1 hT2 (by omega)
      have q_2 := cells_below q_1 hT2 (by omega)
      have a_in := own_in a_2
      clear x_1 q_1 b_1 hX2 hT2 hb2
      go_wp2_with fail
      refine calls_forget0 (W := w2) ?_ ?_
      (focus (repeat (first | (with_reducible exact Below.refl _ _) | (with_reducible refine Below.trans ?_ (Below.mono (by assumption) (by first | omega | (simp; done) | (simp; omega) | (simp [*]; done)))) | (with_reducible refine Below.alloc ?_ (by first | omega | (simp; done) | (simp; omega) | (simp [*]; done)) _) | (with_reducible refine Below.setCell ?_ (by first | omega | (simp; done) | (simp; omega) | (simp [*]; done)) _) | (with_reducible refine Below.drew ?_) | (with_reducible refine below_drewN ?_))))
      intro X3 hX3
      have sX3 := hX3.size
      refine (toMsgS_any _ _ _ _ _ HL.out ((cells_below q_2 hX3 (by omega)).more (by omega)) h2).mono ?_
      rintro e w3 ⟨rfl, f_3, hb3⟩
      have s3 := hb3.size
      have hT3 := hX3.trans (hb3.mono sX3)
      have b_3 := b_2.trans (hT3.mono (by omega))
      have x_3 := cells_below x_2 hT3 (by omega)
      have q_3 := cells_below q_2 hT3 (by omega)
      have a_3 := own_below a_2 hT3
      have f_in := own_in f_3
      clear x_2 q_2 a_2 b_2 hX3 hT3 hb3
      go_wp2_with fail
      refine calls_forget0 (W := w3) ?_ ?_
      (focus (repeat (first | (with_reducible exact Below.refl _ _) | (with_reducible refine Below.trans ?_ (Below.mono (by assumption) (by first | omega | (simp; done) | (simp; omega) | (simp [*]; done)))) | (with_reducible refine Below.alloc ?_ (by first | omega | (simp; done) | (simp; omega) | (simp [*]; done)) _) | (with_reducible refine Below.setCell ?_ (by first | omega | (simp; done) | (simp; omega) | (simp [*]; done)) _) | (with_reducible refine Below.drew ?_) | (with_reducible refine below_drewN ?_))))
      intro X4 hX4
      have sX4 := hX4.size
      refine (sBlame _ _ _ _ _ _ _ _ _ _ (Cells.of_own (own_below a_3 hX4)) (by omega) (Cells.of_own (own_below f_3 hX4)) HL.out (by omega)).mono ?_
      rintro e w4 ⟨rfl, hb4⟩
      have s4 := hb4.size
      have hT4 := hX4.trans (hb4.mono sX4)
      have b_4 := b_3.trans (hT4.mono (by omega))
      have x_4 := cells_below x_3 hT4 (by omega)
      have q_4 := cells_below q_3 hT4 (by omega)
      have a_4 := own_below a_3 hT4
      have f_4 := own_below f_3 hT4
      clear x_3 q_3 a_3 f_3 b_3 hX4 hT4 hb4
      clear a_4
      clear f_4
      go_wp2_with fail
      refine calls_forget0 (W := w4) ?_ ?_
      (focus (repeat (first | (with_reducible exact Below.refl _ _) | (with_reducible refine Below.trans ?_ (Below.mono (by assumption) (by first | omega | (simp; done) | (simp; omega) | (simp [*]; done)))) | (with_reducible refine Below.alloc ?_ (by first | omega | (simp; done) | (simp; omega) | (simp [*]; done)) _) | (with_reducible refine Below.setCell ?_ (by first | omega | (simp; done) | (simp; omega) | (simp [*]; done)) _) | (with_reducible refine Below.drew ?_) | (with_reducible refine below_drewN ?_))))
      intro X5 hX5
      have sX5 := hX5.size
      refine (toIntS_any _ _ _ _ ((cells_below x_4 hX5 (by omega)).more (by omega)) h1).mono ?_
      rintro e w5 ⟨rfl, y_5, hb5⟩
      have s5 := hb5.size
      have hT5 := hX5.trans (hb5.mono sX5)
      have b_5 := b_4.trans (hT5.mono (by omega))
      have x_5 := cells_below x_4 hT5 (by omega)
      have q_5 := cells_below q_4 hT5 (by omega)
      have y_in := own_in y_5
      clear x_4 q_4 b_4 hX5 hT5 hb5
      go_wp2_with fail
      refine calls_forget0 (W := w5) ?_ ?_
      (focus (repeat (first | (with_reducible exact Below.refl _ _) | (with_reducible refine Below.trans ?_ (Below.mono (by assumption) (by first | omega | (simp; done) | (simp; omega) | (simp [*]; done)))) | (with_reducible refine Below.alloc ?_ (by first | omega | (simp; done) | (simp; omega) | (simp [*]; done)) _) | (with_reducible refine Below.setCell ?_ (by first | omega | (simp; done) | (simp; omega) | (simp [*]; done)) _) | (with_reducible refine Below.drew ?_) | (with_reducible refine below_drewN ?_))))
      intro X6 hX6
      have sX6 := hX6.size
      refine (toMsgS_any _ _ _ _ _ HL.out ((cells_below q_5 hX6 (by omega)).more (by omega)) h2).mono ?_
      rintro e w6 ⟨rfl, v_6, hb6⟩
      have s6 := hb6.size
      have hT6 := hX6.trans (hb6.mono sX6)
      have b_6 := b_5.trans (hT6.mono (by omega))
      have x_6 := cells_below x_5 hT6 (by omega)
      have q_6 := cells_below q_5 hT6 (by omega)
      have y_6 := own_below y_5 hT6
      have v_in := own_in v_6
      clear x_5 q_5 y_5 b_5 hX6 hT6 hb6
      go_wp2_with fail
      refine calls_forget0 (W := w6) ?_ ?_
      (focus (repeat (first | (with_reducible exact Below.refl _ _) | (with_reducible refine Below.trans ?_ (Below.mono (by assumption) (by first | omega | (simp; done) | (simp; omega) | (simp [*]; done)))) | (with_reducible refine Below.alloc ?_ (by first | omega | (simp; done) | (simp; omega) | (simp [*]; done)) _) | (with_reducible refine Below.setCell ?_ (by first | omega | (simp; done) | (simp; omega) | (simp [*]; done)) _) | (with_reducible refine Below.drew ?_) | (with_reducible refine below_drewN ?_))))
      intro X7 hX7
      have sX7 := hX7.size
      refine (iBlame _ _ _ _ _ _ _ _ _ _ (Cells.of_own (own_below y_6 hX7)) (by omega) (Cells.of_own (own_below v_6 hX7)) HL.out (by omega)).mono ?_
      rintro e w7 ⟨rfl, hb7⟩
      have s7 := hb7.size
      have hT7 := hX7.trans (hb7.mono sX7)
      have b_7 := b_6.trans (hT7.mono (by omega))
      have x_7 := cells_below x_6 hT7 (by omega)
      have q_7 := cells_below q_6 hT7 (by omega)
      have y_7 := own_below y_6 hT7
      have v_7 := own_below v_6 hT7
      clear x_6 q_6 y_6 v_6 b_6 hX7 hT7 hb7
      go_wp2_with fail
      refine calls_forget0 (W := w7) ?_ ?_
      (focus (repeat (first | (with_reducible exact Below.refl _ _) | (with_reducible refine Below.trans ?_ (Below.mono (by assumption) (by first | omega | (simp; done) | (simp; omega) | (simp [*]; done)))) | (with_reducible refine Below.alloc ?_ (by first | omega | (simp; done) | (simp; omega) | (simp [*]; done)) _) | (with_reducible refine Below.setCell ?_ (by first | omega | (simp; done) | (simp; omega) | (simp [*]; done)) _) | (with_reducible refine Below.drew ?_) | (with_reducible refine below_drewN ?_))))
      intro X8 hX8
      have sX8 := hX8.size
      refine (toIntS_any _ _ _ _ ((cells_below x_7 hX8 (by omega)).more (by omega)) h1).mono ?_
      rintro e w8 ⟨rfl, z_8, hb8⟩
      have s8 := hb8.size
      have hT8 := hX8.trans (hb8.mono sX8)
      have b_8 := b_7.trans (hT8.mono (by omega))
      have x_8 := cells_below x_7 hT8 (by omega)
      have q_8 := cells_below q_7 hT8 (by omega)
      have y_8 := own_below y_7 hT8
      have v_8 := own_below v_7 hT8
      have z_in := own_in z_8
      clear x_7 q_7 y_7 v_7 b_7 hX8 hT8 hb8
      go_wp2_with fail
      refine calls_forget0 (W := w8) ?_ ?_
      (focus (repeat (first | (with_reducible exact Below.refl _ _) | (with_reducible refine Below.trans ?_ (Below.mono (by assumption) (by first | omega | (simp; done) | (simp; omega) | (simp [*]; done)))) | (with_reducible refine Below.alloc ?_ (by first | omega | (simp; done) | (simp; omega) | (simp [*]; done)) _) | (with_reducible refine Below.setCell ?_ (by first | omega | (simp; done) | (simp; omega) | (simp [*]; done)) _) | (with_reducible refine Below.drew ?_) | (with_reducible refine below_drewN ?_))))
      intro X9 hX9
      have sX9 := hX9.size
      refine (eqIntS_same _ _ _ _ _ _ (Cells.of_own (own_below y_8 hX9)) (Cells.of_own (own_below z_8 hX9)) (by omega)).mono ?_
      rintro e w9 ⟨rfl, hb9⟩
      have s9 := hb9.size
      have hT9 := hX9.trans (hb9.mono sX9)
      have b_9 := b_8.trans (hT9.mono (by omega))
      have x_9 := cells_below x_8 hT9 (by omega)
      have q_9 := cells_below q_8 hT9 (by omega)
      have y_9 := own_below y_8 hT9
      have v_9 := own_below v_8 hT9
      have z_9 := own_below z_8 hT9
      clear x_8 q_8 y_8 v_8 z_8 b_8 hX9 hT9 hb9
      clear z_9
      clear y_9
      go_wp2_with fail
      refine calls_forget0 (W := w9) ?_ ?_
      (focus (repeat (first | (with_reducible exact Below.refl _ _) | (with_reducible refine Below.trans ?_ (Below.mono (by assumption) (by first | omega | (simp; done) | (simp; omega) | (simp [*]; done)))) | (with_reducible refine Below.alloc ?_ (by first | omega | (simp; done) | (simp; omega) | (simp [*]; done)) _) | (with_reducible refine Below.setCell ?_ (by first | omega | (simp; done) | (simp; omega) | (simp [*]; done)) _) | (with_reducible refine Below.drew ?_) | (with_reducible refine below_drewN ?_))))
      intro X10 hX10
      have sX10 := hX10.size
      refine (toMsgS_any _ _ _ _ _ HL.out ((cells_below q_9 hX10 (by omega)).more (by omega)) h2).mono ?_
      rintro e w10 ⟨rfl, z_10, hb10⟩
      have s10 := hb10.size
      have hT10 := hX10.trans (hb10.mono sX10)
      have b_10 := b_9.trans (hT10.mono (by omega))
      have x_10 := cells_below x_9 hT10 (by omega)
      have q_10 := cells_below q_9 hT10 (by omega)
      have v_10 := own_below v_9 hT10
      have z_in := own_in z_10
      clear x_9 q_9 v_9 b_9 hX10 hT10 hb10
      go_wp2_with fail
      refine calls_forget0 (W := w10) ?_ ?_
      (focus (repeat (first | (with_reducible exact Below.refl _ _) | (with_reducible refine Below.trans ?_ (Below.mono (by assumption) (by first | omega | (simp; done) | (simp; omega) | (simp [*]; done)))) | (with_reducible refine Below.alloc ?_ (by first | omega | (simp; done) | (simp; omega) | (simp [*]; done)) _) | (with_reducible refine Below.setCell ?_ (by first | omega | (simp; done) | (simp; omega) | (simp [*]; done)) _) | (with_reducible refine Below.drew ?_) | (with_reducible refine below_drewN ?_))))
      intro X11 hX11
      have sX11 := hX11.size
      refine (eqMsgS_same _ _ _ _ _ _ _ HL.out (Cells.of_own (own_below v_10 hX11)) (Cells.of_own (own_below z_10 hX11)) (by omega)).mono ?_
      rintro e w11 ⟨rfl, hb11⟩
      have s11 := hb11.size
      have hT11 := hX11.trans (hb11.mono sX11)
      have b_11 := b_10.trans (hT11.mono (by omega))
      have x_11 := cells_below x_10 hT11 (by omega)
      have q_11 := cells_below q_10 hT11 (by omega)
      have v_11 := own_below v_10 hT11
      have z_11 := own_below z_10 hT11
      clear x_10 q_10 v_10 z_10 b_10 hX11 hT11 hb11
      go_wp2
      go_ret
      refine ⟨rfl, b_11.trans ?_⟩
      repeat (first | (with_reducible exact Below.refl _ _) | (with_reducible refine Below.trans ?_ (Below.mono (by assumption) (by first | omega | (simp; done) | (simp; omega) | (simp [*]; done)))) | (with_reducible refine Below.alloc ?_ (by first | omega | (simp; done) | (simp; omega) | (simp [*]; done)) _) | (with_reducible refine Below.setCell ?_ (by first | omega | (simp; done) | (simp; omega) | (simp [*]; done)) _) | (with_reducible refine Below.drew ?_) | (with_reducible refine below_drewN ?_))
    · have HD := hid (show decide ((1048576 : Int) - (n : Int) < 0) = true by simp; omega)
      go_enter Try.func8, Try.ntmps8
      go_wp2_with fail
      refine (szMsgS_any _ _ _ _ _ (by omega) (by omega) (by omega)).mono ?_
      rintro e w' ⟨rfl, rfl⟩
      rw [HD.out, pick_yes]
      go_wp2
      go_ret
      exact ⟨rfl, Below.refl _ _⟩
  · go_enter Try.func8, Try.ntmps8
    go_wp2
    go_ret
    exact ⟨rfl, Below.refl _ _⟩
set_option maxRecDepth 100000 in
theorem lifted (os : Os) (started : os.Started) (H : Type) (enc : TypeId × Value → H) :
    ReturnsInHanded {} Try.checked os 8 .any (Rows.fnExactBlameSpec.pre6 enc Try.prog Try.f8 Rows.fnExactBlameRow.domain false) (Rows.fnExactBlameSpec.post enc Try.prog Try.f8 false true false false) := by
  refine returnsInHanded_of_change (C := Try.checked) own started (by kernel_rfl) Try.func8
    (ChangeSpec.witness6 (enc := enc) (C := Try.checked) false ⟨#[], #[.int .i64 0, .slice none 0 0, .int .i64 0, .slice none 0 0], []⟩ 8 (by kernel_rfl) (by kernel_rfl) (by kernel_rfl) (by kernel_rfl)) ?_
  intro W base args ds gs before hval0 hW _ _
  have hval : ∀ (j : Nat) t v, Try.f8.params[j]? = some t → args[j]? = some v → Value.okWide Try.prog W .any base t v := hval0
  have hW' := hW
  obtain ⟨p, q, hA0, hV, rfl, _, _⟩ := hW
  have hA : DataW.TrodAll enc Try.prog W 0 (fun _ => true) true Try.f8.params.toList args.toList ds p := hA0
  rw [Try.params8] at hA hval
  obtain ⟨v0, vs0, d0, ds0, p0, q0, hargs, rfl, rfl, h0, r0⟩ := trodAll_cons hA
  obtain ⟨v1, vs1, d1, ds1, p1, q1, rfl, rfl, rfl, h1, r1⟩ := trodAll_cons r0
  obtain ⟨v2, vs2, d2, ds2, p2, q2, rfl, rfl, rfl, h2, r2⟩ := trodAll_cons r1
  obtain ⟨v3, vs3, d3, ds3, p3, q3, rfl, rfl, rfl, h3, r3⟩ := trodAll_cons r2
  obtain ⟨rfl, rfl, rfl⟩ := trodAll_nil r3
  obtain rfl : args = #[v0, v1, v2, v3] := by cases args; simp_all
  obtain ⟨rfl, rfl⟩ := trodVars_none hV
  obtain ⟨a0, rfl, hd0, _, wa0⟩ := open_int Try.underlying3 (hval 0 3 v0 rfl rfl) h0
  obtain ⟨A1, c1, xs1, rfl, hc1, hw1, hn1⟩ := view_ints Try.underlying30 Try.underlying3 (by kernel_rfl) (hval 1 30 v1 rfl rfl) h1 (fun x hx => hW'.lt x (by simp [hx]))
  obtain ⟨a2, rfl, hd2, _, wa2⟩ := open_int Try.underlying3 (hval 2 3 v2 rfl rfl) h2
  obtain ⟨A3, c3, n3, xs3, rfl, hl3, hc3, hn3⟩ := view_structs (F := 3) Try.underlying37 Try.underlying64 (by kernel_rfl) (by kernel_rfl) rfl (by kernel_rfl) (by decide) (hval 3 37 v3 rfl rfl) h3 (fun x hx => hW'.lt x (by simp [hx]))
  refine (walk a0 A1 c1 xs1 a2 A3 c3 n3 xs3 W hc1 hn1 hl3 hc3 hn3).mono fun e W' ⟨he, hb⟩ => ?_
  subst he
  exact ⟨_, rfl, law_post rfl (by kernel_rfl) (by kernel_rfl) rfl Try.underlying4 hW' rfl rfl rfl hb⟩
theorem closed : joinedFacts Try.prog 8 Try.f8 Rows.fnExactBlameSpec Rows.fnExactBlameRow = true := by
  unfold joinedFacts
  rw [makeIs, mayIs, finalsIs]
  kernel_rfl
theorem over : Rows.fnExactBlameRow.holds Try.pinned (OpenSpec.ofChange Rows.fnExactBlameSpec) :=
  OpenClaim.holds_of_wide 8 Try.f8 rfl rfl rfl rfl rfl rfl rfl ⟨rfl, rfl, rfl, rfl, rfl⟩ rfl rfl rfl rfl rfl (by kernel_rfl) Try.func8 closed
    (of_decide_eq_true (by kernel_rfl)) (by unfold Func.isWrapper; first | (rw [if_pos (by decide +kernel)]; kernel_rfl) | (rw [if_neg (by decide +kernel)]; exact ⟨rfl, rfl⟩))
    (fun os started H enc _ => lifted os started H enc)
theorem proved : Rows.FnExactBlameSaid := over
#print axioms proved

end blame
end Go.Proofs.Ytgkkljcboicipaa
