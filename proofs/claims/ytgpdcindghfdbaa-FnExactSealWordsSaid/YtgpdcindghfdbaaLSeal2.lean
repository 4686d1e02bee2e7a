/- The laws that TagWords, SealWords and PartyBits of the program return what the reference's return, for all arguments. No conditions. -/
import Derived.Test.YtgpdcindghfdbaaSeal
import Derived.Test.YtgpdcindghfdbaaHead
import Derived.Outline
set_option linter.unusedVariables false
namespace Go.Proofs.Ytgpdcindghfdbaa
open Go.RowKit Go.ChangeShapes Go.WideShapes Go.ChangeAt

namespace tagWords
set_option maxHeartbeats 800000 in
theorem walk (k n : Int) (A : Option Addr) (c : Nat) (xs : List Int) (w : World) (hx : Cells w w.heap.size A (ints xs)) (hn : xs.length ≤ maxLen) :
    Calls Try.prog 14 #[.int .i64 k, .int .i64 n, .slice A xs.length c] w fun e w' => e = .returned (.bool true) ∧ Below w.heap.size w w' := by
  unfold maxLen at hn
  by_cases h1 : xs.length ≤ 1048576
  · go_enter Try.func14, Try.ntmps14
    have b_0 := Below.refl w.heap.size w
    have x_0 := hx
    clear hx
    go_wp2_with fail
    refine (toIntS_any _ _ _ _ (x_0.more (by omega)) h1).mono ?_
    rintro e w1 ⟨rfl, a_1, hb1⟩
    have s1 := hb1.size
    have b_1 := b_0.trans (hb1.mono (by omega))
    have a_hi := own_hi a_1
    have x_1 := cells_below x_0 hb1 (by omega)
    clear x_0
    clear b_0 hb1
    go_wp2_with fail
    refine (sTagWords _ _ _ _ _ _ (Cells.of_own a_1) (by omega)).mono ?_
    rintro e w' ⟨rfl, rfl⟩
    clear a_1
    go_wp2_with fail
    refine (toIntS_any _ _ _ _ (x_1.more (by omega)) h1).mono ?_
    rintro e w2 ⟨rfl, g_2, hb2⟩
    have s2 := hb2.size
    have b_2 := b_1.trans (hb2.mono (by omega))
    have g_hi := own_hi g_2
    have x_2 := cells_below x_1 hb2 (by omega)
    clear x_1
    clear b_1 hb2
    go_wp2_with fail
    refine (iTagWords _ _ _ _ _ _ (Cells.of_own g_2) (by omega)).mono ?_
    rintro e w' ⟨rfl, rfl⟩
    go_wp2_with fail
    refine (toIntS_any _ _ _ _ (x_2.more (by omega)) h1).mono ?_
    rintro e w3 ⟨rfl, h_3, hb3⟩
    have s3 := hb3.size
    have b_3 := b_2.trans (hb3.mono (by omega))
    have h_hi := own_hi h_3
    have x_3 := cells_below x_2 hb3 (by omega)
    clear x_2
    have g_3 := own_below g_2 hb3
    clear g_2
    clear b_2 hb3
    go_wp2_with fail
    refine (eqIntS_same _ _ _ _ _ _ (Cells.of_own g_3) (Cells.of_own h_3) (by omega)).mono ?_
    rintro e w4 ⟨rfl, hb4⟩
    have s4 := hb4.size
    have b_4 := b_3.trans (hb4.mono (by omega))
    have x_4 := cells_below x_3 hb4 (by omega)
    clear x_3
    have g_4 := own_below g_3 hb4
    clear g_3
    have h_4 := own_below h_3 hb4
    clear h_3
    clear b_3 hb4
    go_wp2
    go_ret
    exact ⟨rfl, b_4⟩
  · go_enter Try.func14, Try.ntmps14
    go_wp2
    go_ret
    exact ⟨rfl, Below.refl _ _⟩
set_option maxRecDepth 100000 in
theorem lifted (os : Os) (started : os.Started) (H : Type) (enc : TypeId × Value → H) :
    ReturnsInHanded {} Try.checked os 14 .any (Rows.fnExactTagWordsSpec.pre6 enc Try.prog Try.f14 Rows.fnExactTagWordsRow.domain false) (Rows.fnExactTagWordsSpec.post enc Try.prog Try.f14 false true false false) := by
  refine returnsInHanded_of_change (C := Try.checked) own started (by kernel_rfl) Try.func14
    (ChangeSpec.witness6 (enc := enc) (C := Try.checked) false ⟨#[], #[.int .i64 0, .int .i64 0, .slice none 0 0], []⟩ 8 (by kernel_rfl) (by kernel_rfl) (by kernel_rfl) (by kernel_rfl)) ?_
  intro W base args ds gs before hval0 hW _ _
  have hval : ∀ (j : Nat) t v, Try.f14.params[j]? = some t → args[j]? = some v → Value.okWide Try.prog W .any base t v := hval0
  have hW' := hW
  obtain ⟨p, q, hA0, hV, rfl, _, _⟩ := hW
  have hA : DataW.TrodAll enc Try.prog W 0 (fun _ => true) true Try.f14.params.toList args.toList ds p := hA0
  rw [Try.params14] at hA hval
  obtain ⟨v0, vs0, d0, ds0, p0, q0, hargs, rfl, rfl, h0, r0⟩ := trodAll_cons hA
  obtain ⟨v1, vs1, d1, ds1, p1, q1, rfl, rfl, rfl, h1, r1⟩ := trodAll_cons r0
  obtain ⟨v2, vs2, d2, ds2, p2, q2, rfl, rfl, rfl, h2, r2⟩ := trodAll_cons r1
  obtain ⟨rfl, rfl, rfl⟩ := trodAll_nil r2
  obtain rfl : args = #[v0, v1, v2] := by cases args; simp_all
  obtain ⟨rfl, rfl⟩ := trodVars_none hV
  obtain ⟨a0, rfl, hd0, _, wa0⟩ := open_int Try.underlying3 (hval 0 3 v0 rfl rfl) h0
  obtain ⟨a1, rfl, hd1, _, wa1⟩ := open_int Try.underlying3 (hval 1 3 v1 rfl rfl) h1
  obtain ⟨A2, c2, xs2, rfl, hc2, hw2, hn2⟩ := view_ints Try.underlying46 Try.underlying3 (by kernel_rfl) (hval 2 46 v2 rfl rfl) h2 (fun x hx => hW'.lt x (by simp [hx]))
  refine (walk a0 a1 A2 c2 xs2 W hc2 hn2).mono fun e W' ⟨he, hb⟩ => ?_
  subst he
  exact ⟨_, rfl, law_post rfl (by kernel_rfl) (by kernel_rfl) rfl Try.underlying4 hW' rfl rfl rfl hb⟩
theorem closed : joinedFacts Try.prog 14 Try.f14 Rows.fnExactTagWordsSpec Rows.fnExactTagWordsRow = true := by
  unfold joinedFacts
  rw [makeIs, mayIs, finalsIs]
  kernel_rfl
theorem over : Rows.fnExactTagWordsRow.holds Try.pinned (OpenSpec.ofChange Rows.fnExactTagWordsSpec) :=
  OpenClaim.holds_of_wide 14 Try.f14 rfl rfl rfl rfl rfl rfl rfl ⟨rfl, rfl, rfl, rfl, rfl⟩ rfl rfl rfl rfl rfl (by kernel_rfl) Try.func14 closed
    (of_decide_eq_true (by kernel_rfl)) (by unfold Func.isWrapper; first | (rw [if_pos (by decide +kernel)]; kernel_rfl) | (rw [if_neg (by decide +kernel)]; exact ⟨rfl, rfl⟩))
    (fun os started H enc _ => lifted os started H enc)
theorem proved : Rows.FnExactTagWordsSaid := over
#print axioms proved

end tagWords
namespace sealWords
set_option maxHeartbeats 1600000 in
theorem walk (k n : Int) (A : Option Addr) (c : Nat) (xs : List Int) (w : World) (hx : Cells w w.heap.size A (ints xs)) (hn : xs.length ≤ maxLen) :
    Calls Try.prog 15 #[.int .i64 k, .int .i64 n, .slice A xs.length c] w fun e w' => e = .returned (.bool true) ∧ Below w.heap.size w w' := by
  unfold maxLen at hn
  have hl : (sealL k n xs).length ≤ 1000000000 := by
    unfold sealL
    split
    · rw [sealTo_length]; unfold sealB at *; simp_all; omega
    · simp
  by_cases h1 : xs.length ≤ 1048576
  · go_enter Try.func15, Try.ntmps15
    have b_0 := Below.refl w.heap.size w
    have x_0 := hx
    clear hx
    go_wp2_with fail
    refine (toIntS_any _ _ _ _ (x_0.more (by omega)) h1).mono ?_
    rintro e w1 ⟨rfl, a_1, hb1⟩
    have s1 := hb1.size
    have b_1 := b_0.trans (hb1.mono (by omega))
    have a_hi := own_hi a_1
    have x_1 := cells_below x_0 hb1 (by omega)
    clear x_0
    clear b_0 hb1
    go_wp2_with fail
    refine (sSealWords _ _ _ _ _ _ (Cells.of_own a_1) (by omega)).mono ?_
    rintro e w2 ⟨A_u, c_u, rfl, u_2, hb2⟩
    have s2 := hb2.size
    have b_2 := b_1.trans (hb2.mono (by omega))
    have u_hi := own_hi u_2
    have x_2 := cells_below x_1 hb2 (by omega)
    clear x_1
    have a_2 := own_below a_1 hb2
    clear a_1
    clear b_1 hb2
    clear a_2
    go_wp2_with fail
    refine (toIntS_any _ _ _ _ (x_2.more (by omega)) h1).mono ?_
    rintro e w3 ⟨rfl, y_3, hb3⟩
    have s3 := hb3.size
    have b_3 := b_2.trans (hb3.mono (by omega))
    have y_hi := own_hi y_3
    have x_3 := cells_below x_2 hb3 (by omega)
    clear x_2
    have u_3 := own_below u_2 hb3
    clear u_2
    clear b_2 hb3
    go_wp2_with fail
    refine (iSealWords _ _ _ _ _ _ (Cells.of_own y_3) (by omega)).mono ?_
    rintro e w4 ⟨A_g, c_g, rfl, g_4, hb4⟩
    have s4 := hb4.size
    have b_4 := b_3.trans (hb4.mono (by omega))
    have g_hi := own_hi g_4
    have x_4 := cells_below x_3 hb4 (by omega)
    clear x_3
    have u_4 := own_below u_3 hb4
    clear u_3
    have y_4 := own_below y_3 hb4
    clear y_3
    clear b_3 hb4
    go_wp2_with fail
    refine (eqIntS_same _ _ _ _ _ _ (Cells.of_own g_4) (Cells.of_own u_4) hl).mono ?_
    rintro e w5 ⟨rfl, hb5⟩
    have s5 := hb5.size
    have b_5 := b_4.trans (hb5.mono (by omega))
    have x_5 := cells_below x_4 hb5 (by omega)
    clear x_4
    have u_5 := own_below u_4 hb5
    clear u_4
    have y_5 := own_below y_4 hb5
    clear y_4
    have g_5 := own_below g_4 hb5
    clear g_4
    clear b_4 hb5
    go_wp2_with fail
    refine (toIntS_any _ _ _ _ (x_5.more (by omega)) h1).mono ?_
    rintro e w6 ⟨rfl, z_6, hb6⟩
    have s6 := hb6.size
    have b_6 := b_5.trans (hb6.mono (by omega))
    have z_hi := own_hi z_6
    have x_6 := cells_below x_5 hb6 (by omega)
    clear x_5
    have u_6 := own_below u_5 hb6
    clear u_5
    have y_6 := own_below y_5 hb6
    clear y_5
    have g_6 := own_below g_5 hb6
    clear g_5
    clear b_5 hb6
    go_wp2_with fail
    refine (eqIntS_same _ _ _ _ _ _ (Cells.of_own y_6) (Cells.of_own z_6) (by omega)).mono ?_
    rintro e w7 ⟨rfl, hb7⟩
    have s7 := hb7.size
    have b_7 := b_6.trans (hb7.mono (by omega))
    have x_7 := cells_below x_6 hb7 (by omega)
    clear x_6
    have u_7 := own_below u_6 hb7
    clear u_6
    have y_7 := own_below y_6 hb7
    clear y_6
    have g_7 := own_below g_6 hb7
    clear g_6
    have z_7 := own_below z_6 hb7
    clear z_6
    clear b_6 hb7
    clear z_7
    go_wp2_with fail
    refine (markIntS_any _ _ _ _ _ _ _ y_7 (by omega) (by omega) (by omega)).mono ?_
    rintro e w8 ⟨rfl, y_8, hg8⟩
    have s8 := hg8.size
    have b_8 := below_mark b_7 y_8 hg8 (by omega) (by omega)
    have x_8 := cells_apart x_7 y_8 hg8 (by omega) (by omega)
    clear x_7
    have u_8 := own_apart u_7 u_hi y_8 y_hi hg8 (by omega)
    clear u_7
    have g_8 := own_apart g_7 g_hi y_8 y_hi hg8 (by omega)
    clear g_7
    clear b_7 hg8 y_7
    go_wp2_with fail
    refine (eqIntS_same _ _ _ _ _ _ (Cells.of_own g_8) (Cells.of_own u_8) hl).mono ?_
    rintro e w9 ⟨rfl, hb9⟩
    have s9 := hb9.size
    have b_9 := b_8.trans (hb9.mono (by omega))
    have x_9 := cells_below x_8 hb9 (by omega)
    clear x_8
    have u_9 := own_below u_8 hb9
    clear u_8
    have y_9 := own_below y_8 hb9
    clear y_8
    have g_9 := own_below g_8 hb9
    clear g_8
    clear b_8 hb9
    clear y_9
    go_wp2_with fail
    refine (markIntS_any _ _ _ _ _ _ _ g_9 hl (by omega) (by omega)).mono ?_
    rintro e w10 ⟨rfl, g_10, hg10⟩
    have s10 := hg10.size
    have b_10 := below_mark b_9 g_10 hg10 (by omega) (by omega)
    have x_10 := cells_apart x_9 g_10 hg10 (by omega) (by omega)
    clear x_9
    have u_10 := own_apart u_9 u_hi g_10 g_hi hg10 (by omega)
    clear u_9
    clear b_9 hg10 g_9
    go_wp2_with fail
    refine (heldIntS_any _ _ _ _ _ (Cells.of_own g_10) hl (by omega) (by omega)).mono ?_
    rintro e w' ⟨rfl, rfl⟩
    go_wp2_with fail
    refine (toIntS_any _ _ _ _ (x_10.more (by omega)) h1).mono ?_
    rintro e w11 ⟨rfl, z_11, hb11⟩
    have s11 := hb11.size
    have b_11 := b_10.trans (hb11.mono (by omega))
    have z_hi := own_hi z_11
    have x_11 := cells_below x_10 hb11 (by omega)
    clear x_10
    have u_11 := own_below u_10 hb11
    clear u_10
    have g_11 := own_below g_10 hb11
    clear g_10
    clear b_10 hb11
    go_wp2_with fail
    refine (iSealWords _ _ _ _ _ _ (Cells.of_own z_11) (by omega)).mono ?_
    rintro e w12 ⟨A_h, c_h, rfl, h_12, hb12⟩
    have s12 := hb12.size
    have b_12 := b_11.trans (hb12.mono (by omega))
    have h_hi := own_hi h_12
    have x_12 := cells_below x_11 hb12 (by omega)
    clear x_11
    have u_12 := own_below u_11 hb12
    clear u_11
    have g_12 := own_below g_11 hb12
    clear g_11
    have z_12 := own_below z_11 hb12
    clear z_11
    clear b_11 hb12
    go_wp2_with fail
    refine (eqIntS_same _ _ _ _ _ _ (Cells.of_own h_12) (Cells.of_own u_12) hl).mono ?_
    rintro e w13 ⟨rfl, hb13⟩
    have s13 := hb13.size
    have b_13 := b_12.trans (hb13.mono (by omega))
    have x_13 := cells_below x_12 hb13 (by omega)
    clear x_12
    have u_13 := own_below u_12 hb13
    clear u_12
    have g_13 := own_below g_12 hb13
    clear g_12
    have z_13 := own_below z_12 hb13
    clear z_12
    have h_13 := own_below h_12 hb13
    clear h_12
    clear b_12 hb13
    go_wp2_with fail
    refine (heldIntS_any _ _ _ _ _ (Cells.of_own g_13) hl (by omega) (by omega)).mono ?_
    rintro e w' ⟨rfl, rfl⟩
    go_wp2
    go_ret
    exact ⟨rfl, b_13⟩
  · go_enter Try.func15, Try.ntmps15
    go_wp2
    go_ret
    exact ⟨rfl, Below.refl _ _⟩
set_option maxRecDepth 100000 in
theorem lifted (os : Os) (started : os.Started) (H : Type) (enc : TypeId × Value → H) :
    ReturnsInHanded {} Try.checked os 15 .any (Rows.fnExactSealWordsSpec.pre6 enc Try.prog Try.f15 Rows.fnExactSealWordsRow.domain false) (Rows.fnExactSealWordsSpec.post enc Try.prog Try.f15 false true false false) := by
  refine returnsInHanded_of_change (C := Try.checked) own started (by kernel_rfl) Try.func15
    (ChangeSpec.witness6 (enc := enc) (C := Try.checked) false ⟨#[], #[.int .i64 0, .int .i64 0, .slice none 0 0], []⟩ 8 (by kernel_rfl) (by kernel_rfl) (by kernel_rfl) (by kernel_rfl)) ?_
  intro W base args ds gs before hval0 hW _ _
  have hval : ∀ (j : Nat) t v, Try.f15.params[j]? = some t → args[j]? = some v → Value.okWide Try.prog W .any base t v := hval0
  have hW' := hW
  obtain ⟨p, q, hA0, hV, rfl, _, _⟩ := hW
  have hA : DataW.TrodAll enc Try.prog W 0 (fun _ => true) true Try.f15.params.toList args.toList ds p := hA0
  rw [Try.params15] at hA hval
  obtain ⟨v0, vs0, d0, ds0, p0, q0, hargs, rfl, rfl, h0, r0⟩ := trodAll_cons hA
  obtain ⟨v1, vs1, d1, ds1, p1, q1, rfl, rfl, rfl, h1, r1⟩ := trodAll_cons r0
  obtain ⟨v2, vs2, d2, ds2, p2, q2, rfl, rfl, rfl, h2, r2⟩ := trodAll_cons r1
  obtain ⟨rfl, rfl, rfl⟩ := trodAll_nil r2
  obtain rfl : args = #[v0, v1, v2] := by cases args; simp_all
  obtain ⟨rfl, rfl⟩ := trodVars_none hV
  obtain ⟨a0, rfl, hd0, _, wa0⟩ := open_int Try.underlying3 (hval 0 3 v0 rfl rfl) h0
  obtain ⟨a1, rfl, hd1, _, wa1⟩ := open_int Try.underlying3 (hval 1 3 v1 rfl rfl) h1
  obtain ⟨A2, c2, xs2, rfl, hc2, hw2, hn2⟩ := view_ints Try.underlying46 Try.underlying3 (by kernel_rfl) (hval 2 46 v2 rfl rfl) h2 (fun x hx => hW'.lt x (by simp [hx]))
  refine (walk a0 a1 A2 c2 xs2 W hc2 hn2).mono fun e W' ⟨he, hb⟩ => ?_
  subst he
  exact ⟨_, rfl, law_post rfl (by kernel_rfl) (by kernel_rfl) rfl Try.underlying4 hW' rfl rfl rfl hb⟩
theorem closed : joinedFacts Try.prog 15 Try.f15 Rows.fnExactSealWordsSpec Rows.fnExactSealWordsRow = true := by
  unfold joinedFacts
  rw [makeIs, mayIs, finalsIs]
  kernel_rfl
theorem over : Rows.fnExactSealWordsRow.holds Try.pinned (OpenSpec.ofChange Rows.fnExactSealWordsSpec) :=
  OpenClaim.holds_of_wide 15 Try.f15 rfl rfl rfl rfl rfl rfl rfl ⟨rfl, rfl, rfl, rfl, rfl⟩ rfl rfl rfl rfl rfl (by kernel_rfl) Try.func15 closed
    (of_decide_eq_true (by kernel_rfl)) (by unfold Func.isWrapper; first | (rw [if_pos (by decide +kernel)]; kernel_rfl) | (rw [if_neg (by decide +kernel)]; exact ⟨rfl, rfl⟩))
    (fun os started H enc _ => lifted os started H enc)
theorem proved : Rows.FnExactSealWordsSaid := over
#print axioms proved

end sealWords
end Go.Proofs.Ytgpdcindghfdbaa
