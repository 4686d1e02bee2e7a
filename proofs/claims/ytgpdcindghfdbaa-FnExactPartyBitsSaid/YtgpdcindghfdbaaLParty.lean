/- The law that PartyBits of the program returns what the reference's returns, for all arguments. No conditions. -/
import Derived.Test.YtgpdcindghfdbaaAct
import Derived.Test.YtgpdcindghfdbaaHead
set_option linter.unusedVariables false
namespace Go.Proofs.Ytgpdcindghfdbaa
open Go.RowKit Go.ChangeShapes Go.WideShapes Go.ChangeAt

namespace partyBits
set_option maxHeartbeats 1600000 in
theorem walk (p : Int) (w : World) : Calls Try.prog 8 #[.int .i64 p] w fun e w' => e = .returned (.bool true) ∧ Below w.heap.size w w' := by
  have hl : (partyL p).length ≤ 1000000000 := by have := partyL_length p; omega
  go_enter Try.func8, Try.ntmps8
  have b_0 := Below.refl w.heap.size w
  go_wp2_with fail
  refine (sPartyBits _ _).mono ?_
  rintro e w1 ⟨A_u, c_u, rfl, u_1, hb1⟩
  have s1 := hb1.size
  have b_1 := b_0.trans (hb1.mono (by omega))
  have u_hi := own_hi u_1
  clear b_0 hb1
  go_wp2_with fail
  refine (iPartyBits _ _).mono ?_
  rintro e w2 ⟨A_g, c_g, rfl, g_2, hb2⟩
  have s2 := hb2.size
  have b_2 := b_1.trans (hb2.mono (by omega))
  have g_hi := own_hi g_2
  have u_2 := own_below u_1 hb2
  clear u_1
  clear b_1 hb2
  go_wp2_with fail
  refine (eqIntS_same _ _ _ _ _ _ (Cells.of_own g_2) (Cells.of_own u_2) hl).mono ?_
  rintro e w3 ⟨rfl, hb3⟩
  have s3 := hb3.size
  have b_3 := b_2.trans (hb3.mono (by omega))
  have u_3 := own_below u_2 hb3
  clear u_2
  have g_3 := own_below g_2 hb3
  clear g_2
  clear b_2 hb3
  go_wp2_with fail
  refine (markIntS_any _ _ _ _ _ _ _ g_3 hl (by omega) (by omega)).mono ?_
  rintro e w4 ⟨rfl, g_4, hg4⟩
  have s4 := hg4.size
  have b_4 := below_mark b_3 g_4 hg4 (by omega) (by omega)
  have u_4 := own_apart u_3 u_hi g_4 g_hi hg4 (by omega)
  clear u_3
  clear b_3 hg4 g_3
  go_wp2_with fail
  refine (heldIntS_any _ _ _ _ _ (Cells.of_own g_4) hl (by omega) (by omega)).mono ?_
  rintro e w' ⟨rfl, rfl⟩
  go_wp2_with fail
  refine (iPartyBits _ _).mono ?_
  rintro e w5 ⟨A_h, c_h, rfl, h_5, hb5⟩
  have s5 := hb5.size
  have b_5 := b_4.trans (hb5.mono (by omega))
  have h_hi := own_hi h_5
  have u_5 := own_below u_4 hb5
  clear u_4
  have g_5 := own_below g_4 hb5
  clear g_4
  clear b_4 hb5
  go_wp2_with fail
  refine (eqIntS_same _ _ _ _ _ _ (Cells.of_own h_5) (Cells.of_own u_5) hl).mono ?_
  rintro e w6 ⟨rfl, hb6⟩
  have s6 := hb6.size
  have b_6 := b_5.trans (hb6.mono (by omega))
  have u_6 := own_below u_5 hb6
  clear u_5
  have g_6 := own_below g_5 hb6
  clear g_5
  have h_6 := own_below h_5 hb6
  clear h_5
  clear b_5 hb6
  go_wp2_with fail
  refine (heldIntS_any _ _ _ _ _ (Cells.of_own g_6) hl (by omega) (by omega)).mono ?_
  rintro e w' ⟨rfl, rfl⟩
  go_wp2
  go_ret
  exact ⟨rfl, b_6⟩
set_option maxRecDepth 100000 in
theorem lifted (os : Os) (started : os.Started) (H : Type) (enc : TypeId × Value → H) :
    ReturnsInHanded {} Try.checked os 8 .any (Rows.fnExactPartyBitsSpec.pre6 enc Try.prog Try.f8 Rows.fnExactPartyBitsRow.domain false) (Rows.fnExactPartyBitsSpec.post enc Try.prog Try.f8 false true false false) := by
  refine returnsInHanded_of_change (C := Try.checked) own started (by kernel_rfl) Try.func8
    (ChangeSpec.witness6 (enc := enc) (C := Try.checked) false ⟨#[], #[.int .i64 0], []⟩ 8 (by kernel_rfl) (by kernel_rfl) (by kernel_rfl) (by kernel_rfl)) ?_
  intro W base args ds gs before hval0 hW _ _
  have hval : ∀ (j : Nat) t v, Try.f8.params[j]? = some t → args[j]? = some v → Value.okWide Try.prog W .any base t v := hval0
  have hW' := hW
  obtain ⟨p, q, hA0, hV, rfl, _, _⟩ := hW
  have hA : DataW.TrodAll enc Try.prog W 0 (fun _ => true) true Try.f8.params.toList args.toList ds p := hA0
  rw [Try.params8] at hA hval
  obtain ⟨v0, vs0, d0, ds0, p0, q0, hargs, rfl, rfl, h0, r0⟩ := trodAll_cons hA
  obtain ⟨rfl, rfl, rfl⟩ := trodAll_nil r0
  obtain rfl : args = #[v0] := by cases args; simp_all
  obtain ⟨rfl, rfl⟩ := trodVars_none hV
  obtain ⟨a0, rfl, hd0, _, wa0⟩ := open_int Try.underlying3 (hval 0 3 v0 rfl rfl) h0
  refine (walk a0 W ).mono fun e W' ⟨he, hb⟩ => ?_
  subst he
  exact ⟨_, rfl, law_post rfl (by kernel_rfl) (by kernel_rfl) rfl Try.underlying4 hW' rfl rfl rfl hb⟩
theorem closed : joinedFacts Try.prog 8 Try.f8 Rows.fnExactPartyBitsSpec Rows.fnExactPartyBitsRow = true := by
  unfold joinedFacts
  rw [makeIs, mayIs, finalsIs]
  kernel_rfl
theorem over : Rows.fnExactPartyBitsRow.holds Try.pinned (OpenSpec.ofChange Rows.fnExactPartyBitsSpec) :=
  OpenClaim.holds_of_wide 8 Try.f8 rfl rfl rfl rfl rfl rfl rfl ⟨rfl, rfl, rfl, rfl, rfl⟩ rfl rfl rfl rfl rfl (by kernel_rfl) Try.func8 closed
    (of_decide_eq_true (by kernel_rfl)) (by unfold Func.isWrapper; first | (rw [if_pos (by decide +kernel)]; kernel_rfl) | (rw [if_neg (by decide +kernel)]; exact ⟨rfl, rfl⟩))
    (fun os started H enc _ => lifted os started H enc)
theorem proved : Rows.FnExactPartyBitsSaid := over
#print axioms proved

end partyBits
end Go.Proofs.Ytgpdcindghfdbaa
