/- RunScript: the program's and the reference's answers agree: the tied card. No conditions. -/
import Derived.Test.YtjknadnknainbaaGreatDoorMem
import Derived.Test.YtjknadnknainbaaGreatDoorScrS
import Derived.Test.YtjknadnknainbaaGreatDoorStrS
import Derived.Test.YtjknadnknainbaaGreatDoorEnvOf
import Derived.ChangeMaps5
set_option linter.unusedVariables false
namespace Go.Proofs.YtjknadnknainbaaGreatDoor
open Go.RowKit Go.ChangeShapes Go.WideShapes Go.ChangeAt

namespace script
theorem res_len (z : Int) (t : List UInt8) : (scRes z t).length ≤ 1000 := by
  unfold scRes
  split
  · next h =>
    unfold scOk at h
    simp only [Bool.and_eq_true, decide_eq_true_eq] at h
    have hk := okS_to h.1.2 (scrX (lns t)) (scrN (lns t))
    have hj := hk.1.2.1
    unfold scTxt
    rw [List.length_append, List.length_map, codesTo_length, schedTxt_length (schedOkB_yes hk.1)]
    omega
  · simp
set_option maxRecDepth 100000 in
set_option maxHeartbeats 3200000 in
theorem walk (z : Int) (l : List UInt8) (w : World) (hl : (ByteArray.mk l.toArray).size ≤ maxLen) (henv : Env w) :
    Calls Tryz.prog 4 #[.int .i64 z, .string ⟨l.toArray⟩] w fun e w' => e = .returned (.bool true) ∧ Below w.heap.size w w' := by
  have HT := hid henv
  clear henv
  by_cases h1 : 1048576 < l.length
  · have h1' : (1048576 : Int) < (l.length : Int) := by omega
    go_enter Tryz.func4, Tryz.ntmps4
    go_wp2
    go_ret
    exact ⟨rfl, Below.refl _ _⟩
  have h1' : ¬ (1048576 : Int) < (l.length : Int) := by omega
  have CS := hid (fun w he => sRunScript z l w (by omega) he)
  have CI := hid (fun w he => iRunScript z l w (by omega) he)
  have hlen := res_len z l
  unfold GivesSc at CS CI
  obtain ⟨R, hR⟩ : ∃ R, scRes z l = R := ⟨_, rfl⟩
  obtain ⟨b, hb⟩ : ∃ b, scOk z l = b := ⟨_, rfl⟩
  rw [hR, hb] at CS CI
  rw [hR] at hlen
  obtain ⟨N, hN⟩ : ∃ N, R.length = N := ⟨_, rfl⟩
  rw [hN] at CS CI hlen
  have HN := hid hN
  clear hR hN hb h1
  go_enter Tryz.func4, Tryz.ntmps4
  have b_0 := (Below.refl w.heap.size w)
  have s_0 := b_0.size
  go_wp2_with fail
  refine calls_forget0 (W := w) ?_ ?_
  (focus (exact belBy))
  intro X1 hX1
  have sX1 := hX1.size
  refine (CS.out _ (HT.out.step (b_0.trans (hX1.mono (by omega))) HT.out)).mono ?_
  rintro e w1 ⟨Au, cu, rfl, u_1, hb1⟩
  have s1 := hb1.size
  have hT1 := hX1.trans (hb1.mono sX1)
  have b_1 := b_0.trans (hT1.mono (by omega))
  have u_in := own_in u_1
  clear b_0 hX1 hT1 hb1
  go_wp2_with fail
  refine calls_forget0 (W := w1) ?_ ?_
  (focus (exact belBy))
  intro X2 hX2
  have sX2 := hX2.size
  refine (CI.out _ (HT.out.step (b_1.trans (hX2.mono (by omega))) HT.out)).mono ?_
  rintro e w2 ⟨Ag, cg, rfl, g_2, hb2⟩
  have s2 := hb2.size
  have hT2 := hX2.trans (hb2.mono sX2)
  have b_2 := b_1.trans (hT2.mono (by omega))
  have u_2 := own_below u_1 hT2
  have g_in := own_in g_2
  clear u_1 b_1 hX2 hT2 hb2
  go_wp2_with fail
  refine calls_forget0 (W := w2) ?_ ?_
  (focus (exact belBy))
  intro X3 hX3
  have sX3 := hX3.size
  refine (eqStringS_same _ _ _ _ _ _ _ HN.out (Cells.of_own (own_below g_2 hX3)) (Cells.of_own (own_below u_2 hX3)) (by omega)).mono ?_
  rintro e w3 ⟨rfl, hb3⟩
  have s3 := hb3.size
  have hT3 := hX3.trans (hb3.mono sX3)
  have b_3 := b_2.trans (hT3.mono (by omega))
  have u_3 := own_below u_2 hT3
  have g_3 := own_below g_2 hT3
  clear u_2 g_2 b_2 hX3 hT3 hb3
  go_wp2_with fail
  refine calls_forget0 (W := w3) ?_ ?_
  (focus (exact belBy))
  intro X4 hX4
  have sX4 := hX4.size
  refine (markStringS_any _ _ _ _ _ _ _ (own_below g_3 hX4) (by omega) (by omega) (by omega)).mono ?_
  rintro e w4 ⟨rfl, g_4, hg4⟩
  have s4 := hg4.size
  have hT4 := below_grown hX4 hg4
  have b_4 := gr_below hT4 b_3 (by omega) (fun q hq => by have h1 := g_in q hq; omega)
  have u_4 := gr_own hT4 u_3 (fun q p hq hp => by first | (have h1 := g_in q hq; have h2 := u_in p hp; omega) | exact own_ne g_3 u_3 (by decide) q p hq hp | exact ne_g_u q p hq hp | exact (ne_u_g p q hp hq).symm)
  clear u_3 g_3 b_3 hX4 hT4 hg4
  go_wp2_with fail
  refine calls_forget0 (W := w4) ?_ ?_
  (focus (exact belBy))
  intro X5 hX5
  have sX5 := hX5.size
  refine (heldStringS_any _ _ _ _ _ (Cells.of_own (own_below g_4 hX5)) (by omega) (by omega) (by omega)).mono ?_
  rintro e w5 ⟨rfl, hb5⟩
  have s5 := hb5.size
  have hT5 := hX5.trans (hb5.mono sX5)
  have b_5 := b_4.trans (hT5.mono (by omega))
  have u_5 := own_below u_4 hT5
  have g_5 := own_below g_4 hT5
  clear u_4 g_4 b_4 hX5 hT5 hb5
  go_wp2_with fail
  refine calls_forget0 (W := w5) ?_ ?_
  (focus (exact belBy))
  intro X6 hX6
  have sX6 := hX6.size
  refine (CI.out _ (HT.out.step (b_5.trans (hX6.mono (by omega))) HT.out)).mono ?_
  rintro e w6 ⟨Ah, ch, rfl, h_6, hb6⟩
  have s6 := hb6.size
  have hT6 := hX6.trans (hb6.mono sX6)
  have b_6 := b_5.trans (hT6.mono (by omega))
  have u_6 := own_below u_5 hT6
  have g_6 := own_below g_5 hT6
  have h_in := own_in h_6
  clear u_5 g_5 b_5 hX6 hT6 hb6
  go_wp2_with fail
  refine calls_forget0 (W := w6) ?_ ?_
  (focus (exact belBy))
  intro X7 hX7
  have sX7 := hX7.size
  refine (eqStringS_same _ _ _ _ _ _ _ HN.out (Cells.of_own (own_below h_6 hX7)) (Cells.of_own (own_below u_6 hX7)) (by omega)).mono ?_
  rintro e w7 ⟨rfl, hb7⟩
  have s7 := hb7.size
  have hT7 := hX7.trans (hb7.mono sX7)
  have b_7 := b_6.trans (hT7.mono (by omega))
  have u_7 := own_below u_6 hT7
  have g_7 := own_below g_6 hT7
  have h_7 := own_below h_6 hT7
  clear u_6 g_6 h_6 b_6 hX7 hT7 hb7
  go_wp2_with fail
  refine calls_forget0 (W := w7) ?_ ?_
  (focus (exact belBy))
  intro X8 hX8
  have sX8 := hX8.size
  refine (heldStringS_any _ _ _ _ _ (Cells.of_own (own_below g_7 hX8)) (by omega) (by omega) (by omega)).mono ?_
  rintro e w8 ⟨rfl, hb8⟩
  have s8 := hb8.size
  have hT8 := hX8.trans (hb8.mono sX8)
  have b_8 := b_7.trans (hT8.mono (by omega))
  have u_8 := own_below u_7 hT8
  have g_8 := own_below g_7 hT8
  have h_8 := own_below h_7 hT8
  clear u_7 g_7 h_7 b_7 hX8 hT8 hb8
  go_wp2
  go_ret
  refine ⟨rfl, b_8.trans ?_⟩
  exact belBy
set_option maxRecDepth 100000 in
theorem lifted (os : Os) (started : os.Started) (H : Type) (enc : TypeId × Value → H) :
    ReturnsInHanded {} Tryz.checked os 4 .any (fun w args => (Rows.fnExactRunScriptSpec.pre enc Tryz.prog Tryz.f4 [] false w args ∧ laidMetH Tryz.prog Rows.fnExactRunScriptRow.laid w) ∧ sizedMet enc Tryz.prog Tryz.f4 (OpenSpec.ofChange Rows.fnExactRunScriptSpec) false w args)
      (Rows.fnExactRunScriptSpec.post enc Tryz.prog Tryz.f4 false true false false) := by
  refine returns_laid_shaped (C := Tryz.checked) (X := fun w _ => laidMetH Tryz.prog Rows.fnExactRunScriptRow.laid w) (fun _ _ _ hh h => h.of_heap hh) own started (by kernel_rfl) Tryz.func4
    (ChangeSpec.witness_shaped (enc := enc) (C := Tryz.checked) (os := os) (X := fun w _ => laidMetH Tryz.prog Rows.fnExactRunScriptRow.laid w) false (World.laidAll Tryz.prog os Rows.fnExactRunScriptRow.laid) #[.int .i64 0, .string ⟨#[]⟩] 8 (World.laidAll_os _ _ _) (World.shaped_of_ZipB (by kernel_rfl) (by kernel_rfl)) (by kernel_rfl) (by kernel_rfl) (by kernel_rfl)
      (by rw [MakeChecks.laidMetH_plain _ _ _ (by kernel_rfl)]; exact laidMet_laidAll _ (by kernel_rfl) (by kernel_rfl))) ?_
  intro W base args ds gs before hval0 hW hLaid hShaped
  have hval : ∀ (j : Nat) t v, Tryz.f4.params[j]? = some t → args[j]? = some v → Value.okWide Tryz.prog W .any base t v := hval0
  have hW' := hW
  obtain ⟨p, q, hA0, hV, rfl, _, _⟩ := hW
  have hA : DataW.TrodAll enc Tryz.prog W 0 (fun _ => true) true Tryz.f4.params.toList args.toList ds p := hA0
  rw [Tryz.params4] at hA hval
  obtain ⟨v0, vs0, d0, ds0, p0, q0, hargs, rfl, rfl, h0, r0⟩ := trodAll_cons hA
  obtain ⟨v1, vs1, d1, ds1, p1, q1, rfl, rfl, rfl, h1, r1⟩ := trodAll_cons r0
  obtain ⟨rfl, rfl, rfl⟩ := trodAll_nil r1
  obtain rfl : args = #[v0, v1] := by cases args; simp_all
  obtain ⟨rfl, rfl⟩ := trodVars_none hV
  obtain ⟨a0, rfl, hd0, _, wa0⟩ := open_int Tryz.underlying3 (hval 0 3 v0 rfl rfl) h0
  obtain ⟨s1, rfl, hd1, _, ws1⟩ := ChangeMaps.open_string Tryz.underlying9 (hval 1 9 v1 rfl rfl) h1
  obtain ⟨l1, rfl⟩ : ∃ l : List UInt8, s1 = ⟨l.toArray⟩ := ⟨s1.data.toList, ByteArray.ext (by simp)⟩
  refine (walk a0 l1 W ws1 (env_of hLaid hShaped)).mono fun e W' ⟨he, hb⟩ => ?_
  subst he
  exact ⟨_, rfl, law_post rfl (by kernel_rfl) (by kernel_rfl) rfl Tryz.underlying4 hW' rfl rfl rfl hb⟩
theorem closed : joinedFacts Tryz.prog 4 Tryz.f4 Rows.fnExactRunScriptSpec Rows.fnExactRunScriptRow = true := by
  unfold joinedFacts
  rw [makeIs, mayIs, finalsIs]
  kernel_rfl
theorem over : Rows.fnExactRunScriptRow.holds Tryz.pinned (OpenSpec.ofChange Rows.fnExactRunScriptSpec) :=
  OpenClaim.holds_of_wide 4 Tryz.f4 rfl rfl rfl rfl rfl rfl rfl ⟨rfl, rfl, rfl, rfl, rfl⟩ rfl rfl rfl rfl rfl (by kernel_rfl) Tryz.func4 closed
    (of_decide_eq_true (by kernel_rfl)) (by unfold Func.isWrapper; first | (rw [if_pos (by decide +kernel)]; kernel_rfl) | (rw [if_neg (by decide +kernel)]; exact ⟨rfl, rfl⟩))
    (fun os started H enc _ => lifted os started H enc)
theorem proved : Rows.FnExactRunScriptCardSaid :=
  Claim7.holds_tied_plain_at .later [] [.data, .data, .data, .data, .sentinel, .sentinel, .pinned] true Rows.fnExactRunScriptCard.stood.harness true
    over (fun _ h => by cases h) (by kernel_rfl) (fun _ h => by cases h) fnExactRunScript_row_tie rfl ⟨rfl, rfl⟩ (by kernel_rfl) rfl
    (fun f fn hf hfn => by
      obtain rfl : f = 4 := Option.some.inj ((show Tryz.prog.funcNamed Rows.fnExactRunScriptRow.func = some 4 by kernel_rfl).symm.trans hf) |>.symm
      obtain rfl : fn = Tryz.f4 := (Option.some.inj (Tryz.func4.symm.trans hfn)).symm
      exact ⟨by kernel_rfl, fun j t ht => by
        rw [Tryz.params4] at ht
        have hm := Array.mem_of_getElem? ht
        simp at hm
        rcases hm with rfl | rfl <;> exact (show Tryz.prog.wantsStandIn _ = false by kernel_rfl)⟩)
    (by kernel_rfl)
#print axioms proved

end script
end Go.Proofs.YtjknadnknainbaaGreatDoor
