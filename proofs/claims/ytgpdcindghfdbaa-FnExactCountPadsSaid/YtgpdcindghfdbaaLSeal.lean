/- The laws that CountPads and TagWords of the program return what the reference's return, for all arguments. No conditions. -/
import Derived.Test.YtgpdcindghfdbaaSeal
import Derived.Test.YtgpdcindghfdbaaHead
import Derived.Outline
set_option linter.unusedVariables false
namespace Go.Proofs.Ytgpdcindghfdbaa
open Go.RowKit Go.ChangeShapes Go.WideShapes Go.ChangeAt

namespace countPads
set_option maxHeartbeats 800000 in
theorem walk (A : Option Addr) (c : Nat) (xs : List Int) (B : Option Addr) (d : Nat) (ys : List Int) (w : World) (hx : Cells w w.heap.size A (ints xs)) (hn : xs.length ≤ maxLen) (hy : Cells w w.heap.size B (ints ys)) (hm : ys.length ≤ maxLen) :
    Calls Try.prog 9 #[.slice A xs.length c, .slice B ys.length d] w fun e w' => e = .returned (.bool true) ∧ Below w.heap.size w w' := by
  unfold maxLen at hn hm
  by_cases h1 : xs.length ≤ 1048576
  · by_cases h2 : ys.length ≤ 1048576
    · go_enter Try.func9, Try.ntmps9
      go_wp2_with fail
      refine (toIntS_any _ _ _ _ hx h1).mono ?_
      rintro e w1 ⟨rfl, ho1, hb1⟩
      have hx1 := hx.step hb1
      have hy1 := hy.step hb1
      have ha1 := Cells.of_own ho1
      go_wp2_with fail
      refine (toIntS_any _ _ _ _ hy1 h2).mono ?_
      rintro e w2 ⟨rfl, ho2, hb2⟩
      have hx2 := hx1.step hb2
      have hy2 := hy1.step hb2
      have ha2 := ha1.step hb2
      have hd2 := Cells.of_own ho2
      clear hx1 hy1 ha1 ho1 ho2
      go_wp2_with fail
      refine (sCountPads _ _ _ _ _ _ _ ha2 hd2 (by omega) (by omega)).mono ?_
      rintro e w' ⟨rfl, rfl⟩
      clear ha2 hd2
      go_wp2_with fail
      refine (toIntS_any _ _ _ _ hx2 h1).mono ?_
      rintro e w3 ⟨rfl, ho3, hb3⟩
      have hx3 := hx2.step hb3
      have hy3 := hy2.step hb3
      have ha3 := Cells.of_own ho3
      clear hx2 hy2 ho3
      go_wp2_with fail
      refine (toIntS_any _ _ _ _ hy3 h2).mono ?_
      rintro e w4 ⟨rfl, ho4, hb4⟩
      have hx4 := hx3.step hb4
      have hy4 := hy3.step hb4
      have ha4 := ha3.step hb4
      have hd4 := Cells.of_own ho4
      clear hx3 hy3 ha3 ho4
      go_wp2_with fail
      refine (iCountPads _ _ _ _ _ _ _ ha4 hd4 (by omega) (by omega)).mono ?_
      rintro e w' ⟨rfl, rfl⟩
      go_wp2_with fail
      refine (toIntS_any _ _ _ _ hx4 h1).mono ?_
      rintro e w5 ⟨rfl, ho5, hb5⟩
      have hy5 := hy4.step hb5
      have ha5 := ha4.step hb5
      have hd5 := hd4.step hb5
      have hf5 := Cells.of_own ho5
      clear hx4 hy4 ha4 hd4 ho5
      go_wp2_with fail
      refine (eqIntS_same _ _ _ _ _ _ ha5 hf5 (by omega)).mono ?_
      rintro e w6 ⟨rfl, hb6⟩
      have hy6 := hy5.step hb6
      have hd6 := hd5.step hb6
      clear hy5 ha5 hd5 hf5
      go_wp2_with fail
      refine (toIntS_any _ _ _ _ hy6 h2).mono ?_
      rintro e w7 ⟨rfl, ho7, hb7⟩
      have hd7 := hd6.step hb7
      have hf7 := Cells.of_own ho7
      clear hy6 hd6 ho7
      go_wp2_with fail
      refine (eqIntS_same _ _ _ _ _ _ hd7 hf7 (by omega)).mono ?_
      rintro e w8 ⟨rfl, hb8⟩
      go_wp2
      go_ret
      refine ⟨rfl, ?_⟩
      have s1 := hb1.size
      have s2 := hb2.size
      have s3 := hb3.size
      have s4 := hb4.size
      have s5 := hb5.size
      have s6 := hb6.size
      have s7 := hb7.size
      repeat (first | (with_reducible exact Below.refl _ _) | (with_reducible refine Below.trans ?_ (Below.mono (by assumption) (by first | omega | (simp; done) | (simp; omega) | (simp [*]; done)))) | (with_reducible refine Below.alloc ?_ (by first | omega | (simp; done) | (simp; omega) | (simp [*]; done)) _) | (with_reducible refine Below.setCell ?_ (by first | omega | (simp; done) | (simp; omega) | (simp [*]; done)) _) | (with_reducible refine Below.drew ?_))
    · go_enter Try.func9, Try.ntmps9
      go_wp2
      go_ret
      exact ⟨rfl, Below.refl _ _⟩
  · go_enter Try.func9, Try.ntmps9
    go_wp2
    go_ret
    exact ⟨rfl, Below.refl _ _⟩
set_option maxRecDepth 100000 in
theorem lifted (os : Os) (started : os.Started) (H : Type) (enc : TypeId × Value → H) :
    ReturnsInHanded {} Try.checked os 9 .any (Rows.fnExactCountPadsSpec.pre6 enc Try.prog Try.f9 Rows.fnExactCountPadsRow.domain false) (Rows.fnExactCountPadsSpec.post enc Try.prog Try.f9 false true false false) := by
  refine returnsInHanded_of_change (C := Try.checked) own started (by kernel_rfl) Try.func9
    (ChangeSpec.witness6 (enc := enc) (C := Try.checked) false ⟨#[], #[.slice none 0 0, .slice none 0 0], []⟩ 8 (by kernel_rfl) (by kernel_rfl) (by kernel_rfl) (by kernel_rfl)) ?_
  intro W base args ds gs before hval0 hW _ _
  have hval : ∀ (j : Nat) t v, Try.f9.params[j]? = some t → args[j]? = some v → Value.okWide Try.prog W .any base t v := hval0
  have hW' := hW
  obtain ⟨p, q, hA0, hV, rfl, _, _⟩ := hW
  have hA : DataW.TrodAll enc Try.prog W 0 (fun _ => true) true Try.f9.params.toList args.toList ds p := hA0
  rw [Try.params9] at hA hval
  obtain ⟨v0, vs0, d0, ds0, p0, q0, hargs, rfl, rfl, h0, r0⟩ := trodAll_cons hA
  obtain ⟨v1, vs1, d1, ds1, p1, q1, rfl, rfl, rfl, h1, r1⟩ := trodAll_cons r0
  obtain ⟨rfl, rfl, rfl⟩ := trodAll_nil r1
  obtain rfl : args = #[v0, v1] := by cases args; simp_all
  obtain ⟨rfl, rfl⟩ := trodVars_none hV
  obtain ⟨A0, c0, xs0, rfl, hc0, hw0, hn0⟩ := view_ints Try.underlying46 Try.underlying3 (by kernel_rfl) (hval 0 46 v0 rfl rfl) h0 (fun x hx => hW'.lt x (by simp [hx]))
  obtain ⟨A1, c1, xs1, rfl, hc1, hw1, hn1⟩ := view_ints Try.underlying46 Try.underlying3 (by kernel_rfl) (hval 1 46 v1 rfl rfl) h1 (fun x hx => hW'.lt x (by simp [hx]))
  refine (walk A0 c0 xs0 A1 c1 xs1 W hc0 hn0 hc1 hn1).mono fun e W' ⟨he, hb⟩ => ?_
  subst he
  exact ⟨_, rfl, law_post rfl (by kernel_rfl) (by kernel_rfl) rfl Try.underlying4 hW' rfl rfl rfl hb⟩
theorem closed : joinedFacts Try.prog 9 Try.f9 Rows.fnExactCountPadsSpec Rows.fnExactCountPadsRow = true := by
  unfold joinedFacts
  rw [makeIs, mayIs, finalsIs]
  kernel_rfl
theorem over : Rows.fnExactCountPadsRow.holds Try.pinned (OpenSpec.ofChange Rows.fnExactCountPadsSpec) :=
  OpenClaim.holds_of_wide 9 Try.f9 rfl rfl rfl rfl rfl rfl rfl ⟨rfl, rfl, rfl, rfl, rfl⟩ rfl rfl rfl rfl rfl (by kernel_rfl) Try.func9 closed
    (of_decide_eq_true (by kernel_rfl)) (by unfold Func.isWrapper; first | (rw [if_pos (by decide +kernel)]; kernel_rfl) | (rw [if_neg (by decide +kernel)]; exact ⟨rfl, rfl⟩))
    (fun os started H enc _ => lifted os started H enc)
theorem proved : Rows.FnExactCountPadsSaid := over
#print axioms proved

end countPads
end Go.Proofs.Ytgpdcindghfdbaa
