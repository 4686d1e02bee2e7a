/- The law that FormatAct of the program returns what the reference's returns, for all arguments: the tied card. No conditions. -/
import Derived.Test.YtknkpajedbckmaaDoorFmtAct
import Derived.Test.YtknkpajedbckmaaDoorTabOf
set_option linter.unusedVariables false
namespace Go.Proofs.YtknkpajedbckmaaDoor
open Go.RowKit Go.ChangeShapes Go.WideShapes Go.ChangeAt

namespace fmtAct
set_option maxHeartbeats 1600000 in
theorem walk (k i d n : Int) (w : World) (ht : Tab w) :
    Calls Tryd.prog 3 #[.agg #[.int .i64 k, .int .i64 i, .int .i64 d, .int .i64 n]] w fun e w' => e = .returned (.bool true) ∧ Below w.heap.size w w' := by
  have HCS := hid (fun w ht => sFormatAct k i d n w ht)
  have HCI := hid (fun w ht => iFormatAct k i d n w ht)
  obtain ⟨L, hL⟩ : ∃ L, actTxt k i d n = L := ⟨_, rfl⟩
  obtain ⟨b, hb⟩ : ∃ b, actOkB k i d n = b := ⟨_, rfl⟩
  rw [hL, hb] at HCS HCI
  have HT := hid ht
  clear hL hb ht
  go_enter Tryd.func3, Tryd.ntmps3
  have b_0 := (Below.refl w.heap.size w)
  have s_0 := b_0.size
  go_wp2_with fail
  refine calls_forget1 (W := w) (b0 := w.heap.size) (t0 := 23) (c0 := #[.int .i64 k, .int .i64 i, .int .i64 d, .int .i64 n]) ?_ ?_ ?_
  (focus (first | ((repeat (first | (with_reducible assumption) | (with_reducible apply Blk.drew) | (with_reducible apply Blk.drewN) | (with_reducible apply Blk.new; first | rfl | (simp; done)) | (with_reducible apply Blk.alloc) | (with_reducible apply Blk.set_) | (with_reducible apply Blk.past; focus assumption) | (with_reducible apply Blk.far; focus (first | (simp; done) | (simp; omega) | (dsimp only; omega))))); done) | (apply Blk.cast; (case h => (repeat (first | (with_reducible assumption) | (with_reducible apply Blk.drew) | (with_reducible apply Blk.drewN) | (with_reducible apply Blk.new; first | rfl | (simp; done)) | (with_reducible apply Blk.alloc) | (with_reducible apply Blk.set_) | (with_reducible apply Blk.past; focus assumption) | (with_reducible apply Blk.far; focus (first | (simp; done) | (simp; omega) | (dsimp only; omega)))))); (case e => rfl))))
  (focus (repeat (first | (with_reducible exact Below.refl _ _) | (with_reducible refine Below.trans ?_ (Below.mono (by assumption) (by first | omega | (simp; done) | (simp; omega) | (simp [*]; done)))) | (with_reducible refine Below.alloc ?_ (by first | omega | (simp; done) | (simp; omega) | (simp [*]; done)) _) | (with_reducible refine Below.setCell ?_ (by first | omega | (simp; done) | (simp; omega) | (simp [*]; done)) _) | (with_reducible refine Below.drew ?_) | (with_reducible refine below_drewN ?_))))
  intro X1 x_n hX1
  have sX1 := hX1.size
  have x_lt := x_n.lt
  refine (toAct_any k i d n _).mono ?_
  rintro e w1 ⟨rfl, hb1⟩
  have s1 := hb1.size
  have hT1 := hX1.trans (hb1.mono sX1)
  have b_1 := b_0.trans (hT1.mono (by omega))
  have x_1 := Blk.past hb1 x_n
  clear b_0 x_n hX1 hT1 hb1
  have cell_x := x_1.cell
  have froz_x := x_1.frozen
  have lt_x := x_1.lt
  go_wp2_with fail
  refine calls_forget0 (W := w1) ?_ ?_
  (focus (repeat (first | (with_reducible exact Below.refl _ _) | (with_reducible refine Below.trans ?_ (Below.mono (by assumption) (by first | omega | (simp; done) | (simp; omega) | (simp [*]; done)))) | (with_reducible refine Below.alloc ?_ (by first | omega | (simp; done) | (simp; omega) | (simp [*]; done)) _) | (with_reducible refine Below.setCell ?_ (by first | omega | (simp; done) | (simp; omega) | (simp [*]; done)) _) | (with_reducible refine Below.drew ?_) | (with_reducible refine below_drewN ?_))))
  intro X2 hX2
  have sX2 := hX2.size
  refine (HCS.out _ (HT.out.step (b_1.trans (hX2.mono (by omega))) HT.out)).mono ?_
  rintro e w2 ⟨rfl, hb2⟩
  have s2 := hb2.size
  have hT2 := hX2.trans (hb2.mono sX2)
  have b_2 := b_1.trans (hT2.mono (by omega))
  have x_2 := Blk.past hT2 x_1
  clear x_1 b_1 cell_x froz_x lt_x hX2 hT2 hb2
  have cell_x := x_2.cell
  have froz_x := x_2.frozen
  have lt_x := x_2.lt
  go_wp2_with fail
  refine calls_forget0 (W := w2) ?_ ?_
  (focus (repeat (first | (with_reducible exact Below.refl _ _) | (with_reducible refine Below.trans ?_ (Below.mono (by assumption) (by first | omega | (simp; done) | (simp; omega) | (simp [*]; done)))) | (with_reducible refine Below.alloc ?_ (by first | omega | (simp; done) | (simp; omega) | (simp [*]; done)) _) | (with_reducible refine Below.setCell ?_ (by first | omega | (simp; done) | (simp; omega) | (simp [*]; done)) _) | (with_reducible refine Below.drew ?_) | (with_reducible refine below_drewN ?_))))
  intro X3 hX3
  have sX3 := hX3.size
  refine (toAct_any k i d n _).mono ?_
  rintro e w3 ⟨rfl, hb3⟩
  have s3 := hb3.size
  have hT3 := hX3.trans (hb3.mono sX3)
  have b_3 := b_2.trans (hT3.mono (by omega))
  have x_3 := Blk.past hT3 x_2
  clear x_2 b_2 cell_x froz_x lt_x hX3 hT3 hb3
  have cell_x := x_3.cell
  have froz_x := x_3.frozen
  have lt_x := x_3.lt
  go_wp2_with fail
  refine calls_forget0 (W := w3) ?_ ?_
  (focus (repeat (first | (with_reducible exact Below.refl _ _) | (with_reducible refine Below.trans ?_ (Below.mono (by assumption) (by first | omega | (simp; done) | (simp; omega) | (simp [*]; done)))) | (with_reducible refine Below.alloc ?_ (by first | omega | (simp; done) | (simp; omega) | (simp [*]; done)) _) | (with_reducible refine Below.setCell ?_ (by first | omega | (simp; done) | (simp; omega) | (simp [*]; done)) _) | (with_reducible refine Below.drew ?_) | (with_reducible refine below_drewN ?_))))
  intro X4 hX4
  have sX4 := hX4.size
  refine (HCI.out _ (HT.out.step (b_3.trans (hX4.mono (by omega))) HT.out)).mono ?_
  rintro e w4 ⟨rfl, hb4⟩
  have s4 := hb4.size
  have hT4 := hX4.trans (hb4.mono sX4)
  have b_4 := b_3.trans (hT4.mono (by omega))
  have x_4 := Blk.past hT4 x_3
  clear x_3 b_3 cell_x froz_x lt_x hX4 hT4 hb4
  have cell_x := x_4.cell
  have froz_x := x_4.frozen
  have lt_x := x_4.lt
  go_wp2
  go_ret
  refine ⟨rfl, b_4.trans ?_⟩
  repeat (first | (with_reducible exact Below.refl _ _) | (with_reducible refine Below.trans ?_ (Below.mono (by assumption) (by first | omega | (simp; done) | (simp; omega) | (simp [*]; done)))) | (with_reducible refine Below.alloc ?_ (by first | omega | (simp; done) | (simp; omega) | (simp [*]; done)) _) | (with_reducible refine Below.setCell ?_ (by first | omega | (simp; done) | (simp; omega) | (simp [*]; done)) _) | (with_reducible refine Below.drew ?_) | (with_reducible refine below_drewN ?_))
theorem door_met (os : Os) (args : Array Value) : laidMetH Tryd.prog Rows.fnExactFormatActRow.laid ((World.doorLaid Tryd.prog 24 os).forCall (fun _ _ => 0) ⟨#[], args, []⟩).memory :=
  laidMetH_of_parts3 (fuel := 8) (laidMet_of_run' 8 (by kernel_rfl) (by kernel_rfl)) (by kernel_rfl) (by kernel_rfl)
set_option maxRecDepth 100000 in
theorem lifted (os : Os) (started : os.Started) (H : Type) (enc : TypeId × Value → H) :
    ReturnsInHanded {} Tryd.checked os 3 .any (fun w args => (Rows.fnExactFormatActSpec.pre enc Tryd.prog Tryd.f3 [] false w args ∧ laidMetH Tryd.prog Rows.fnExactFormatActRow.laid w) ∧ sizedMet enc Tryd.prog Tryd.f3 (OpenSpec.ofChange Rows.fnExactFormatActSpec) false w args)
      (Rows.fnExactFormatActSpec.post enc Tryd.prog Tryd.f3 false true false false) := by
  refine returnsInHanded_of_change_and (C := Tryd.checked) (X := fun w _ => laidMetH Tryd.prog Rows.fnExactFormatActRow.laid w) (fun _ _ _ hh h => h.of_heap hh) own started (by kernel_rfl) Tryd.func3
    (ChangeSpec.witness_shaped (enc := enc) (C := Tryd.checked) (os := os) (X := fun w _ => laidMetH Tryd.prog Rows.fnExactFormatActRow.laid w) false (World.doorLaid Tryd.prog 24 os) #[.agg #[.int .i64 0, .int .i64 0, .int .i64 0, .int .i64 0]] 8 rfl (World.shaped_of_RefB (by kernel_rfl) (by kernel_rfl)) (by kernel_rfl) (by kernel_rfl) (by kernel_rfl) (door_met os _)) ?_
  intro W base args ds gs before hval0 hW _ _ hLaid _
  have hval : ∀ (j : Nat) t v, Tryd.f3.params[j]? = some t → args[j]? = some v → Value.okWide Tryd.prog W .any base t v := hval0
  have hW' := hW
  obtain ⟨p, q, hA0, hV, rfl, _, _⟩ := hW
  have hA : DataW.TrodAll enc Tryd.prog W 0 (fun _ => true) true Tryd.f3.params.toList args.toList ds p := hA0
  rw [Tryd.params3] at hA hval
  obtain ⟨v0, vs0, d0, ds0, p0, q0, hargs, rfl, rfl, h0, r0⟩ := trodAll_cons hA
  obtain ⟨rfl, rfl, rfl⟩ := trodAll_nil r0
  obtain rfl : args = #[v0] := by cases args; simp_all
  obtain ⟨rfl, rfl⟩ := trodVars_none hV
  obtain ⟨c0a, c0b, c0c, c0d, y0a, y0b, y0c, y0d, _, rfl, hd0, _, hy0a, hy0b, hy0c, hy0d⟩ := Joins.open_agg4 Tryd.underlying23 (by kernel_rfl) (by kernel_rfl : Tryd.prog.cellsOf 23 = 4) (hval 0 23 v0 rfl rfl) h0
  obtain ⟨a0a, e0a, _, wa0a⟩ := DataW.trod_int Tryd.underlying3 hy0a
  obtain rfl : c0a = .int .i64 a0a := by simpa using e0a
  obtain ⟨a0b, e0b, _, wa0b⟩ := DataW.trod_int Tryd.underlying3 hy0b
  obtain rfl : c0b = .int .i64 a0b := by simpa using e0b
  obtain ⟨a0c, e0c, _, wa0c⟩ := DataW.trod_int Tryd.underlying3 hy0c
  obtain rfl : c0c = .int .i64 a0c := by simpa using e0c
  obtain ⟨a0d, e0d, _, wa0d⟩ := DataW.trod_int Tryd.underlying3 hy0d
  obtain rfl : c0d = .int .i64 a0d := by simpa using e0d
  refine (walk a0a a0b a0c a0d W  (tab_of hLaid)).mono fun e W' ⟨he, hb⟩ => ?_
  subst he
  exact ⟨_, rfl, law_post rfl (by kernel_rfl) (by kernel_rfl) rfl Tryd.underlying4 hW' rfl rfl rfl hb⟩
theorem closed : joinedFacts Tryd.prog 3 Tryd.f3 Rows.fnExactFormatActSpec Rows.fnExactFormatActRow = true := by
  unfold joinedFacts
  rw [makeIs, mayIs, finalsIs]
  kernel_rfl
theorem over : Rows.fnExactFormatActRow.holds Tryd.pinned (OpenSpec.ofChange Rows.fnExactFormatActSpec) :=
  OpenClaim.holds_of_wide 3 Tryd.f3 rfl rfl rfl rfl rfl rfl rfl ⟨rfl, rfl, rfl, rfl, rfl⟩ rfl rfl rfl rfl rfl (by kernel_rfl) Tryd.func3 closed
    (of_decide_eq_true (by kernel_rfl)) (by unfold Func.isWrapper; first | (rw [if_pos (by decide +kernel)]; kernel_rfl) | (rw [if_neg (by decide +kernel)]; exact ⟨rfl, rfl⟩))
    (fun os started H enc _ => lifted os started H enc)
theorem proved : Rows.FnExactFormatActCardSaid :=
  Claim7.holds_tied_plain_at .later [] [.data, .data, .data] true Rows.fnExactFormatActCard.stood.harness false
    over (fun _ h => by cases h) (by kernel_rfl) (fun _ h => by cases h) fnExactFormatAct_row_tie rfl ⟨rfl, rfl⟩ (by kernel_rfl) rfl
    (fun f fn hf hfn => by
      obtain rfl : f = 3 := Option.some.inj ((show Tryd.prog.funcNamed Rows.fnExactFormatActRow.func = some 3 by kernel_rfl).symm.trans hf) |>.symm
      obtain rfl : fn = Tryd.f3 := (Option.some.inj (Tryd.func3.symm.trans hfn)).symm
      exact ⟨by kernel_rfl, fun j t ht => by
        rw [Tryd.params3] at ht
        have hm := Array.mem_of_getElem? ht
        simp at hm
        rcases hm with rfl <;> exact (show Tryd.prog.wantsStandIn _ = false by kernel_rfl)⟩)
    (by kernel_rfl)
#print axioms proved

end fmtAct
end Go.Proofs.YtknkpajedbckmaaDoor
