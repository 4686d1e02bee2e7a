/- The law that SchedNew of the program returns what the reference's returns, for all arguments. No conditions. -/
import Derived.Test.YtipnhlnbokkihaaPool
import Derived.Test.YtipnhlnbokkihaaSchedS
import Derived.Test.YtipnhlnbokkihaaHead
set_option linter.unusedVariables false
namespace Go.Proofs.Ytipnhlnbokkihaa
open Go.RowKit Go.ChangeShapes Go.WideShapes Go.ChangeAt

namespace schedNew
set_option maxHeartbeats 1600000 in
theorem walk (z : Int) (w : World) :
    Calls Try.prog 4 #[.int .i64 z] w fun e w' => e = .returned (.bool true) ∧ Below w.heap.size w w' := by
  have hj : w.ownsRow w.heap.size 38 4 (.slice none 0 0) 0 (ints []) := World.ownsRow_nil _ _ _ _
  have ht : w.ownsRow w.heap.size 55 2 (.slice none 0 0) 0 (ints []) := World.ownsRow_nil _ _ _ _
  have hf : w.ownsRow w.heap.size 3 1 (.slice none 0 0) 0 (ints []) := World.ownsRow_nil _ _ _ _
  obtain ⟨pz, hpz⟩ : ∃ p, pick (inB z 1 1000) z 0 = p := ⟨_, rfl⟩
  have hS := sSchedNew z
  have hI := iSchedNew z
  rw [hpz] at hS hI
  have HS := hid hS
  have HI := hid hI
  clear hS hI hpz
  go_enter Try.func4, Try.ntmps4
  have b_0 := (Below.refl w.heap.size w)
  have s_0 := b_0.size
  have aj_in := own_in hj
  have aj_0 := hj
  clear hj
  have at__in := own_in ht
  have at__0 := ht
  clear ht
  have af_in := own_in hf
  have af_0 := hf
  clear hf
  go_wp2_with fail
  refine calls_forget0 (W := w) ?_ ?_
  (focus (repeat (first | (with_reducible exact Below.refl _ _) | (with_reducible refine Below.trans ?_ (Below.mono (by assumption) (by first | omega | (simp; done) | (simp; omega) | (simp [*]; done)))) | (with_reducible refine Below.alloc ?_ (by first | omega | (simp; done) | (simp; omega) | (simp [*]; done)) _) | (with_reducible refine Below.setCell ?_ (by first | omega | (simp; done) | (simp; omega) | (simp [*]; done)) _) | (with_reducible refine Below.drew ?_) | (with_reducible refine below_drewN ?_))))
  intro X1 hX1
  have sX1 := hX1.size
  refine (HS.out _).mono ?_
  rintro e w1 ⟨rfl, hb1⟩
  have s1 := hb1.size
  have hT1 := hX1.trans (hb1.mono sX1)
  have b_1 := b_0.trans (hT1.mono (by omega))
  have aj_1 := own_below aj_0 hT1
  have at__1 := own_below at__0 hT1
  have af_1 := own_below af_0 hT1
  clear aj_0 at__0 af_0 b_0 hX1 hT1 hb1
  go_wp2_with fail
  refine calls_forget1 (W := w1) (b0 := w1.heap.size) (t0 := 31) (c0 := #[.int .i64 pz, .int .i64 0, .int .i64 0, .slice none 0 0, .slice none 0 0, .slice none 0 0]) ?_ ?_ ?_
  (focus (first | ((repeat (first | (with_reducible assumption) | (with_reducible apply Blk.drew) | (with_reducible apply Blk.drewN) | (with_reducible apply Blk.new; first | rfl | (simp; done)) | (with_reducible apply Blk.alloc) | (with_reducible apply Blk.set_) | (with_reducible apply Blk.past; focus assumption) | (with_reducible apply Blk.far; focus (first | (simp; done) | (simp; omega) | (dsimp only; omega))))); done) | (apply Blk.cast; (case h => (repeat (first | (with_reducible assumption) | (with_reducible apply Blk.drew) | (with_reducible apply Blk.drewN) | (with_reducible apply Blk.new; first | rfl | (simp; done)) | (with_reducible apply Blk.alloc) | (with_reducible apply Blk.set_) | (with_reducible apply Blk.past; focus assumption) | (with_reducible apply Blk.far; focus (first | (simp; done) | (simp; omega) | (dsimp only; omega)))))); (case e => rfl))))
  (focus (repeat (first | (with_reducible exact Below.refl _ _) | (with_reducible refine Below.trans ?_ (Below.mono (by assumption) (by first | omega | (simp; done) | (simp; omega) | (simp [*]; done)))) | (with_reducible refine Below.alloc ?_ (by first | omega | (simp; done) | (simp; omega) | (simp [*]; done)) _) | (with_reducible refine Below.setCell ?_ (by first | omega | (simp; done) | (simp; omega) | (simp [*]; done)) _) | (with_reducible refine Below.drew ?_) | (with_reducible refine below_drewN ?_))))
  intro X2 x_n hX2
  have sX2 := hX2.size
  have x_lt := x_n.lt
  refine (HI.out _).mono ?_
  rintro e w2 ⟨rfl, hb2⟩
  have s2 := hb2.size
  have hT2 := hX2.trans (hb2.mono sX2)
  have b_2 := b_1.trans (hT2.mono (by omega))
  have aj_2 := own_below aj_1 hT2
  have at__2 := own_below at__1 hT2
  have af_2 := own_below af_1 hT2
  have x_2 := Blk.past hb2 x_n
  clear aj_1 at__1 af_1 b_1 x_n hX2 hT2 hb2
  have cell_x := x_2.cell
  have froz_x := x_2.frozen
  have lt_x := x_2.lt
  go_wp2_with fail
  refine calls_forget1 (W := w2) (b0 := w2.heap.size) (t0 := 31) (c0 := #[.int .i64 pz, .int .i64 0, .int .i64 0, .slice none 0 0, .slice none 0 0, .slice none 0 0]) ?_ ?_ ?_
  (focus (first | ((repeat (first | (with_reducible assumption) | (with_reducible apply Blk.drew) | (with_reducible apply Blk.drewN) | (with_reducible apply Blk.new; first | rfl | (simp; done)) | (with_reducible apply Blk.alloc) | (with_reducible apply Blk.set_) | (with_reducible apply Blk.past; focus assumption) | (with_reducible apply Blk.far; focus (first | (simp; done) | (simp; omega) | (dsimp only; omega))))); done) | (apply Blk.cast; (case h => (repeat (first | (with_reducible assumption) | (with_reducible apply Blk.drew) | (with_reducible apply Blk.drewN) | (with_reducible apply Blk.new; first | rfl | (simp; done)) | (with_reducible apply Blk.alloc) | (with_reducible apply Blk.set_) | (with_reducible apply Blk.past; focus assumption) | (with_reducible apply Blk.far; focus (first | (simp; done) | (simp; omega) | (dsimp only; omega)))))); (case e => rfl))))
  (focus (repeat (first | (with_reducible exact Below.refl _ _) | (with_reducible refine Below.trans ?_ (Below.mono (by assumption) (by first | omega | (simp; done) | (simp; omega) | (simp [*]; done)))) | (with_reducible refine Below.alloc ?_ (by first | omega | (simp; done) | (simp; omega) | (simp [*]; done)) _) | (with_reducible refine Below.setCell ?_ (by first | omega | (simp; done) | (simp; omega) | (simp [*]; done)) _) | (with_reducible refine Below.drew ?_) | (with_reducible refine below_drewN ?_))))
  intro X3 y_n hX3
  have sX3 := hX3.size
  have y_lt := y_n.lt
  refine (eqSched_same _ _ _ _ _ _ _ _ _ _ _ _ _ _ _ _ _ [] [] [] _ rfl rfl (Cells.of_own (own_below aj_2 hX3)) (Cells.of_own (own_below aj_2 hX3)) (Cells.of_own (own_below at__2 hX3)) (Cells.of_own (own_below at__2 hX3)) (Cells.of_own (own_below af_2 hX3)) (Cells.of_own (own_below af_2 hX3)) (by omega) (by omega) (by simp)).mono ?_
  rintro e w3 ⟨rfl, hb3⟩
  have s3 := hb3.size
  have hT3 := hX3.trans (hb3.mono sX3)
  have b_3 := b_2.trans (hT3.mono (by omega))
  have aj_3 := own_below aj_2 hT3
  have at__3 := own_below at__2 hT3
  have af_3 := own_below af_2 hT3
  have x_3 := Blk.past hT3 x_2
  have y_3 := Blk.past hb3 y_n
  clear aj_2 at__2 af_2 x_2 b_2 cell_x froz_x lt_x y_n hX3 hT3 hb3
  have cell_x := x_3.cell
  have froz_x := x_3.frozen
  have lt_x := x_3.lt
  have cell_y := y_3.cell
  have froz_y := y_3.frozen
  have lt_y := y_3.lt
  go_wp2_with fail
  refine calls_forget0 (W := w3) ?_ ?_
  (focus (repeat (first | (with_reducible exact Below.refl _ _) | (with_reducible refine Below.trans ?_ (Below.mono (by assumption) (by first | omega | (simp; done) | (simp; omega) | (simp [*]; done)))) | (with_reducible refine Below.alloc ?_ (by first | omega | (simp; done) | (simp; omega) | (simp [*]; done)) _) | (with_reducible refine Below.setCell ?_ (by first | omega | (simp; done) | (simp; omega) | (simp [*]; done)) _) | (with_reducible refine Below.drew ?_) | (with_reducible refine below_drewN ?_))))
  intro X4 hX4
  have sX4 := hX4.size
  refine (markSched_any _ _ _ _ _ _ _ _ _ _ _ _ _ _ _ _ _ _ _ _ (own_below aj_3 hX4) (own_below at__3 hX4) (own_below af_3 hX4) (by omega) (by omega) (by omega) (by omega) (by omega)).mono ?_
  rintro e w6 ⟨w4, w5, rfl, aj_m, at__m, af_m, hg4, hg5, hg6⟩
  have hT4 := below_grown hX4 hg4
  have s4 := hg4.size
  have s5 := hg5.size
  have s6 := hg6.size
  have b_4 := gr_below hT4 b_3 (by omega) (fun q hq => by have h1 := aj_in q hq; omega)
  have x_4 := gr_blk hT4 x_3 (fun q hq => by have h1 := aj_in q hq; omega)
  have y_4 := gr_blk hT4 y_3 (fun q hq => by have h1 := aj_in q hq; omega)
  clear x_3 y_3 b_3
  have b_5 := gr_below hg5 b_4 (by omega) (fun q hq => by have h1 := at__in q hq; omega)
  have x_5 := gr_blk hg5 x_4 (fun q hq => by have h1 := at__in q hq; omega)
  have y_5 := gr_blk hg5 y_4 (fun q hq => by have h1 := at__in q hq; omega)
  clear x_4 y_4 b_4
  have b_6 := gr_below hg6 b_5 (by omega) (fun q hq => by have h1 := af_in q hq; omega)
  have x_6 := gr_blk hg6 x_5 (fun q hq => by have h1 := af_in q hq; omega)
  have y_6 := gr_blk hg6 y_5 (fun q hq => by have h1 := af_in q hq; omega)
  clear x_5 y_5 b_5
  have aj_6 := aj_m
  have at__6 := at__m
  have af_6 := af_m
  clear aj_m at__m af_m aj_3 at__3 af_3 hX4 hT4 hg4 hg5 hg6 cell_x froz_x lt_x cell_y froz_y lt_y
  have cell_x := x_6.cell
  have froz_x := x_6.frozen
  have lt_x := x_6.lt
  have cell_y := y_6.cell
  have froz_y := y_6.frozen
  have lt_y := y_6.lt
  go_wp2_with fail
  refine calls_forget0 (W := w6) ?_ ?_
  (focus (repeat (first | (with_reducible exact Below.refl _ _) | (with_reducible refine Below.trans ?_ (Below.mono (by assumption) (by first | omega | (simp; done) | (simp; omega) | (simp [*]; done)))) | (with_reducible refine Below.alloc ?_ (by first | omega | (simp; done) | (simp; omega) | (simp [*]; done)) _) | (with_reducible refine Below.setCell ?_ (by first | omega | (simp; done) | (simp; omega) | (simp [*]; done)) _) | (with_reducible refine Below.drew ?_) | (with_reducible refine below_drewN ?_))))
  intro X7 hX7
  have sX7 := hX7.size
  refine (heldSched_any _ _ _ _ _ _ _ _ _ _ _ _ _ _ (Cells.of_own (own_below aj_6 hX7)) (Cells.of_own (own_below at__6 hX7)) (Cells.of_own (own_below af_6 hX7)) (by omega) (by omega) (by omega) (by omega) (by omega)).mono ?_
  rintro e w7 ⟨rfl, hb7⟩
  have s7 := hb7.size
  have hT7 := hX7.trans (hb7.mono sX7)
  have b_7 := b_6.trans (hT7.mono (by omega))
  have aj_7 := own_below aj_6 hT7
  have at__7 := own_below at__6 hT7
  have af_7 := own_below af_6 hT7
  have x_7 := Blk.past hT7 x_6
  have y_7 := Blk.past hT7 y_6
  clear aj_6 at__6 af_6 x_6 y_6 b_6 cell_x froz_x lt_x cell_y froz_y lt_y hX7 hT7 hb7
  have cell_x := x_7.cell
  have froz_x := x_7.frozen
  have lt_x := x_7.lt
  have cell_y := y_7.cell
  have froz_y := y_7.frozen
  have lt_y := y_7.lt
  go_wp2_with fail
  refine calls_forget0 (W := w7) ?_ ?_
  (focus (repeat (first | (with_reducible exact Below.refl _ _) | (with_reducible refine Below.trans ?_ (Below.mono (by assumption) (by first | omega | (simp; done) | (simp; omega) | (simp [*]; done)))) | (with_reducible refine Below.alloc ?_ (by first | omega | (simp; done) | (simp; omega) | (simp [*]; done)) _) | (with_reducible refine Below.setCell ?_ (by first | omega | (simp; done) | (simp; omega) | (simp [*]; done)) _) | (with_reducible refine Below.drew ?_) | (with_reducible refine below_drewN ?_))))
  intro X8 hX8
  have sX8 := hX8.size
  refine (HI.out _).mono ?_
  rintro e w8 ⟨rfl, hb8⟩
  have s8 := hb8.size
  have hT8 := hX8.trans (hb8.mono sX8)
  have b_8 := b_7.trans (hT8.mono (by omega))
  have aj_8 := own_below aj_7 hT8
  have at__8 := own_below at__7 hT8
  have af_8 := own_below af_7 hT8
  have x_8 := Blk.past hT8 x_7
  have y_8 := Blk.past hT8 y_7
  clear aj_7 at__7 af_7 x_7 y_7 b_7 cell_x froz_x lt_x cell_y froz_y lt_y hX8 hT8 hb8
  have cell_x := x_8.cell
  have froz_x := x_8.frozen
  have lt_x := x_8.lt
  have cell_y := y_8.cell
  have froz_y := y_8.frozen
  have lt_y := y_8.lt
  go_wp2_with fail
  refine calls_forget1 (W := w8) (b0 := w8.heap.size) (t0 := 31) (c0 := #[.int .i64 pz, .int .i64 0, .int .i64 0, .slice none 0 0, .slice none 0 0, .slice none 0 0]) ?_ ?_ ?_
  (focus (first | ((repeat (first | (with_reducible assumption) | (with_reducible apply Blk.drew) | (with_reducible apply Blk.drewN) | (with_reducible apply Blk.new; first | rfl | (simp; done)) | (with_reducible apply Blk.alloc) | (with_reducible apply Blk.set_) | (with_reducible apply Blk.past; focus assumption) | (with_reducible apply Blk.far; focus (first | (simp; done) | (simp; omega) | (dsimp only; omega))))); done) | (apply Blk.cast; (case h => (repeat (first | (with_reducible assumption) | (with_reducible apply Blk.drew) | (with_reducible apply Blk.drewN) | (with_reducible apply Blk.new; first | rfl | (simp; done)) | (with_reducible apply Blk.alloc) | (with_reducible apply Blk.set_) | (with_reducible apply Blk.past; focus assumption) | (with_reducible apply Blk.far; focus (first | (simp; done) | (simp; omega) | (dsimp only; omega)))))); (case e => rfl))))
  (focus (repeat (first | (with_reducible exact Below.refl _ _) | (with_reducible refine Below.trans ?_ (Below.mono (by assumption) (by first | omega | (simp; done) | (simp; omega) | (simp [*]; done)))) | (with_reducible refine Below.alloc ?_ (by first | omega | (simp; done) | (simp; omega) | (simp [*]; done)) _) | (with_reducible refine Below.setCell ?_ (by first | omega | (simp; done) | (simp; omega) | (simp [*]; done)) _) | (with_reducible refine Below.drew ?_) | (with_reducible refine below_drewN ?_))))
  intro X9 h_n hX9
  have sX9 := hX9.size
  have h_lt := h_n.lt
  refine (eqSched_same _ _ _ _ _ _ _ _ _ _ _ _ _ _ _ _ _ [] [] [] _ rfl rfl Cells.nil_ Cells.nil_ Cells.nil_ Cells.nil_ Cells.nil_ Cells.nil_ (by omega) (by omega) (by simp)).mono ?_
  rintro e w9 ⟨rfl, hb9⟩
  have s9 := hb9.size
  have hT9 := hX9.trans (hb9.mono sX9)
  have b_9 := b_8.trans (hT9.mono (by omega))
  have aj_9 := own_below aj_8 hT9
  have at__9 := own_below at__8 hT9
  have af_9 := own_below af_8 hT9
  have x_9 := Blk.past hT9 x_8
  have y_9 := Blk.past hT9 y_8
  have h_9 := Blk.past hb9 h_n
  clear aj_8 at__8 af_8 x_8 y_8 b_8 cell_x froz_x lt_x cell_y froz_y lt_y h_n hX9 hT9 hb9
  have cell_x := x_9.cell
  have froz_x := x_9.frozen
  have lt_x := x_9.lt
  have cell_y := y_9.cell
  have froz_y := y_9.frozen
  have lt_y := y_9.lt
  have cell_h := h_9.cell
  have froz_h := h_9.frozen
  have lt_h := h_9.lt
  go_wp2_with fail
  refine calls_forget0 (W := w9) ?_ ?_
  (focus (repeat (first | (with_reducible exact Below.refl _ _) | (with_reducible refine Below.trans ?_ (Below.mono (by assumption) (by first | omega | (simp; done) | (simp; omega) | (simp [*]; done)))) | (with_reducible refine Below.alloc ?_ (by first | omega | (simp; done) | (simp; omega) | (simp [*]; done)) _) | (with_reducible refine Below.setCell ?_ (by first | omega | (simp; done) | (simp; omega) | (simp [*]; done)) _) | (with_reducible refine Below.drew ?_) | (with_reducible refine below_drewN ?_))))
  intro X10 hX10
  have sX10 := hX10.size
  refine (heldSched_any _ _ _ _ _ _ _ _ _ _ _ _ _ _ (Cells.of_own (own_below aj_9 hX10)) (Cells.of_own (own_below at__9 hX10)) (Cells.of_own (own_below af_9 hX10)) (by omega) (by omega) (by omega) (by omega) (by omega)).mono ?_
  rintro e w10 ⟨rfl, hb10⟩
  have s10 := hb10.size
  have hT10 := hX10.trans (hb10.mono sX10)
  have b_10 := b_9.trans (hT10.mono (by omega))
  have aj_10 := own_below aj_9 hT10
  have at__10 := own_below at__9 hT10
  have af_10 := own_below af_9 hT10
  have x_10 := Blk.past hT10 x_9
  have y_10 := Blk.past hT10 y_9
  have h_10 := Blk.past hT10 h_9
  clear aj_9 at__9 af_9 x_9 y_9 h_9 b_9 cell_x froz_x lt_x cell_y froz_y lt_y cell_h froz_h lt_h hX10 hT10 hb10
  have cell_x := x_10.cell
  have froz_x := x_10.frozen
  have lt_x := x_10.lt
  have cell_y := y_10.cell
  have froz_y := y_10.frozen
  have lt_y := y_10.lt
  have cell_h := h_10.cell
  have froz_h := h_10.frozen
  have lt_h := h_10.lt
  go_wp2
  go_ret
  refine ⟨rfl, b_10.trans ?_⟩
  repeat (first | (with_reducible exact Below.refl _ _) | (with_reducible refine Below.trans ?_ (Below.mono (by assumption) (by first | omega | (simp; done) | (simp; omega) | (simp [*]; done)))) | (with_reducible refine Below.alloc ?_ (by first | omega | (simp; done) | (simp; omega) | (simp [*]; done)) _) | (with_reducible refine Below.setCell ?_ (by first | omega | (simp; done) | (simp; omega) | (simp [*]; done)) _) | (with_reducible refine Below.drew ?_) | (with_reducible refine below_drewN ?_))
set_option maxRecDepth 100000 in
theorem lifted (os : Os) (started : os.Started) (H : Type) (enc : TypeId × Value → H) :
    ReturnsInHanded {} Try.checked os 4 .any (Rows.fnExactSchedNewSpec.pre6 enc Try.prog Try.f4 Rows.fnExactSchedNewRow.domain false) (Rows.fnExactSchedNewSpec.post enc Try.prog Try.f4 false true false false) := by
  refine returnsInHanded_of_change (C := Try.checked) own started (by kernel_rfl) Try.func4
    (ChangeSpec.witness6 (enc := enc) (C := Try.checked) false ⟨#[], #[.int .i64 0], []⟩ 8 (by kernel_rfl) (by kernel_rfl) (by kernel_rfl) (by kernel_rfl)) ?_
  intro W base args ds gs before hval0 hW _ _
  have hval : ∀ (j : Nat) t v, Try.f4.params[j]? = some t → args[j]? = some v → Value.okWide Try.prog W .any base t v := hval0
  have hW' := hW
  obtain ⟨p, q, hA0, hV, rfl, _, _⟩ := hW
  have hA : DataW.TrodAll enc Try.prog W 0 (fun _ => true) true Try.f4.params.toList args.toList ds p := hA0
  rw [Try.params4] at hA hval
  obtain ⟨v0, vs0, d0, ds0, p0, q0, hargs, rfl, rfl, h0, r0⟩ := trodAll_cons hA
  obtain ⟨rfl, rfl, rfl⟩ := trodAll_nil r0
  obtain rfl : args = #[v0] := by cases args; simp_all
  obtain ⟨rfl, rfl⟩ := trodVars_none hV
  obtain ⟨a0, rfl, hd0, _, wa0⟩ := open_int Try.underlying3 (hval 0 3 v0 rfl rfl) h0
  refine (walk a0 W ).mono fun e W' ⟨he, hb⟩ => ?_
  subst he
  exact ⟨_, rfl, law_post rfl (by kernel_rfl) (by kernel_rfl) rfl Try.underlying4 hW' rfl rfl rfl hb⟩
theorem closed : joinedFacts Try.prog 4 Try.f4 Rows.fnExactSchedNewSpec Rows.fnExactSchedNewRow = true := by
  unfold joinedFacts
  rw [makeIs, mayIs, finalsIs]
  kernel_rfl
theorem over : Rows.fnExactSchedNewRow.holds Try.pinned (OpenSpec.ofChange Rows.fnExactSchedNewSpec) :=
  OpenClaim.holds_of_wide 4 Try.f4 rfl rfl rfl rfl rfl rfl rfl ⟨rfl, rfl, rfl, rfl, rfl⟩ rfl rfl rfl rfl rfl (by kernel_rfl) Try.func4 closed
    (of_decide_eq_true (by kernel_rfl)) (by unfold Func.isWrapper; first | (rw [if_pos (by decide +kernel)]; kernel_rfl) | (rw [if_neg (by decide +kernel)]; exact ⟨rfl, rfl⟩))
    (fun os started H enc _ => lifted os started H enc)
theorem proved : Rows.FnExactSchedNewSaid := over
#print axioms proved

end schedNew
end Go.Proofs.Ytipnhlnbokkihaa
