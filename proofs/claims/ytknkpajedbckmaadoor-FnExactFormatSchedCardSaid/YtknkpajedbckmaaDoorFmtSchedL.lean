/- FormatSched, in the program and in the reference: for all schedules. -/
import Derived.Test.YtknkpajedbckmaaDoorFmtSched
import Derived.Test.YtknkpajedbckmaaDoorFmtSchedS
namespace Go.Proofs.YtknkpajedbckmaaDoor
open Go.RowKit

theorem schedTxt_length {S : SV} (h : schedOkB S = true) : (schedTxt S).length = S.js.length + 3 := by
  rw [schedTxt_yes h, List.length_append, List.length_append, linesTo_length (Nat.le_refl _)]
  simp
  omega
set_option linter.unusedVariables false in
set_option maxHeartbeats 1600000 in
theorem iFmtNoS (S : SV) (hs : schedOkB S = false) (J T F : Option Addr) (cj ct cf : Nat) (w : World) (h : w.ownsRow 0 57 4 (.slice J S.js.length cj) S.js.length (ints (flatJ S.js)) ∧ w.ownsRow 0 75 2 (.slice T S.ts.length ct) S.ts.length (ints (flatT S.ts)) ∧ w.ownsRow 0 3 1 (.slice F S.fs.length cf) S.fs.length (ints S.fs)) (b1 : S.js.length ≤ 2000000) (b2 : S.ts.length ≤ 2000000) :
    Calls Tryd.prog 11 #[.agg #[.int .i64 S.z, .int .i64 S.n, .int .i64 S.b, .slice J S.js.length cj, .slice T S.ts.length ct, .slice F S.fs.length cf]] w fun e w' => ∃ A c, e = .returned (.slice A 0 c) ∧ w'.ownsRow w.heap.size 9 1 (.slice A 0 c) 0 (strs []) ∧ Below w.heap.size w w' := by
  have HOK := hid (fun J T F cj ct cf w h => iSchedOkF S J T F cj ct cf w h (by omega) (by omega))
  rw [hs] at HOK
  clear hs
  obtain ⟨h1, h2, h3⟩ := h
  go_enter Tryd.func11, Tryd.ntmps11
  go_upto_region 1 with fail
  obtain ⟨W1, hW1⟩ : ∃ W1, W1 = w.alloc (.cells #[.int .i64 S.z, .int .i64 S.n, .int .i64 S.b, .slice J S.js.length cj, .slice T S.ts.length ct, .slice F S.fs.length cf] 43) := ⟨_, rfl⟩
  have hx : Blk W1 w.heap.size 43 #[.int .i64 S.z, .int .i64 S.n, .int .i64 S.b, .slice J S.js.length cj, .slice T S.ts.length ct, .slice F S.fs.length cf] := by rw [hW1]; (first | ((repeat (first | (with_reducible assumption) | (with_reducible apply Blk.drew) | (with_reducible apply Blk.drewN) | (with_reducible apply Blk.new; first | rfl | (simp; done)) | (with_reducible apply Blk.alloc) | (with_reducible apply Blk.set_) | (with_reducible apply Blk.past; focus assumption) | (with_reducible apply Blk.far; focus (first | (simp; done) | (simp; omega) | (dsimp only; omega))))); done) | (apply Blk.cast; (case h => (repeat (first | (with_reducible assumption) | (with_reducible apply Blk.drew) | (with_reducible apply Blk.drewN) | (with_reducible apply Blk.new; first | rfl | (simp; done)) | (with_reducible apply Blk.alloc) | (with_reducible apply Blk.set_) | (with_reducible apply Blk.past; focus assumption) | (with_reducible apply Blk.far; focus (first | (simp; done) | (simp; omega) | (dsimp only; omega)))))); (case e => rfl)))
  have hb1 : Below w.heap.size w W1 := by rw [hW1]; repeat (first | (with_reducible exact Below.refl _ _) | (with_reducible refine Below.trans ?_ (Below.mono (by assumption) (by first | omega | (simp; done) | (simp; omega) | (simp [*]; done)))) | (with_reducible refine Below.alloc ?_ (by first | omega | (simp; done) | (simp; omega) | (simp [*]; done)) _) | (with_reducible refine Below.setCell ?_ (by first | omega | (simp; done) | (simp; omega) | (simp [*]; done)) _) | (with_reducible refine Below.drew ?_) | (with_reducible refine below_drewN ?_))
  rw [← hW1]
  clear hW1
  have h1' := own_below h1 hb1
  have h2' := own_below h2 hb1
  have h3' := own_below h3 hb1
  have b_0 := hb1
  have s_0 := b_0.size
  have oj_in := own_in h1'
  have oj_0 := h1'
  clear h1'
  have ot_in := own_in h2'
  have ot_0 := h2'
  clear h2'
  have of__in := own_in h3'
  have of__0 := h3'
  clear h3'
  have x_0 := hx
  clear hx
  have x_lt := x_0.lt
  have cell_x := x_0.cell
  have froz_x := x_0.frozen
  have lt_x := x_0.lt
  go_wp2_with fail
  refine calls_forget0 (W := W1) ?_ ?_
  (focus (repeat (first | (with_reducible exact Below.refl _ _) | (with_reducible refine Below.trans ?_ (Below.mono (by assumption) (by first | omega | (simp; done) | (simp; omega) | (simp [*]; done)))) | (with_reducible refine Below.alloc ?_ (by first | omega | (simp; done) | (simp; omega) | (simp [*]; done)) _) | (with_reducible refine Below.setCell ?_ (by first | omega | (simp; done) | (simp; omega) | (simp [*]; done)) _) | (with_reducible refine Below.drew ?_) | (with_reducible refine below_drewN ?_))))
  intro X1 hX1
  have sX1 := hX1.size
  refine (HOK.out _ _ _ _ _ _ _ ⟨own_weak (own_below oj_0 hX1) (Nat.zero_le _), own_weak (own_below ot_0 hX1) (Nat.zero_le _), own_weak (own_below of__0 hX1) (Nat.zero_le _)⟩).mono ?_
  rintro e w1 ⟨rfl, hb1⟩
  have s1 := hb1.size
  have hT1 := hX1.trans (hb1.mono sX1)
  have b_1 := b_0.trans (hT1.mono (by omega))
  have oj_1 := own_below oj_0 hT1
  have ot_1 := own_below ot_0 hT1
  have of__1 := own_below of__0 hT1
  have x_1 := Blk.past hT1 x_0
  clear oj_0 ot_0 of__0 x_0 b_0 cell_x froz_x lt_x hX1 hT1 hb1
  have cell_x := x_1.cell
  have froz_x := x_1.frozen
  have lt_x := x_1.lt
  have HB := hid b_1
  clear b_1
  go_wp2
  go_ret
  exact ⟨none, 0, rfl, World.ownsRow_nil _ _ _ _, HB.out⟩
theorem iFormatSched (S : SV) (J T F : Option Addr) (cj ct cf : Nat) (w : World) (h : w.ownsRow 0 57 4 (.slice J S.js.length cj) S.js.length (ints (flatJ S.js)) ∧ w.ownsRow 0 75 2 (.slice T S.ts.length ct) S.ts.length (ints (flatT S.ts)) ∧ w.ownsRow 0 3 1 (.slice F S.fs.length cf) S.fs.length (ints S.fs)) (b1 : S.js.length ≤ 2000000) (b2 : S.ts.length ≤ 2000000) (b3 : S.fs.length ≤ 2000000) (hfr : ∀ x ∈ S.fs, in64 x) (ht : Tab w) :
    Calls Tryd.prog 11 #[.agg #[.int .i64 S.z, .int .i64 S.n, .int .i64 S.b, .slice J S.js.length cj, .slice T S.ts.length ct, .slice F S.fs.length cf]] w fun e w' => ∃ A c, e = .returned (.slice A (schedTxt S).length c) ∧ w'.ownsRow w.heap.size 9 1 (.slice A (schedTxt S).length c) (schedTxt S).length (strs (schedTxt S)) ∧ Below w.heap.size w w' := by
  cases hs : schedOkB S
  · rw [schedTxt_no hs]
    exact iFmtNoS S hs J T F cj ct cf w h b1 b2
  · rw [schedTxt_length hs]
    exact iFmtYes S hs J T F cj ct cf w h b3 hfr ht
set_option linter.unusedVariables false in
set_option maxHeartbeats 1600000 in
theorem sFmtNoS (S : SV) (hs : schedOkB S = false) (J T F : Option Addr) (cj ct cf : Nat) (w : World) (h : w.ownsRow 0 57 4 (.slice J S.js.length cj) S.js.length (ints (flatJ S.js)) ∧ w.ownsRow 0 75 2 (.slice T S.ts.length ct) S.ts.length (ints (flatT S.ts)) ∧ w.ownsRow 0 3 1 (.slice F S.fs.length cf) S.fs.length (ints S.fs)) (b1 : S.js.length ≤ 2000000) (b2 : S.ts.length ≤ 2000000) :
    Calls Tryd.prog 9 #[.agg #[.int .i64 S.z, .int .i64 S.n, .int .i64 S.b, .slice J S.js.length cj, .slice T S.ts.length ct, .slice F S.fs.length cf]] w fun e w' => ∃ A c, e = .returned (.slice A 0 c) ∧ w'.ownsRow w.heap.size 9 1 (.slice A 0 c) 0 (strs []) ∧ Below w.heap.size w w' := by
  have HOK := hid (fun J T F cj ct cf w h => sSchedOkF S J T F cj ct cf w h (by omega) (by omega))
  rw [hs] at HOK
  clear hs
  obtain ⟨h1, h2, h3⟩ := h
  go_enter Tryd.func9, Tryd.ntmps9
  go_upto_region 2 with fail
  obtain ⟨W1, hW1⟩ : ∃ W1, W1 = (w.alloc (.cells #[.int .i64 S.z, .int .i64 S.n, .int .i64 S.b, .slice J S.js.length cj, .slice T S.ts.length ct, .slice F S.fs.length cf] 43)).alloc (.cells #[] 9) := ⟨_, rfl⟩
  have hx : Blk W1 w.heap.size 43 #[.int .i64 S.z, .int .i64 S.n, .int .i64 S.b, .slice J S.js.length cj, .slice T S.ts.length ct, .slice F S.fs.length cf] := by rw [hW1]; (first | ((repeat (first | (with_reducible assumption) | (with_reducible apply Blk.drew) | (with_reducible apply Blk.drewN) | (with_reducible apply Blk.new; first | rfl | (simp; done)) | (with_reducible apply Blk.alloc) | (with_reducible apply Blk.set_) | (with_reducible apply Blk.past; focus assumption) | (with_reducible apply Blk.far; focus (first | (simp; done) | (simp; omega) | (dsimp only; omega))))); done) | (apply Blk.cast; (case h => (repeat (first | (with_reducible assumption) | (with_reducible apply Blk.drew) | (with_reducible apply Blk.drewN) | (with_reducible apply Blk.new; first | rfl | (simp; done)) | (with_reducible apply Blk.alloc) | (with_reducible apply Blk.set_) | (with_reducible apply Blk.past; focus assumption) | (with_reducible apply Blk.far; focus (first | (simp; done) | (simp; omega) | (dsimp only; omega)))))); (case e => rfl)))
  have hb1 : Below w.heap.size w W1 := by rw [hW1]; repeat (first | (with_reducible exact Below.refl _ _) | (with_reducible refine Below.trans ?_ (Below.mono (by assumption) (by first | omega | (simp; done) | (simp; omega) | (simp [*]; done)))) | (with_reducible refine Below.alloc ?_ (by first | omega | (simp; done) | (simp; omega) | (simp [*]; done)) _) | (with_reducible refine Below.setCell ?_ (by first | omega | (simp; done) | (simp; omega) | (simp [*]; done)) _) | (with_reducible refine Below.drew ?_) | (with_reducible refine below_drewN ?_))
  have ho : W1.ownsRow (w.heap.size + 1) 9 1 (.slice (some ⟨w.heap.size + 1, 0, none⟩) 0 0) 0 (strs []) := by rw [hW1]; exact own_lit (size := 1) #[] 0 (by simp) (by simp) (Nat.zero_le _) rfl
  rw [← hW1]
  clear hW1
  have h1' := own_below h1 hb1
  have h2' := own_below h2 hb1
  have h3' := own_below h3 hb1
  have b_0 := hb1
  have s_0 := b_0.size
  have oj_in := own_in h1'
  have oj_0 := h1'
  clear h1'
  have ot_in := own_in h2'
  have ot_0 := h2'
  clear h2'
  have of__in := own_in h3'
  have of__0 := h3'
  clear h3'
  have o_in := own_in ho
  have o_0 := ho
  clear ho
  have x_0 := hx
  clear hx
  have x_lt := x_0.lt
  have cell_x := x_0.cell
  have froz_x := x_0.frozen
  have lt_x := x_0.lt
  go_wp2_with fail
  refine calls_forget0 (W := W1) ?_ ?_
  (focus (repeat (first | (with_reducible exact Below.refl _ _) | (with_reducible refine Below.trans ?_ (Below.mono (by assumption) (by first | omega | (simp; done) | (simp; omega) | (simp [*]; done)))) | (with_reducible refine Below.alloc ?_ (by first | omega | (simp; done) | (simp; omega) | (simp [*]; done)) _) | (with_reducible refine Below.setCell ?_ (by first | omega | (simp; done) | (simp; omega) | (simp [*]; done)) _) | (with_reducible refine Below.drew ?_) | (with_reducible refine below_drewN ?_))))
  intro X1 hX1
  have sX1 := hX1.size
  refine (HOK.out _ _ _ _ _ _ _ ⟨own_weak (own_below oj_0 hX1) (Nat.zero_le _), own_weak (own_below ot_0 hX1) (Nat.zero_le _), own_weak (own_below of__0 hX1) (Nat.zero_le _)⟩).mono ?_
  rintro e w1 ⟨rfl, hb1⟩
  have s1 := hb1.size
  have hT1 := hX1.trans (hb1.mono sX1)
  have b_1 := b_0.trans (hT1.mono (by omega))
  have oj_1 := own_below oj_0 hT1
  have ot_1 := own_below ot_0 hT1
  have of__1 := own_below of__0 hT1
  have o_1 := own_below o_0 hT1
  have x_1 := Blk.past hT1 x_0
  clear oj_0 ot_0 of__0 o_0 x_0 b_0 cell_x froz_x lt_x hX1 hT1 hb1
  have cell_x := x_1.cell
  have froz_x := x_1.frozen
  have lt_x := x_1.lt
  have HB := hid b_1
  have HO := hid o_1
  clear b_1 o_1
  go_wp2
  go_ret
  exact ⟨_, _, rfl, own_weak HO.out (by omega), HB.out⟩
theorem sFormatSched (S : SV) (J T F : Option Addr) (cj ct cf : Nat) (w : World) (h : w.ownsRow 0 57 4 (.slice J S.js.length cj) S.js.length (ints (flatJ S.js)) ∧ w.ownsRow 0 75 2 (.slice T S.ts.length ct) S.ts.length (ints (flatT S.ts)) ∧ w.ownsRow 0 3 1 (.slice F S.fs.length cf) S.fs.length (ints S.fs)) (b1 : S.js.length ≤ 2000000) (b2 : S.ts.length ≤ 2000000) (b3 : S.fs.length ≤ 2000000) (hfr : ∀ x ∈ S.fs, in64 x) (ht : Tab w) :
    Calls Tryd.prog 9 #[.agg #[.int .i64 S.z, .int .i64 S.n, .int .i64 S.b, .slice J S.js.length cj, .slice T S.ts.length ct, .slice F S.fs.length cf]] w fun e w' => ∃ A c, e = .returned (.slice A (schedTxt S).length c) ∧ w'.ownsRow w.heap.size 9 1 (.slice A (schedTxt S).length c) (schedTxt S).length (strs (schedTxt S)) ∧ Below w.heap.size w w' := by
  cases hs : schedOkB S
  · rw [schedTxt_no hs]
    exact sFmtNoS S hs J T F cj ct cf w h b1 b2
  · rw [schedTxt_length hs]
    exact sFmtYes S hs J T F cj ct cf w h b3 hfr ht
end Go.Proofs.YtknkpajedbckmaaDoor
