/- FormatAct, in the program and in the reference. -/
import Derived.Test.YtjknadnknainbaaGreatDoorMem
import Derived.Test.YtjknadnknainbaaGreatDoorDec
import Derived.Test.YtjknadnknainbaaGreatDoorActOk
import Derived.Deep.RegionHeld3
namespace Go.Proofs.YtjknadnknainbaaGreatDoor
open Go.RowKit

def actTxt (k i d n : Int) : List UInt8 :=
  if actOkB k i d n = true then
    if k = 1 then [97, 100, 100, 32] ++ Lib.itoa i ++ [32] ++ Lib.itoa d ++ [32] ++ Lib.itoa n
    else if k = 2 then [115, 116, 101, 112, 32] ++ Lib.itoa n
    else if k = 3 then [114, 101, 115, 101, 114, 118, 101, 32] ++ Lib.itoa n
    else [99, 114, 97, 115, 104]
  else []
theorem actTxt_no {k i d n : Int} (h : actOkB k i d n = false) : actTxt k i d n = [] := by
  unfold actTxt
  rw [h]
  rfl
theorem actTxt_add {i d n : Int} (h : actOkB 1 i d n = true) : actTxt 1 i d n = [97, 100, 100, 32] ++ Lib.itoa i ++ [32] ++ Lib.itoa d ++ [32] ++ Lib.itoa n := by
  unfold actTxt
  rw [if_pos h]
  rfl
theorem actTxt_step {i d n : Int} (h : actOkB 2 i d n = true) : actTxt 2 i d n = [115, 116, 101, 112, 32] ++ Lib.itoa n := by
  unfold actTxt
  rw [if_pos h]
  rfl
theorem actTxt_res {i d n : Int} (h : actOkB 3 i d n = true) : actTxt 3 i d n = [114, 101, 115, 101, 114, 118, 101, 32] ++ Lib.itoa n := by
  unfold actTxt
  rw [if_pos h]
  rfl
theorem actTxt_crash {i d n : Int} (h : actOkB 4 i d n = true) : actTxt 4 i d n = [99, 114, 97, 115, 104] := by
  unfold actTxt
  rw [if_pos h]
  rfl
theorem iFormatIntT (n : Int) (w : World) (h0 : 0 ≤ n) (h1 : n ≤ 1000) (ht : Tab w) :
    Calls Tryz.prog 26 #[.int .i64 n] w fun e w' => e = .returned (.string ⟨(Lib.itoa n).toArray⟩) ∧ Below w.heap.size w w' := iFormatInt n w (by omega) (by omega) ht
theorem sFormatIntT (n : Int) (w : World) (h0 : 0 ≤ n) (h1 : n ≤ 1000) (_ht : Tab w) :
    Calls Tryz.prog 10 #[.int .i64 n] w fun e w' => e = .returned (.string ⟨(Lib.itoa n).toArray⟩) ∧ Below w.heap.size w w' := sFormatInt n w (by omega) (by omega)
theorem Tab.later {W : World} {x : Later W} (h : Tab W) : Tab x.val := h.step x.below h
theorem itoa_le {n : Int} (h : 0 ≤ n ∧ n ≤ 1000) : (Lib.itoa n).length ≤ 21 := Lib.itoa_length_le n (by omega) (by omega)
theorem act_kinds {k i d n : Int} (h : actOkB k i d n = true) : k = 1 ∧ (0 ≤ i ∧ i ≤ 1000) ∧ (0 ≤ d ∧ d ≤ 1000) ∧ (0 ≤ n ∧ n ≤ 1000) ∨ k = 2 ∧ (0 ≤ n ∧ n ≤ 1000) ∨ k = 3 ∧ (0 ≤ n ∧ n ≤ 1000) ∨ k = 4 := by
  by_cases h1 : k = 1
  · subst h1
    rw [actOkB_1] at h
    simp only [Bool.and_eq_true, inB_iff] at h
    exact .inl ⟨rfl, h.1.1, h.1.2, h.2⟩
  by_cases h2 : k = 2
  · subst h2
    rw [actOkB_2] at h
    simp only [Bool.and_eq_true, inB_iff] at h
    exact .inr (.inl ⟨rfl, by omega⟩)
  by_cases h3 : k = 3
  · subst h3
    rw [actOkB_3] at h
    simp only [Bool.and_eq_true, inB_iff] at h
    exact .inr (.inr (.inl ⟨rfl, by omega⟩))
  by_cases h4 : k = 4
  · exact .inr (.inr (.inr h4))
  · rw [actOkB_other i d n h1 h2 h3 h4] at h
    cases h
set_option linter.unusedVariables false in
set_option maxRecDepth 100000 in
set_option maxHeartbeats 3200000 in
theorem iFmtNo (k i d n : Int) (w : World) (ht : Tab w) (h : actOkB k i d n = false) :
    Calls Tryz.prog 41 #[.agg #[.int .i64 k, .int .i64 i, .int .i64 d, .int .i64 n]] w fun e w' => e = .returned (.tuple #[.string ⟨(actTxt k i d n).toArray⟩, .bool false]) ∧ Below w.heap.size w w' := by
  have HOK := hid (fun w => iActOk k i d n w)
  rw [h] at HOK
  have HT := hid ht
  have HX := hid (actTxt_no h)
  clear ht h
  go_enter Tryz.func41, Tryz.ntmps41
  have b_0 := (Below.refl w.heap.size w)
  have s_0 := b_0.size
  go_wp2_with fail
  refine calls_forget1 (W := w) (b0 := w.heap.size) (t0 := 30) (c0 := #[.int .i64 k, .int .i64 i, .int .i64 d, .int .i64 n]) ?_ ?_ ?_
  (focus exact blkcBy)
  (focus (exact belBy))
  intro X1 x_n hX1
  have sX1 := hX1.size
  have x_lt := x_n.lt
  refine (HOK.out _).mono ?_
  rintro e w1 ⟨rfl, hb1⟩
  have s1 := hb1.size
  have hT1 := hX1.trans (hb1.mono sX1)
  have b_1 := b_0.trans (hT1.mono (by omega))
  have x_1 := Blk.past hb1 x_n
  clear b_0 x_n hX1 hT1 hb1
  have cell_x := x_1.cell
  have froz_x := x_1.frozen
  have lt_x := x_1.lt
  all_goals go_wp2
  all_goals go_returns
  all_goals refine ⟨(by rw [HX.out]; rfl), ?_⟩
  all_goals exact belBy
set_option linter.unusedVariables false in
set_option maxRecDepth 100000 in
set_option maxHeartbeats 3200000 in
theorem sFmtNo (k i d n : Int) (w : World) (ht : Tab w) (h : actOkB k i d n = false) :
    Calls Tryz.prog 7 #[.agg #[.int .i64 k, .int .i64 i, .int .i64 d, .int .i64 n]] w fun e w' => e = .returned (.tuple #[.string ⟨(actTxt k i d n).toArray⟩, .bool false]) ∧ Below w.heap.size w w' := by
  have HOK := hid (fun w => sActOk k i d n w)
  rw [h] at HOK
  have HT := hid ht
  have HX := hid (actTxt_no h)
  clear ht h
  go_enter Tryz.func7, Tryz.ntmps7
  have b_0 := (Below.refl w.heap.size w)
  have s_0 := b_0.size
  go_wp2_with fail
  refine calls_forget1 (W := w) (b0 := w.heap.size) (t0 := 30) (c0 := #[.int .i64 k, .int .i64 i, .int .i64 d, .int .i64 n]) ?_ ?_ ?_
  (focus exact blkcBy)
  (focus (exact belBy))
  intro X1 x_n hX1
  have sX1 := hX1.size
  have x_lt := x_n.lt
  refine (HOK.out _).mono ?_
  rintro e w1 ⟨rfl, hb1⟩
  have s1 := hb1.size
  have hT1 := hX1.trans (hb1.mono sX1)
  have b_1 := b_0.trans (hT1.mono (by omega))
  have x_1 := Blk.past hb1 x_n
  clear b_0 x_n hX1 hT1 hb1
  have cell_x := x_1.cell
  have froz_x := x_1.frozen
  have lt_x := x_1.lt
  all_goals go_wp2
  all_goals go_returns
  all_goals refine ⟨(by rw [HX.out]; rfl), ?_⟩
  all_goals exact belBy
set_option linter.unusedVariables false in
set_option maxRecDepth 100000 in
set_option maxHeartbeats 3200000 in
theorem iFmtAdd (i d n : Int) (w : World) (ht : Tab w) (h : actOkB 1 i d n = true) (hi : 0 ≤ i ∧ i ≤ 1000) (hd : 0 ≤ d ∧ d ≤ 1000) (hn : 0 ≤ n ∧ n ≤ 1000) :
    Calls Tryz.prog 41 #[.agg #[.int .i64 1, .int .i64 i, .int .i64 d, .int .i64 n]] w fun e w' => e = .returned (.tuple #[.string ⟨(actTxt 1 i d n).toArray⟩, .bool true]) ∧ Below w.heap.size w w' := by
  have HOK := hid (fun w => iActOk 1 i d n w)
  rw [h] at HOK
  have HT := hid ht
  have HX := hid (actTxt_add h)
  clear ht h
  have li := itoa_le hi
  have ld := itoa_le hd
  have ln := itoa_le hn
  go_enter Tryz.func41, Tryz.ntmps41
  have b_0 := (Below.refl w.heap.size w)
  have s_0 := b_0.size
  go_wp2_with fail
  refine calls_forget1 (W := w) (b0 := w.heap.size) (t0 := 30) (c0 := #[.int .i64 1, .int .i64 i, .int .i64 d, .int .i64 n]) ?_ ?_ ?_
  (focus exact blkcBy)
  (focus (exact belBy))
  intro X1 x_n hX1
  have sX1 := hX1.size
  have x_lt := x_n.lt
  refine (HOK.out _).mono ?_
  rintro e w1 ⟨rfl, hb1⟩
  have s1 := hb1.size
  have hT1 := hX1.trans (hb1.mono sX1)
  have b_1 := b_0.trans (hT1.mono (by omega))
  have x_1 := Blk.past hb1 x_n
  clear b_0 x_n hX1 hT1 hb1
  have cell_x := x_1.cell
  have froz_x := x_1.frozen
  have lt_x := x_1.lt
  obtain ⟨W1, hW1⟩ : ∃ z, z = w1 := ⟨_, rfl⟩
  rw [← hW1] at x_1 b_1 cell_x froz_x lt_x
  rw [← hW1]
  clear hW1
  have k0 := x_1
  have z0 := k0.lt
  have HTW := hid (HT.out.step b_1 HT.out)
  go_wp2_with fail
  have q0 := fun (x : Later W1) (o : Nat) => (k0.below x.below k0.lt).cell o
  refine wp_region_later (by kernel_rfl) (by kernel_rfl) ?_
  repeat (go_big_quiet_step ((go_at_call 26; exact Calls.later (iFormatIntT _ _ (by omega) (by omega) (Tab.later HTW.out)))))
  refine wpQuiet_nil ?_
  rintro _ ⟨⟨w1, hb1⟩, rfl⟩
  try dsimp only
  obtain ⟨z1a, c1a, f1a, k1a⟩ := bfact hb1 k0
  clear q0
  go_wp2
  go_returns
  refine ⟨(by rw [HX.out]; exact congrArg (fun x => Ending.returned (.tuple #[.string x, .bool true])) (by simp only [ByteArray.mk_append_mk])), ?_⟩
  exact b_1.trans (hb1.mono b_1.size)
set_option linter.unusedVariables false in
set_option maxRecDepth 100000 in
set_option maxHeartbeats 3200000 in
theorem sFmtAdd (i d n : Int) (w : World) (ht : Tab w) (h : actOkB 1 i d n = true) (hi : 0 ≤ i ∧ i ≤ 1000) (hd : 0 ≤ d ∧ d ≤ 1000) (hn : 0 ≤ n ∧ n ≤ 1000) :
    Calls Tryz.prog 7 #[.agg #[.int .i64 1, .int .i64 i, .int .i64 d, .int .i64 n]] w fun e w' => e = .returned (.tuple #[.string ⟨(actTxt 1 i d n).toArray⟩, .bool true]) ∧ Below w.heap.size w w' := by
  have HOK := hid (fun w => sActOk 1 i d n w)
  rw [h] at HOK
  have HT := hid ht
  have HX := hid (actTxt_add h)
  clear ht h
  have li := itoa_le hi
  have ld := itoa_le hd
  have ln := itoa_le hn
  go_enter Tryz.func7, Tryz.ntmps7
  have b_0 := (Below.refl w.heap.size w)
  have s_0 := b_0.size
  go_wp2_with fail
  refine calls_forget1 (W := w) (b0 := w.heap.size) (t0 := 30) (c0 := #[.int .i64 1, .int .i64 i, .int .i64 d, .int .i64 n]) ?_ ?_ ?_
  (focus exact blkcBy)
  (focus (exact belBy))
  intro X1 x_n hX1
  have sX1 := hX1.size
  have x_lt := x_n.lt
  refine (HOK.out _).mono ?_
  rintro e w1 ⟨rfl, hb1⟩
  have s1 := hb1.size
  have hT1 := hX1.trans (hb1.mono sX1)
  have b_1 := b_0.trans (hT1.mono (by omega))
  have x_1 := Blk.past hb1 x_n
  clear b_0 x_n hX1 hT1 hb1
  have cell_x := x_1.cell
  have froz_x := x_1.frozen
  have lt_x := x_1.lt
  obtain ⟨W1, hW1⟩ : ∃ z, z = w1 := ⟨_, rfl⟩
  rw [← hW1] at x_1 b_1 cell_x froz_x lt_x
  rw [← hW1]
  clear hW1
  have k0 := x_1
  have z0 := k0.lt
  have HTW := hid (HT.out.step b_1 HT.out)
  go_wp2_with fail
  have q0 := fun (x : Later W1) (o : Nat) => (k0.below x.below k0.lt).cell o
  refine wp_region_later (by kernel_rfl) (by kernel_rfl) ?_
  repeat (go_big_quiet_step ((go_at_call 10; exact Calls.later (sFormatIntT _ _ (by omega) (by omega) (Tab.later HTW.out)))))
  refine wpQuiet_nil ?_
  rintro _ ⟨⟨w1, hb1⟩, rfl⟩
  try dsimp only
  obtain ⟨z1a, c1a, f1a, k1a⟩ := bfact hb1 k0
  clear q0
  go_wp2
  go_returns
  refine ⟨(by rw [HX.out]; exact congrArg (fun x => Ending.returned (.tuple #[.string x, .bool true])) (by simp only [ByteArray.mk_append_mk])), ?_⟩
  exact b_1.trans (hb1.mono b_1.size)
set_option linter.unusedVariables false in
set_option maxRecDepth 100000 in
set_option maxHeartbeats 3200000 in
theorem iFmtStep (i d n : Int) (w : World) (ht : Tab w) (h : actOkB 2 i d n = true) (hn : 0 ≤ n ∧ n ≤ 1000) :
    Calls Tryz.prog 41 #[.agg #[.int .i64 2, .int .i64 i, .int .i64 d, .int .i64 n]] w fun e w' => e = .returned (.tuple #[.string ⟨(actTxt 2 i d n).toArray⟩, .bool true]) ∧ Below w.heap.size w w' := by
  have HOK := hid (fun w => iActOk 2 i d n w)
  rw [h] at HOK
  have HT := hid ht
  have HX := hid (actTxt_step h)
  clear ht h
  have ln := itoa_le hn
  go_enter Tryz.func41, Tryz.ntmps41
  have b_0 := (Below.refl w.heap.size w)
  have s_0 := b_0.size
  go_wp2_with fail
  refine calls_forget1 (W := w) (b0 := w.heap.size) (t0 := 30) (c0 := #[.int .i64 2, .int .i64 i, .int .i64 d, .int .i64 n]) ?_ ?_ ?_
  (focus exact blkcBy)
  (focus (exact belBy))
  intro X1 x_n hX1
  have sX1 := hX1.size
  have x_lt := x_n.lt
  refine (HOK.out _).mono ?_
  rintro e w1 ⟨rfl, hb1⟩
  have s1 := hb1.size
  have hT1 := hX1.trans (hb1.mono sX1)
  have b_1 := b_0.trans (hT1.mono (by omega))
  have x_1 := Blk.past hb1 x_n
  clear b_0 x_n hX1 hT1 hb1
  have cell_x := x_1.cell
  have froz_x := x_1.frozen
  have lt_x := x_1.lt
  go_wp2_with fail
  refine calls_forget0 (W := w1) ?_ ?_
  (focus (exact belBy))
  intro X2 hX2
  have sX2 := hX2.size
  refine (iFormatIntT n _ (by omega) (by omega) (HT.out.step (b_1.trans (hX2.mono (by omega))) HT.out)).mono ?_
  rintro e w2 ⟨rfl, hb2⟩
  have s2 := hb2.size
  have hT2 := hX2.trans (hb2.mono sX2)
  have b_2 := b_1.trans (hT2.mono (by omega))
  have x_2 := Blk.past hT2 x_1
  clear x_1 b_1 cell_x froz_x lt_x hX2 hT2 hb2
  have cell_x := x_2.cell
  have froz_x := x_2.frozen
  have lt_x := x_2.lt
  all_goals go_wp2
  all_goals go_returns
  all_goals refine ⟨(by rw [HX.out]; exact congrArg (fun x => Ending.returned (.tuple #[.string x, .bool true])) (by simp only [ByteArray.mk_append_mk])), ?_⟩
  all_goals exact belBy
set_option linter.unusedVariables false in
set_option maxRecDepth 100000 in
set_option maxHeartbeats 3200000 in
theorem sFmtStep (i d n : Int) (w : World) (ht : Tab w) (h : actOkB 2 i d n = true) (hn : 0 ≤ n ∧ n ≤ 1000) :
    Calls Tryz.prog 7 #[.agg #[.int .i64 2, .int .i64 i, .int .i64 d, .int .i64 n]] w fun e w' => e = .returned (.tuple #[.string ⟨(actTxt 2 i d n).toArray⟩, .bool true]) ∧ Below w.heap.size w w' := by
  have HOK := hid (fun w => sActOk 2 i d n w)
  rw [h] at HOK
  have HT := hid ht
  have HX := hid (actTxt_step h)
  clear ht h
  have ln := itoa_le hn
  go_enter Tryz.func7, Tryz.ntmps7
  have b_0 := (Below.refl w.heap.size w)
  have s_0 := b_0.size
  go_wp2_with fail
  refine calls_forget1 (W := w) (b0 := w.heap.size) (t0 := 30) (c0 := #[.int .i64 2, .int .i64 i, .int .i64 d, .int .i64 n]) ?_ ?_ ?_
  (focus exact blkcBy)
  (focus (exact belBy))
  intro X1 x_n hX1
  have sX1 := hX1.size
  have x_lt := x_n.lt
  refine (HOK.out _).mono ?_
  rintro e w1 ⟨rfl, hb1⟩
  have s1 := hb1.size
  have hT1 := hX1.trans (hb1.mono sX1)
  have b_1 := b_0.trans (hT1.mono (by omega))
  have x_1 := Blk.past hb1 x_n
  clear b_0 x_n hX1 hT1 hb1
  have cell_x := x_1.cell
  have froz_x := x_1.frozen
  have lt_x := x_1.lt
  go_wp2_with fail
  refine calls_forget0 (W := w1) ?_ ?_
  (focus (exact belBy))
  intro X2 hX2
  have sX2 := hX2.size
  refine (sFormatIntT n _ (by omega) (by omega) (HT.out.step (b_1.trans (hX2.mono (by omega))) HT.out)).mono ?_
  rintro e w2 ⟨rfl, hb2⟩
  have s2 := hb2.size
  have hT2 := hX2.trans (hb2.mono sX2)
  have b_2 := b_1.trans (hT2.mono (by omega))
  have x_2 := Blk.past hT2 x_1
  clear x_1 b_1 cell_x froz_x lt_x hX2 hT2 hb2
  have cell_x := x_2.cell
  have froz_x := x_2.frozen
  have lt_x := x_2.lt
  all_goals go_wp2
  all_goals go_returns
  all_goals refine ⟨(by rw [HX.out]; exact congrArg (fun x => Ending.returned (.tuple #[.string x, .bool true])) (by simp only [ByteArray.mk_append_mk])), ?_⟩
  all_goals exact belBy
set_option linter.unusedVariables false in
set_option maxRecDepth 100000 in
set_option maxHeartbeats 3200000 in
theorem iFmtRes (i d n : Int) (w : World) (ht : Tab w) (h : actOkB 3 i d n = true) (hn : 0 ≤ n ∧ n ≤ 1000) :
    Calls Tryz.prog 41 #[.agg #[.int .i64 3, .int .i64 i, .int .i64 d, .int .i64 n]] w fun e w' => e = .returned (.tuple #[.string ⟨(actTxt 3 i d n).toArray⟩, .bool true]) ∧ Below w.heap.size w w' := by
  have HOK := hid (fun w => iActOk 3 i d n w)
  rw [h] at HOK
  have HT := hid ht
  have HX := hid (actTxt_res h)
  clear ht h
  have ln := itoa_le hn
  go_enter Tryz.func41, Tryz.ntmps41
  have b_0 := (Below.refl w.heap.size w)
  have s_0 := b_0.size
  go_wp2_with fail
  refine calls_forget1 (W := w) (b0 := w.heap.size) (t0 := 30) (c0 := #[.int .i64 3, .int .i64 i, .int .i64 d, .int .i64 n]) ?_ ?_ ?_
  (focus exact blkcBy)
  (focus (exact belBy))
  intro X1 x_n hX1
  have sX1 := hX1.size
  have x_lt := x_n.lt
  refine (HOK.out _).mono ?_
  rintro e w1 ⟨rfl, hb1⟩
  have s1 := hb1.size
  have hT1 := hX1.trans (hb1.mono sX1)
  have b_1 := b_0.trans (hT1.mono (by omega))
  have x_1 := Blk.past hb1 x_n
  clear b_0 x_n hX1 hT1 hb1
  have cell_x := x_1.cell
  have froz_x := x_1.frozen
  have lt_x := x_1.lt
  go_wp2_with fail
  refine calls_forget0 (W := w1) ?_ ?_
  (focus (exact belBy))
  intro X2 hX2
  have sX2 := hX2.size
  refine (iFormatIntT n _ (by omega) (by omega) (HT.out.step (b_1.trans (hX2.mono (by omega))) HT.out)).mono ?_
  rintro e w2 ⟨rfl, hb2⟩
  have s2 := hb2.size
  have hT2 := hX2.trans (hb2.mono sX2)
  have b_2 := b_1.trans (hT2.mono (by omega))
  have x_2 := Blk.past hT2 x_1
  clear x_1 b_1 cell_x froz_x lt_x hX2 hT2 hb2
  have cell_x := x_2.cell
  have froz_x := x_2.frozen
  have lt_x := x_2.lt
  all_goals go_wp2
  all_goals go_returns
  all_goals refine ⟨(by rw [HX.out]; exact congrArg (fun x => Ending.returned (.tuple #[.string x, .bool true])) (by simp only [ByteArray.mk_append_mk])), ?_⟩
  all_goals exact belBy
set_option linter.unusedVariables false in
set_option maxRecDepth 100000 in
set_option maxHeartbeats 3200000 in
theorem sFmtRes (i d n : Int) (w : World) (ht : Tab w) (h : actOkB 3 i d n = true) (hn : 0 ≤ n ∧ n ≤ 1000) :
    Calls Tryz.prog 7 #[.agg #[.int .i64 3, .int .i64 i, .int .i64 d, .int .i64 n]] w fun e w' => e = .returned (.tuple #[.string ⟨(actTxt 3 i d n).toArray⟩, .bool true]) ∧ Below w.heap.size w w' := by
  have HOK := hid (fun w => sActOk 3 i d n w)
  rw [h] at HOK
  have HT := hid ht
  have HX := hid (actTxt_res h)
  clear ht h
  have ln := itoa_le hn
  go_enter Tryz.func7, Tryz.ntmps7
  have b_0 := (Below.refl w.heap.size w)
  have s_0 := b_0.size
  go_wp2_with fail
  refine calls_forget1 (W := w) (b0 := w.heap.size) (t0 := 30) (c0 := #[.int .i64 3, .int .i64 i, .int .i64 d, .int .i64 n]) ?_ ?_ ?_
  (focus exact blkcBy)
  (focus (exact belBy))
  intro X1 x_n hX1
  have sX1 := hX1.size
  have x_lt := x_n.lt
  refine (HOK.out _).mono ?_
  rintro e w1 ⟨rfl, hb1⟩
  have s1 := hb1.size
  have hT1 := hX1.trans (hb1.mono sX1)
  have b_1 := b_0.trans (hT1.mono (by omega))
  have x_1 := Blk.past hb1 x_n
  clear b_0 x_n hX1 hT1 hb1
  have cell_x := x_1.cell
  have froz_x := x_1.frozen
  have lt_x := x_1.lt
  go_wp2_with fail
  refine calls_forget0 (W := w1) ?_ ?_
  (focus (exact belBy))
  intro X2 hX2
  have sX2 := hX2.size
  refine (sFormatIntT n _ (by omega) (by omega) (HT.out.step (b_1.trans (hX2.mono (by omega))) HT.out)).mono ?_
  rintro e w2 ⟨rfl, hb2⟩
  have s2 := hb2.size
  have hT2 := hX2.trans (hb2.mono sX2)
  have b_2 := b_1.trans (hT2.mono (by omega))
  have x_2 := Blk.past hT2 x_1
  clear x_1 b_1 cell_x froz_x lt_x hX2 hT2 hb2
  have cell_x := x_2.cell
  have froz_x := x_2.frozen
  have lt_x := x_2.lt
  all_goals go_wp2
  all_goals go_returns
  all_goals refine ⟨(by rw [HX.out]; exact congrArg (fun x => Ending.returned (.tuple #[.string x, .bool true])) (by simp only [ByteArray.mk_append_mk])), ?_⟩
  all_goals exact belBy
set_option linter.unusedVariables false in
set_option maxRecDepth 100000 in
set_option maxHeartbeats 3200000 in
theorem iFmtCrash (i d n : Int) (w : World) (ht : Tab w) (h : actOkB 4 i d n = true) :
    Calls Tryz.prog 41 #[.agg #[.int .i64 4, .int .i64 i, .int .i64 d, .int .i64 n]] w fun e w' => e = .returned (.tuple #[.string ⟨(actTxt 4 i d n).toArray⟩, .bool true]) ∧ Below w.heap.size w w' := by
  have HOK := hid (fun w => iActOk 4 i d n w)
  rw [h] at HOK
  have HT := hid ht
  have HX := hid (actTxt_crash h)
  clear ht h
  go_enter Tryz.func41, Tryz.ntmps41
  have b_0 := (Below.refl w.heap.size w)
  have s_0 := b_0.size
  go_wp2_with fail
  refine calls_forget1 (W := w) (b0 := w.heap.size) (t0 := 30) (c0 := #[.int .i64 4, .int .i64 i, .int .i64 d, .int .i64 n]) ?_ ?_ ?_
  (focus exact blkcBy)
  (focus (exact belBy))
  intro X1 x_n hX1
  have sX1 := hX1.size
  have x_lt := x_n.lt
  refine (HOK.out _).mono ?_
  rintro e w1 ⟨rfl, hb1⟩
  have s1 := hb1.size
  have hT1 := hX1.trans (hb1.mono sX1)
  have b_1 := b_0.trans (hT1.mono (by omega))
  have x_1 := Blk.past hb1 x_n
  clear b_0 x_n hX1 hT1 hb1
  have cell_x := x_1.cell
  have froz_x := x_1.frozen
  have lt_x := x_1.lt
  all_goals go_wp2
  all_goals go_returns
  all_goals refine ⟨(by rw [HX.out]; rfl), ?_⟩
  all_goals exact belBy
set_option linter.unusedVariables false in
set_option maxRecDepth 100000 in
set_option maxHeartbeats 3200000 in
theorem sFmtCrash (i d n : Int) (w : World) (ht : Tab w) (h : actOkB 4 i d n = true) :
    Calls Tryz.prog 7 #[.agg #[.int .i64 4, .int .i64 i, .int .i64 d, .int .i64 n]] w fun e w' => e = .returned (.tuple #[.string ⟨(actTxt 4 i d n).toArray⟩, .bool true]) ∧ Below w.heap.size w w' := by
  have HOK := hid (fun w => sActOk 4 i d n w)
  rw [h] at HOK
  have HT := hid ht
  have HX := hid (actTxt_crash h)
  clear ht h
  go_enter Tryz.func7, Tryz.ntmps7
  have b_0 := (Below.refl w.heap.size w)
  have s_0 := b_0.size
  go_wp2_with fail
  refine calls_forget1 (W := w) (b0 := w.heap.size) (t0 := 30) (c0 := #[.int .i64 4, .int .i64 i, .int .i64 d, .int .i64 n]) ?_ ?_ ?_
  (focus exact blkcBy)
  (focus (exact belBy))
  intro X1 x_n hX1
  have sX1 := hX1.size
  have x_lt := x_n.lt
  refine (HOK.out _).mono ?_
  rintro e w1 ⟨rfl, hb1⟩
  have s1 := hb1.size
  have hT1 := hX1.trans (hb1.mono sX1)
  have b_1 := b_0.trans (hT1.mono (by omega))
  have x_1 := Blk.past hb1 x_n
  clear b_0 x_n hX1 hT1 hb1
  have cell_x := x_1.cell
  have froz_x := x_1.frozen
  have lt_x := x_1.lt
  all_goals go_wp2
  all_goals go_returns
  all_goals refine ⟨(by rw [HX.out]; rfl), ?_⟩
  all_goals exact belBy
theorem iFormatAct (k i d n : Int) (w : World) (ht : Tab w) :
    Calls Tryz.prog 41 #[.agg #[.int .i64 k, .int .i64 i, .int .i64 d, .int .i64 n]] w fun e w' => e = .returned (.tuple #[.string ⟨(actTxt k i d n).toArray⟩, .bool (actOkB k i d n)]) ∧ Below w.heap.size w w' := by
  cases h : actOkB k i d n
  · exact iFmtNo k i d n w ht h
  · rcases act_kinds h with ⟨rfl, h1, h2, h3⟩ | ⟨rfl, h3⟩ | ⟨rfl, h3⟩ | rfl
    · exact iFmtAdd i d n w ht h h1 h2 h3
    · exact iFmtStep i d n w ht h h3
    · exact iFmtRes i d n w ht h h3
    · exact iFmtCrash i d n w ht h
theorem sFormatAct (k i d n : Int) (w : World) (ht : Tab w) :
    Calls Tryz.prog 7 #[.agg #[.int .i64 k, .int .i64 i, .int .i64 d, .int .i64 n]] w fun e w' => e = .returned (.tuple #[.string ⟨(actTxt k i d n).toArray⟩, .bool (actOkB k i d n)]) ∧ Below w.heap.size w w' := by
  cases h : actOkB k i d n
  · exact sFmtNo k i d n w ht h
  · rcases act_kinds h with ⟨rfl, h1, h2, h3⟩ | ⟨rfl, h3⟩ | ⟨rfl, h3⟩ | rfl
    · exact sFmtAdd i d n w ht h h1 h2 h3
    · exact sFmtStep i d n w ht h h3
    · exact sFmtRes i d n w ht h h3
    · exact sFmtCrash i d n w ht h
end Go.Proofs.YtjknadnknainbaaGreatDoor
