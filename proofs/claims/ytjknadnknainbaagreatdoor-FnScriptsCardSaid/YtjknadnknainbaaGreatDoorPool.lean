/- Pools, in the program and in the reference. -/
import Derived.Test.YtjknadnknainbaaGreatDoorMem
import Derived.Test.YtjknadnknainbaaGreatDoorWord
import Derived.Test.YtjknadnknainbaaGreatDoorSched
import Derived.Outline
import Derived.Deep.RegionHeld3
import Derived.Deep.DeepCutAuto
namespace Go.Proofs.YtjknadnknainbaaGreatDoor
open Go.RowKit

theorem iPoolOk (z n b : Int) (w : World) : Calls Tryz.prog 73 #[.agg #[.int .i64 z, .int .i64 n, .int .i64 b]] w fun e w' => e = .returned (.bool (poolOkB z n b)) ∧ Below w.heap.size w w' := by
  cases h1 : inB z 1 1000 <;> by_cases h2 : 0 ≤ n <;> by_cases h3 : n ≤ b
  all_goals
    have e : poolOkB z n b = (inB z 1 1000 && decide (0 ≤ n) && decide (n ≤ b) && decide (b ≤ z)) := by
      unfold poolOkB inB
      rw [Bool.eq_iff_iff]
      simp only [decide_eq_true_eq, Bool.and_eq_true]
      omega
    simp [h1, h2, h3] at e
    rw [e]
    clear e
    go_enter Tryz.func73, Tryz.ntmps73
    go_wp2_with (go_at_call 65; refine (iWithin _ _ _ _).mono ?_; rintro e w' ⟨rfl, rfl⟩)
    go_ret
    refine ⟨rfl, ?_⟩
    exact belBy
theorem sPoolOk (z n b : Int) (w : World) : Calls Tryz.prog 54 #[.agg #[.int .i64 z, .int .i64 n, .int .i64 b]] w fun e w' => e = .returned (.bool (poolOkB z n b)) ∧ Below w.heap.size w w' := by
  cases h1 : inB z 1 1000; rotate_left
  cases h2 : inB b 0 z; rotate_left
  cases h3 : inB n 0 b
  all_goals
    have e : poolOkB z n b = (inB z 1 1000 && inB b 0 z && inB n 0 b) := by
      unfold poolOkB inB
      rw [Bool.eq_iff_iff]
      simp only [decide_eq_true_eq, Bool.and_eq_true]
      omega
    try rw [h1] at e
    try rw [h2] at e
    try rw [h3] at e
    simp at e
    rw [e]
    clear e
    go_enter Tryz.func54, Tryz.ntmps54
    go_wp2_with (go_at_call 38; refine (sWithin _ _ _ _).mono ?_; rintro e w' ⟨rfl, rfl⟩)
    go_ret
    refine ⟨rfl, ?_⟩
    exact belBy
theorem iPoolNew (z : Int) (w : World) :
    Calls Tryz.prog 43 #[.int .i64 z] w fun e w' => e = .returned (.tuple #[.agg #[.int .i64 (pick (inB z 1 1000) z 0), .int .i64 0, .int .i64 0], .bool (inB z 1 1000)]) ∧ Below w.heap.size w w' := by
  cases h1 : inB z 1 1000
  all_goals
    go_enter Tryz.func43, Tryz.ntmps43
    go_wp2_with (go_at_call 65; refine (iWithin _ _ _ _).mono ?_; rintro e w' ⟨rfl, rfl⟩)
    go_returns
    refine ⟨rfl, ?_⟩
    exact belBy
set_option maxHeartbeats 400000 in
theorem iSchedNew (z : Int) (w : World) :
    Calls Tryz.prog 24 #[.int .i64 z] w fun e w' => e = .returned (.tuple #[.agg #[.int .i64 (pick (inB z 1 1000) z 0), .int .i64 0, .int .i64 0, .slice none 0 0, .slice none 0 0, .slice none 0 0], .bool (inB z 1 1000)]) ∧ Below w.heap.size w w' := by
  cases h1 : inB z 1 1000
  · skip
    have h0 := iPoolNew z
    rw [h1, pick_no] at h0
    rw [pick_no]
    have H0 := hid h0
    clear h0
    go_enter Tryz.func24, Tryz.ntmps24
    have b_0 := (Below.refl w.heap.size w)
    have s_0 := b_0.size
    go_wp2_with fail
    refine calls_forget1 (W := w) (b0 := w.heap.size) (t0 := 40) (c0 := #[.int .i64 0, .int .i64 0, .int .i64 0, .slice none 0 0, .slice none 0 0, .slice none 0 0]) ?_ ?_ ?_
    (focus exact blkcBy)
    (focus (exact belBy))
    intro X1 r_n hX1
    have sX1 := hX1.size
    have r_lt := r_n.lt
    refine (H0.out _).mono ?_
    rintro e w1 ⟨rfl, hb1⟩
    have s1 := hb1.size
    have hT1 := hX1.trans (hb1.mono sX1)
    have b_1 := b_0.trans (hT1.mono (by omega))
    have r_1 := Blk.past hb1 r_n
    clear b_0 r_n hX1 hT1 hb1
    have cell_r := r_1.cell
    have froz_r := r_1.frozen
    have lt_r := r_1.lt
    go_upto_region 2 with fail
    refine wp_forget1 (w0 := w1) (B := w1.heap.size) (b0 := w1.heap.size) (t0 := 35) (c0 := #[.int .i64 0, .int .i64 0, .int .i64 0]) ?_ ?_ ?_
    (focus exact blkcBy)
    (focus (exact belBy))
    intro w2 p_2 hX2
    have sX2 := hX2.size
    have p_lt := p_2.lt
    have b_2 := b_1.trans (hX2.mono (by omega))
    have r_2 := Blk.past hX2 r_1
    clear r_1 b_1 cell_r froz_r lt_r hX2
    have cell_r := r_2.cell
    have froz_r := r_2.frozen
    have lt_r := r_2.lt
    have cell_p := p_2.cell
    have froz_p := p_2.frozen
    have lt_p := p_2.lt
    go_wp2_with fail
    ((try simp only [Exit.inBlock, Exit.then]); apply bodyPost_ret0; focus ((try simp only [results, Tryz.results24]); (try go_simp); (try rfl)))
    refine ⟨rfl, ?_⟩
    exact belBy
  · skip
    have h0 := iPoolNew z
    rw [h1, pick_yes] at h0
    rw [pick_yes]
    have H0 := hid h0
    clear h0
    go_enter Tryz.func24, Tryz.ntmps24
    have b_0 := (Below.refl w.heap.size w)
    have s_0 := b_0.size
    go_wp2_with fail
    refine calls_forget1 (W := w) (b0 := w.heap.size) (t0 := 40) (c0 := #[.int .i64 0, .int .i64 0, .int .i64 0, .slice none 0 0, .slice none 0 0, .slice none 0 0]) ?_ ?_ ?_
    (focus exact blkcBy)
    (focus (exact belBy))
    intro X1 r_n hX1
    have sX1 := hX1.size
    have r_lt := r_n.lt
    refine (H0.out _).mono ?_
    rintro e w1 ⟨rfl, hb1⟩
    have s1 := hb1.size
    have hT1 := hX1.trans (hb1.mono sX1)
    have b_1 := b_0.trans (hT1.mono (by omega))
    have r_1 := Blk.past hb1 r_n
    clear b_0 r_n hX1 hT1 hb1
    have cell_r := r_1.cell
    have froz_r := r_1.frozen
    have lt_r := r_1.lt
    go_upto_region 2 with fail
    refine wp_forget1 (w0 := w1) (B := w1.heap.size) (b0 := w1.heap.size) (t0 := 35) (c0 := #[.int .i64 z, .int .i64 0, .int .i64 0]) ?_ ?_ ?_
    (focus exact blkcBy)
    (focus (exact belBy))
    intro w2 p_2 hX2
    have sX2 := hX2.size
    have p_lt := p_2.lt
    have b_2 := b_1.trans (hX2.mono (by omega))
    have r_2 := Blk.past hX2 r_1
    clear r_1 b_1 cell_r froz_r lt_r hX2
    have cell_r := r_2.cell
    have froz_r := r_2.frozen
    have lt_r := r_2.lt
    have cell_p := p_2.cell
    have froz_p := p_2.frozen
    have lt_p := p_2.lt
    go_wp2_with fail
    ((try simp only [Exit.inBlock, Exit.then]); apply bodyPost_ret0; focus ((try simp only [results, Tryz.results24]); (try go_simp); (try rfl)))
    refine ⟨rfl, ?_⟩
    exact belBy
theorem sPoolNew (z : Int) (w : World) :
    Calls Tryz.prog 47 #[.int .i64 z] w fun e w' => e = .returned (.tuple #[.agg #[.int .i64 (pick (inB z 1 1000) z 0), .int .i64 0, .int .i64 0], .bool (inB z 1 1000)]) ∧ Below w.heap.size w w' := by
  cases h1 : inB z 1 1000
  all_goals
    go_enter Tryz.func47, Tryz.ntmps47
    go_wp2_with (go_at_call 38; refine (sWithin _ _ _ _).mono ?_; rintro e w' ⟨rfl, rfl⟩)
    go_returns
    refine ⟨rfl, ?_⟩
    exact belBy
set_option maxHeartbeats 400000 in
theorem sSchedNew (z : Int) (w : World) :
    Calls Tryz.prog 28 #[.int .i64 z] w fun e w' => e = .returned (.tuple #[.agg #[.int .i64 (pick (inB z 1 1000) z 0), .int .i64 0, .int .i64 0, .slice none 0 0, .slice none 0 0, .slice none 0 0], .bool (inB z 1 1000)]) ∧ Below w.heap.size w w' := by
  cases h1 : inB z 1 1000
  · skip
    have h0 := sPoolNew z
    rw [h1, pick_no] at h0
    rw [pick_no]
    have H0 := hid h0
    clear h0
    go_enter Tryz.func28, Tryz.ntmps28
    have b_0 := (Below.refl w.heap.size w)
    have s_0 := b_0.size
    go_wp2_with fail
    refine calls_forget1 (W := w) (b0 := w.heap.size) (t0 := 40) (c0 := #[.int .i64 0, .int .i64 0, .int .i64 0, .slice none 0 0, .slice none 0 0, .slice none 0 0]) ?_ ?_ ?_
    (focus exact blkcBy)
    (focus (exact belBy))
    intro X1 r_n hX1
    have sX1 := hX1.size
    have r_lt := r_n.lt
    refine (H0.out _).mono ?_
    rintro e w1 ⟨rfl, hb1⟩
    have s1 := hb1.size
    have hT1 := hX1.trans (hb1.mono sX1)
    have b_1 := b_0.trans (hT1.mono (by omega))
    have r_1 := Blk.past hb1 r_n
    clear b_0 r_n hX1 hT1 hb1
    have cell_r := r_1.cell
    have froz_r := r_1.frozen
    have lt_r := r_1.lt
    go_upto_region 2 with fail
    refine wp_forget1 (w0 := w1) (B := w1.heap.size) (b0 := w1.heap.size) (t0 := 35) (c0 := #[.int .i64 0, .int .i64 0, .int .i64 0]) ?_ ?_ ?_
    (focus exact blkcBy)
    (focus (exact belBy))
    intro w2 p_2 hX2
    have sX2 := hX2.size
    have p_lt := p_2.lt
    have b_2 := b_1.trans (hX2.mono (by omega))
    have r_2 := Blk.past hX2 r_1
    clear r_1 b_1 cell_r froz_r lt_r hX2
    have cell_r := r_2.cell
    have froz_r := r_2.frozen
    have lt_r := r_2.lt
    have cell_p := p_2.cell
    have froz_p := p_2.frozen
    have lt_p := p_2.lt
    go_wp2_with fail
    ((try simp only [Exit.inBlock, Exit.then]); apply bodyPost_ret0; focus ((try simp only [results, Tryz.results28]); (try go_simp); (try rfl)))
    refine ⟨rfl, ?_⟩
    exact belBy
  · skip
    have h0 := sPoolNew z
    rw [h1, pick_yes] at h0
    rw [pick_yes]
    have H0 := hid h0
    clear h0
    go_enter Tryz.func28, Tryz.ntmps28
    have b_0 := (Below.refl w.heap.size w)
    have s_0 := b_0.size
    go_wp2_with fail
    refine calls_forget1 (W := w) (b0 := w.heap.size) (t0 := 40) (c0 := #[.int .i64 0, .int .i64 0, .int .i64 0, .slice none 0 0, .slice none 0 0, .slice none 0 0]) ?_ ?_ ?_
    (focus exact blkcBy)
    (focus (exact belBy))
    intro X1 r_n hX1
    have sX1 := hX1.size
    have r_lt := r_n.lt
    refine (H0.out _).mono ?_
    rintro e w1 ⟨rfl, hb1⟩
    have s1 := hb1.size
    have hT1 := hX1.trans (hb1.mono sX1)
    have b_1 := b_0.trans (hT1.mono (by omega))
    have r_1 := Blk.past hb1 r_n
    clear b_0 r_n hX1 hT1 hb1
    have cell_r := r_1.cell
    have froz_r := r_1.frozen
    have lt_r := r_1.lt
    go_upto_region 2 with fail
    refine wp_forget1 (w0 := w1) (B := w1.heap.size) (b0 := w1.heap.size) (t0 := 35) (c0 := #[.int .i64 z, .int .i64 0, .int .i64 0]) ?_ ?_ ?_
    (focus exact blkcBy)
    (focus (exact belBy))
    intro w2 p_2 hX2
    have sX2 := hX2.size
    have p_lt := p_2.lt
    have b_2 := b_1.trans (hX2.mono (by omega))
    have r_2 := Blk.past hX2 r_1
    clear r_1 b_1 cell_r froz_r lt_r hX2
    have cell_r := r_2.cell
    have froz_r := r_2.frozen
    have lt_r := r_2.lt
    have cell_p := p_2.cell
    have froz_p := p_2.frozen
    have lt_p := p_2.lt
    go_wp2_with fail
    ((try simp only [Exit.inBlock, Exit.then]); apply bodyPost_ret0; focus ((try simp only [results, Tryz.results28]); (try go_simp); (try rfl)))
    refine ⟨rfl, ?_⟩
    exact belBy
end Go.Proofs.YtjknadnknainbaaGreatDoor
