/- SchedCrash, in the program and in the reference. -/
import Derived.Test.YtjknadnknainbaaGreatDoorMem
import Derived.Test.YtjknadnknainbaaGreatDoorCopy
import Derived.Test.YtjknadnknainbaaGreatDoorSchedOk2
import Derived.Test.YtjknadnknainbaaGreatDoorPool3
namespace Go.Proofs.YtjknadnknainbaaGreatDoor
open Go.RowKit

theorem iCopyS (S : SV) (J T F : Option Addr) (cj ct cf : Nat) (w : World) (h : w.ownsRow 0 64 4 (.slice J S.js.length cj) S.js.length (ints (flatJ S.js)) ∧ w.ownsRow 0 88 2 (.slice T S.ts.length ct) S.ts.length (ints (flatT S.ts)) ∧ w.ownsRow 0 3 1 (.slice F S.fs.length cf) S.fs.length (ints S.fs)) (b1 : S.js.length ≤ 1000000000) (b2 : S.ts.length ≤ 1000000000) (b3 : S.fs.length ≤ 1000000000) :
    Calls Tryz.prog 66 #[.agg #[.int .i64 S.z, .int .i64 S.n, .int .i64 S.b, .slice J S.js.length cj, .slice T S.ts.length ct, .slice F S.fs.length cf]] w fun e w' => ∃ J' cj' T' ct' F' cf', e = .returned (.agg #[.int .i64 S.z, .int .i64 S.n, .int .i64 S.b, .slice J' S.js.length cj', .slice T' S.ts.length ct', .slice F' S.fs.length cf']) ∧
      w'.ownsRow w.heap.size 64 4 (.slice J' S.js.length cj') S.js.length (ints (flatJ S.js)) ∧ w'.ownsRow w.heap.size 88 2 (.slice T' S.ts.length ct') S.ts.length (ints (flatT S.ts)) ∧
      w'.ownsRow w.heap.size 3 1 (.slice F' S.fs.length cf') S.fs.length (ints S.fs) ∧ Below w.heap.size w w' :=
  iCopy _ _ _ _ _ _ _ _ _ _ _ _ _ _ _ w h.1 h.2.1 h.2.2 b1 b2 b3
theorem iSchedOkS (S : SV) (J T F : Option Addr) (cj ct cf : Nat) (w : World) (h : w.ownsRow 0 64 4 (.slice J S.js.length cj) S.js.length (ints (flatJ S.js)) ∧ w.ownsRow 0 88 2 (.slice T S.ts.length ct) S.ts.length (ints (flatT S.ts)) ∧ w.ownsRow 0 3 1 (.slice F S.fs.length cf) S.fs.length (ints S.fs)) (b1 : S.js.length ≤ 1000000000) (b2 : S.ts.length ≤ 1000000000) :
    Calls Tryz.prog 46 #[.agg #[.int .i64 S.z, .int .i64 S.n, .int .i64 S.b, .slice J S.js.length cj, .slice T S.ts.length ct, .slice F S.fs.length cf]] w fun e w' => e = .returned (.bool (schedOkB S)) ∧ Below w.heap.size w w' :=
  iSchedOk S J T F cj ct S.fs.length cf w (Cells.of_own h.1) (Cells.of_own h.2.1) (own_cap h.2.1) b1 b2
set_option maxHeartbeats 1600000 in
theorem iSchedCrash (S : SV) (J T F : Option Addr) (cj ct cf : Nat) (w : World) (h : w.ownsRow 0 64 4 (.slice J S.js.length cj) S.js.length (ints (flatJ S.js)) ∧ w.ownsRow 0 88 2 (.slice T S.ts.length ct) S.ts.length (ints (flatT S.ts)) ∧ w.ownsRow 0 3 1 (.slice F S.fs.length cf) S.fs.length (ints S.fs)) (b1 : S.js.length ≤ 1000000000) (b2 : S.ts.length ≤ 1000000000) (b3 : S.fs.length ≤ 1000000000) :
    Calls Tryz.prog 71 #[.agg #[.int .i64 S.z, .int .i64 S.n, .int .i64 S.b, .slice J S.js.length cj, .slice T S.ts.length ct, .slice F S.fs.length cf]] w fun e w' => ∃ J' cj' T' ct' F' cf', e = .returned (.agg #[.int .i64 S.z, .int .i64 (pick (schedOkB S) S.b S.n), .int .i64 S.b, .slice J' S.js.length cj', .slice T' S.ts.length ct', .slice F' S.fs.length cf']) ∧
      w'.ownsRow w.heap.size 64 4 (.slice J' S.js.length cj') S.js.length (ints (flatJ S.js)) ∧ w'.ownsRow w.heap.size 88 2 (.slice T' S.ts.length ct') S.ts.length (ints (flatT S.ts)) ∧
      w'.ownsRow w.heap.size 3 1 (.slice F' S.fs.length cf') S.fs.length (ints S.fs) ∧ Below w.heap.size w w' := by
  obtain ⟨h1, h2, h3⟩ := h
  have HO := hid (iSchedOkS S)
  have HP := hid (iPoolCrash S.z S.n S.b)
  cases hk : schedOkB S
  · skip
    rw [hk] at HO
    rw [pick_no]
    clear HP
    go_enter Tryz.func71, Tryz.ntmps71
    have b_0 := (Below.refl w.heap.size w)
    have s_0 := b_0.size
    have oj_in := own_in h1
    have oj_0 := h1
    clear h1
    have ot_in := own_in h2
    have ot_0 := h2
    clear h2
    have of__in := own_in h3
    have of__0 := h3
    clear h3
    go_wp2_with fail
    refine calls_forget2 (W := w) (b0 := w.heap.size) (t0 := 40) (c0 := #[.int .i64 S.z, .int .i64 S.n, .int .i64 S.b, .slice J S.js.length cj, .slice T S.ts.length ct, .slice F S.fs.length cf]) (b1 := w.heap.size + 1) (t1 := 40) (c1 := #[.int .i64 0, .int .i64 0, .int .i64 0, .slice none 0 0, .slice none 0 0, .slice none 0 0]) ?_ ?_ ?_ ?_
    (focus exact blkcBy)
    (focus exact blkcBy)
    (focus (exact belBy))
    intro X1 x_n r_n hX1
    have sX1 := hX1.size
    have x_lt := x_n.lt
    have r_lt := r_n.lt
    refine (iCopyS S _ _ _ _ _ _ _ ⟨(own_below oj_0 hX1), (own_below ot_0 hX1), (own_below of__0 hX1)⟩ b1 b2 b3).mono ?_
    rintro e w1 ⟨J', cj', T', ct', F', cf', rfl, rj_1, rt_1, rf_1, hb1⟩
    have s1 := hb1.size
    have hT1 := hX1.trans (hb1.mono sX1)
    have b_1 := b_0.trans (hT1.mono (by omega))
    have oj_1 := own_below oj_0 hT1
    have ot_1 := own_below ot_0 hT1
    have of__1 := own_below of__0 hT1
    have x_1 := Blk.past hb1 x_n
    have r_1 := Blk.past hb1 r_n
    have rj_in := own_in rj_1
    have rt_in := own_in rt_1
    have rf_in := own_in rf_1
    clear oj_0 ot_0 of__0 b_0 x_n r_n hX1 hT1 hb1
    have cell_x := x_1.cell
    have froz_x := x_1.frozen
    have lt_x := x_1.lt
    have cell_r := r_1.cell
    have froz_r := r_1.frozen
    have lt_r := r_1.lt
    go_wp2_with fail
    refine calls_forget1 (W := w1) (b0 := w1.heap.size) (t0 := 40) (c0 := #[.int .i64 S.z, .int .i64 S.n, .int .i64 S.b, .slice J' S.js.length cj', .slice T' S.ts.length ct', .slice F' S.fs.length cf']) ?_ ?_ ?_
    (focus exact blkcBy)
    (focus (exact belBy))
    intro X2 o_n hX2
    have sX2 := hX2.size
    have o_lt := o_n.lt
    refine (HO.out _ _ _ _ _ _ _ ⟨(own_below oj_1 hX2), (own_below ot_1 hX2), (own_below of__1 hX2)⟩ b1 b2).mono ?_
    rintro e w2 ⟨rfl, hb2⟩
    have s2 := hb2.size
    have hT2 := hX2.trans (hb2.mono sX2)
    have b_2 := b_1.trans (hT2.mono (by omega))
    have oj_2 := own_below oj_1 hT2
    have ot_2 := own_below ot_1 hT2
    have of__2 := own_below of__1 hT2
    have rj_2 := own_below rj_1 hT2
    have rt_2 := own_below rt_1 hT2
    have rf_2 := own_below rf_1 hT2
    have x_2 := Blk.past hT2 x_1
    have r_2 := Blk.past hT2 r_1
    have o_2 := Blk.past hb2 o_n
    clear oj_1 ot_1 of__1 rj_1 rt_1 rf_1 x_1 r_1 b_1 cell_x froz_x lt_x cell_r froz_r lt_r o_n hX2 hT2 hb2
    have cell_x := x_2.cell
    have froz_x := x_2.frozen
    have lt_x := x_2.lt
    have cell_r := r_2.cell
    have froz_r := r_2.frozen
    have lt_r := r_2.lt
    have cell_o := o_2.cell
    have froz_o := o_2.frozen
    have lt_o := o_2.lt
    have HRJ := hid rj_2
    have HRT := hid rt_2
    have HRF := hid rf_2
    have HB := hid b_2
    have hXS : w.heap.size ≤ X1.heap.size := by omega
    clear rj_2 rt_2 rf_2 b_2 oj_2 ot_2 of__2
    go_wp2_with fail
    ((try simp only [Exit.inBlock, Exit.then]); apply bodyPost_ret0; focus ((try simp only [results, Tryz.results71]); (try go_simp); (try rfl)))
    refine ⟨J', cj', T', ct', F', cf', rfl, ?_, ?_, ?_, ?_⟩
    · refine own_weak (base := X1.heap.size) ?_ hXS
      have h := HRJ.out
      exact ownBy
    · refine own_weak (base := X1.heap.size) ?_ hXS
      have h := HRT.out
      exact ownBy
    · refine own_weak (base := X1.heap.size) ?_ hXS
      have h := HRF.out
      exact ownBy
    · have hb := HB.out
      exact belBy
  · skip
    rw [hk] at HO
    rw [pick_yes]
    have hp := HP.out
    rw [(schedOkB_iff.1 hk).1, pick_yes] at hp
    have HPC := hid hp
    clear HP hp
    go_enter Tryz.func71, Tryz.ntmps71
    have b_0 := (Below.refl w.heap.size w)
    have s_0 := b_0.size
    have oj_in := own_in h1
    have oj_0 := h1
    clear h1
    have ot_in := own_in h2
    have ot_0 := h2
    clear h2
    have of__in := own_in h3
    have of__0 := h3
    clear h3
    go_wp2_with fail
    refine calls_forget2 (W := w) (b0 := w.heap.size) (t0 := 40) (c0 := #[.int .i64 S.z, .int .i64 S.n, .int .i64 S.b, .slice J S.js.length cj, .slice T S.ts.length ct, .slice F S.fs.length cf]) (b1 := w.heap.size + 1) (t1 := 40) (c1 := #[.int .i64 0, .int .i64 0, .int .i64 0, .slice none 0 0, .slice none 0 0, .slice none 0 0]) ?_ ?_ ?_ ?_
    (focus exact blkcBy)
    (focus exact blkcBy)
    (focus (exact belBy))
    intro X1 x_n r_n hX1
    have sX1 := hX1.size
    have x_lt := x_n.lt
    have r_lt := r_n.lt
    refine (iCopyS S _ _ _ _ _ _ _ ⟨(own_below oj_0 hX1), (own_below ot_0 hX1), (own_below of__0 hX1)⟩ b1 b2 b3).mono ?_
    rintro e w1 ⟨J', cj', T', ct', F', cf', rfl, rj_1, rt_1, rf_1, hb1⟩
    have s1 := hb1.size
    have hT1 := hX1.trans (hb1.mono sX1)
    have b_1 := b_0.trans (hT1.mono (by omega))
    have oj_1 := own_below oj_0 hT1
    have ot_1 := own_below ot_0 hT1
    have of__1 := own_below of__0 hT1
    have x_1 := Blk.past hb1 x_n
    have r_1 := Blk.past hb1 r_n
    have rj_in := own_in rj_1
    have rt_in := own_in rt_1
    have rf_in := own_in rf_1
    clear oj_0 ot_0 of__0 b_0 x_n r_n hX1 hT1 hb1
    have cell_x := x_1.cell
    have froz_x := x_1.frozen
    have lt_x := x_1.lt
    have cell_r := r_1.cell
    have froz_r := r_1.frozen
    have lt_r := r_1.lt
    go_wp2_with fail
    refine calls_forget1 (W := w1) (b0 := w1.heap.size) (t0 := 40) (c0 := #[.int .i64 S.z, .int .i64 S.n, .int .i64 S.b, .slice J' S.js.length cj', .slice T' S.ts.length ct', .slice F' S.fs.length cf']) ?_ ?_ ?_
    (focus exact blkcBy)
    (focus (exact belBy))
    intro X2 o_n hX2
    have sX2 := hX2.size
    have o_lt := o_n.lt
    refine (HO.out _ _ _ _ _ _ _ ⟨(own_below oj_1 hX2), (own_below ot_1 hX2), (own_below of__1 hX2)⟩ b1 b2).mono ?_
    rintro e w2 ⟨rfl, hb2⟩
    have s2 := hb2.size
    have hT2 := hX2.trans (hb2.mono sX2)
    have b_2 := b_1.trans (hT2.mono (by omega))
    have oj_2 := own_below oj_1 hT2
    have ot_2 := own_below ot_1 hT2
    have of__2 := own_below of__1 hT2
    have rj_2 := own_below rj_1 hT2
    have rt_2 := own_below rt_1 hT2
    have rf_2 := own_below rf_1 hT2
    have x_2 := Blk.past hT2 x_1
    have r_2 := Blk.past hT2 r_1
    have o_2 := Blk.past hb2 o_n
    clear oj_1 ot_1 of__1 rj_1 rt_1 rf_1 x_1 r_1 b_1 cell_x froz_x lt_x cell_r froz_r lt_r o_n hX2 hT2 hb2
    have cell_x := x_2.cell
    have froz_x := x_2.frozen
    have lt_x := x_2.lt
    have cell_r := r_2.cell
    have froz_r := r_2.frozen
    have lt_r := r_2.lt
    have cell_o := o_2.cell
    have froz_o := o_2.frozen
    have lt_o := o_2.lt
    go_wp2_with fail
    refine calls_forget0 (W := w2) ?_ ?_
    (focus (exact belBy))
    intro X3 hX3
    have sX3 := hX3.size
    refine (HPC.out _).mono ?_
    rintro e w3 ⟨rfl, hb3⟩
    have s3 := hb3.size
    have hT3 := hX3.trans (hb3.mono sX3)
    have b_3 := b_2.trans (hT3.mono (by omega))
    have oj_3 := own_below oj_2 hT3
    have ot_3 := own_below ot_2 hT3
    have of__3 := own_below of__2 hT3
    have rj_3 := own_below rj_2 hT3
    have rt_3 := own_below rt_2 hT3
    have rf_3 := own_below rf_2 hT3
    have x_3 := Blk.past hT3 x_2
    have r_3 := Blk.past hT3 r_2
    have o_3 := Blk.past hT3 o_2
    clear oj_2 ot_2 of__2 rj_2 rt_2 rf_2 x_2 r_2 o_2 b_2 cell_x froz_x lt_x cell_r froz_r lt_r cell_o froz_o lt_o hX3 hT3 hb3
    have cell_x := x_3.cell
    have froz_x := x_3.frozen
    have lt_x := x_3.lt
    have cell_r := r_3.cell
    have froz_r := r_3.frozen
    have lt_r := r_3.lt
    have cell_o := o_3.cell
    have froz_o := o_3.frozen
    have lt_o := o_3.lt
    go_upto_region 4 with fail
    refine wp_touch1 (w0 := w3) (L := [w1.heap.size]) (b0 := w1.heap.size) (t0 := 40) (c0 := #[.int .i64 S.z, .int .i64 S.b, .int .i64 S.b, .slice J' S.js.length cj', .slice T' S.ts.length ct', .slice F' S.fs.length cf']) ?_ ?_ ?_
    (focus exact blkcBy)
    (focus (exact tchBy))
    intro w4 o_4 hX4
    have sX4 := hX4.size
    have b_4 := hX4.below b_3 (by first | (simp; done) | (simp; omega))
    have oj_4 := own_touch' hX4 oj_3 (fun q hq => by have h1 := oj_in q hq; (try have e0 := own_ne_obj oj_3 o_3 (by decide) q hq); simp; omega)
    have ot_4 := own_touch' hX4 ot_3 (fun q hq => by have h1 := ot_in q hq; (try have e0 := own_ne_obj ot_3 o_3 (by decide) q hq); simp; omega)
    have of__4 := own_touch' hX4 of__3 (fun q hq => by have h1 := of__in q hq; (try have e0 := own_ne_obj of__3 o_3 (by decide) q hq); simp; omega)
    have rj_4 := own_touch' hX4 rj_3 (fun q hq => by have h1 := rj_in q hq; (try have e0 := own_ne_obj rj_3 o_3 (by decide) q hq); simp; omega)
    have rt_4 := own_touch' hX4 rt_3 (fun q hq => by have h1 := rt_in q hq; (try have e0 := own_ne_obj rt_3 o_3 (by decide) q hq); simp; omega)
    have rf_4 := own_touch' hX4 rf_3 (fun q hq => by have h1 := rf_in q hq; (try have e0 := own_ne_obj rf_3 o_3 (by decide) q hq); simp; omega)
    have x_4 := Blk.touch hX4 x_3 (by first | (simp; done) | (simp; omega))
    have r_4 := Blk.touch hX4 r_3 (by first | (simp; done) | (simp; omega))
    clear oj_3 ot_3 of__3 rj_3 rt_3 rf_3 x_3 r_3 o_3 b_3 cell_x froz_x lt_x cell_r froz_r lt_r cell_o froz_o lt_o hX4
    have cell_x := x_4.cell
    have froz_x := x_4.frozen
    have lt_x := x_4.lt
    have cell_r := r_4.cell
    have froz_r := r_4.frozen
    have lt_r := r_4.lt
    have cell_o := o_4.cell
    have froz_o := o_4.frozen
    have lt_o := o_4.lt
    have HRJ := hid rj_4
    have HRT := hid rt_4
    have HRF := hid rf_4
    have HB := hid b_4
    have hXS : w.heap.size ≤ X1.heap.size := by omega
    clear rj_4 rt_4 rf_4 b_4 oj_4 ot_4 of__4
    go_wp2_with fail
    ((try simp only [Exit.inBlock, Exit.then]); apply bodyPost_ret0; focus ((try simp only [results, Tryz.results71]); (try go_simp); (try rfl)))
    refine ⟨J', cj', T', ct', F', cf', rfl, ?_, ?_, ?_, ?_⟩
    · refine own_weak (base := X1.heap.size) ?_ hXS
      have h := HRJ.out
      exact ownBy
    · refine own_weak (base := X1.heap.size) ?_ hXS
      have h := HRT.out
      exact ownBy
    · refine own_weak (base := X1.heap.size) ?_ hXS
      have h := HRF.out
      exact ownBy
    · have hb := HB.out
      exact belBy
theorem sCopyS (S : SV) (J T F : Option Addr) (cj ct cf : Nat) (w : World) (h : w.ownsRow 0 64 4 (.slice J S.js.length cj) S.js.length (ints (flatJ S.js)) ∧ w.ownsRow 0 88 2 (.slice T S.ts.length ct) S.ts.length (ints (flatT S.ts)) ∧ w.ownsRow 0 3 1 (.slice F S.fs.length cf) S.fs.length (ints S.fs)) (b1 : S.js.length ≤ 1000000000) (b2 : S.ts.length ≤ 1000000000) (b3 : S.fs.length ≤ 1000000000) :
    Calls Tryz.prog 48 #[.agg #[.int .i64 S.z, .int .i64 S.n, .int .i64 S.b, .slice J S.js.length cj, .slice T S.ts.length ct, .slice F S.fs.length cf]] w fun e w' => ∃ J' cj' T' ct' F' cf', e = .returned (.agg #[.int .i64 S.z, .int .i64 S.n, .int .i64 S.b, .slice J' S.js.length cj', .slice T' S.ts.length ct', .slice F' S.fs.length cf']) ∧
      w'.ownsRow w.heap.size 64 4 (.slice J' S.js.length cj') S.js.length (ints (flatJ S.js)) ∧ w'.ownsRow w.heap.size 88 2 (.slice T' S.ts.length ct') S.ts.length (ints (flatT S.ts)) ∧
      w'.ownsRow w.heap.size 3 1 (.slice F' S.fs.length cf') S.fs.length (ints S.fs) ∧ Below w.heap.size w w' :=
  sCopy _ _ _ _ _ _ _ _ _ _ _ _ _ _ _ w h.1 h.2.1 h.2.2 b1 b2 b3
theorem sSchedOkS (S : SV) (J T F : Option Addr) (cj ct cf : Nat) (w : World) (h : w.ownsRow 0 64 4 (.slice J S.js.length cj) S.js.length (ints (flatJ S.js)) ∧ w.ownsRow 0 88 2 (.slice T S.ts.length ct) S.ts.length (ints (flatT S.ts)) ∧ w.ownsRow 0 3 1 (.slice F S.fs.length cf) S.fs.length (ints S.fs)) (b1 : S.js.length ≤ 1000000000) (b2 : S.ts.length ≤ 1000000000) :
    Calls Tryz.prog 31 #[.agg #[.int .i64 S.z, .int .i64 S.n, .int .i64 S.b, .slice J S.js.length cj, .slice T S.ts.length ct, .slice F S.fs.length cf]] w fun e w' => e = .returned (.bool (schedOkB S)) ∧ Below w.heap.size w w' :=
  sSchedOk S J T F cj ct S.fs.length cf w (Cells.of_own h.1) (Cells.of_own h.2.1) b1 b2
set_option maxHeartbeats 1600000 in
theorem sSchedCrash (S : SV) (J T F : Option Addr) (cj ct cf : Nat) (w : World) (h : w.ownsRow 0 64 4 (.slice J S.js.length cj) S.js.length (ints (flatJ S.js)) ∧ w.ownsRow 0 88 2 (.slice T S.ts.length ct) S.ts.length (ints (flatT S.ts)) ∧ w.ownsRow 0 3 1 (.slice F S.fs.length cf) S.fs.length (ints S.fs)) (b1 : S.js.length ≤ 1000000000) (b2 : S.ts.length ≤ 1000000000) (b3 : S.fs.length ≤ 1000000000) :
    Calls Tryz.prog 53 #[.agg #[.int .i64 S.z, .int .i64 S.n, .int .i64 S.b, .slice J S.js.length cj, .slice T S.ts.length ct, .slice F S.fs.length cf]] w fun e w' => ∃ J' cj' T' ct' F' cf', e = .returned (.agg #[.int .i64 S.z, .int .i64 (pick (schedOkB S) S.b S.n), .int .i64 S.b, .slice J' S.js.length cj', .slice T' S.ts.length ct', .slice F' S.fs.length cf']) ∧
      w'.ownsRow w.heap.size 64 4 (.slice J' S.js.length cj') S.js.length (ints (flatJ S.js)) ∧ w'.ownsRow w.heap.size 88 2 (.slice T' S.ts.length ct') S.ts.length (ints (flatT S.ts)) ∧
      w'.ownsRow w.heap.size 3 1 (.slice F' S.fs.length cf') S.fs.length (ints S.fs) ∧ Below w.heap.size w w' := by
  obtain ⟨h1, h2, h3⟩ := h
  have HO := hid (sSchedOkS S)
  have HP := hid (sPoolCrash S.z S.n S.b)
  cases hk : schedOkB S
  · skip
    rw [hk] at HO
    rw [pick_no]
    clear HP
    go_enter Tryz.func53, Tryz.ntmps53
    have b_0 := (Below.refl w.heap.size w)
    have s_0 := b_0.size
    have oj_in := own_in h1
    have oj_0 := h1
    clear h1
    have ot_in := own_in h2
    have ot_0 := h2
    clear h2
    have of__in := own_in h3
    have of__0 := h3
    clear h3
    go_wp2_with fail
    refine calls_forget2 (W := w) (b0 := w.heap.size) (t0 := 40) (c0 := #[.int .i64 S.z, .int .i64 S.n, .int .i64 S.b, .slice J S.js.length cj, .slice T S.ts.length ct, .slice F S.fs.length cf]) (b1 := w.heap.size + 1) (t1 := 40) (c1 := #[.int .i64 0, .int .i64 0, .int .i64 0, .slice none 0 0, .slice none 0 0, .slice none 0 0]) ?_ ?_ ?_ ?_
    (focus exact blkcBy)
    (focus exact blkcBy)
    (focus (exact belBy))
    intro X1 x_n r_n hX1
    have sX1 := hX1.size
    have x_lt := x_n.lt
    have r_lt := r_n.lt
    refine (sCopyS S _ _ _ _ _ _ _ ⟨(own_below oj_0 hX1), (own_below ot_0 hX1), (own_below of__0 hX1)⟩ b1 b2 b3).mono ?_
    rintro e w1 ⟨J', cj', T', ct', F', cf', rfl, rj_1, rt_1, rf_1, hb1⟩
    have s1 := hb1.size
    have hT1 := hX1.trans (hb1.mono sX1)
    have b_1 := b_0.trans (hT1.mono (by omega))
    have oj_1 := own_below oj_0 hT1
    have ot_1 := own_below ot_0 hT1
    have of__1 := own_below of__0 hT1
    have x_1 := Blk.past hb1 x_n
    have r_1 := Blk.past hb1 r_n
    have rj_in := own_in rj_1
    have rt_in := own_in rt_1
    have rf_in := own_in rf_1
    clear oj_0 ot_0 of__0 b_0 x_n r_n hX1 hT1 hb1
    have cell_x := x_1.cell
    have froz_x := x_1.frozen
    have lt_x := x_1.lt
    have cell_r := r_1.cell
    have froz_r := r_1.frozen
    have lt_r := r_1.lt
    go_wp2_with fail
    refine calls_forget1 (W := w1) (b0 := w1.heap.size) (t0 := 40) (c0 := #[.int .i64 S.z, .int .i64 S.n, .int .i64 S.b, .slice J' S.js.length cj', .slice T' S.ts.length ct', .slice F' S.fs.length cf']) ?_ ?_ ?_
    (focus exact blkcBy)
    (focus (exact belBy))
    intro X2 o_n hX2
    have sX2 := hX2.size
    have o_lt := o_n.lt
    refine (HO.out _ _ _ _ _ _ _ ⟨(own_below oj_1 hX2), (own_below ot_1 hX2), (own_below of__1 hX2)⟩ b1 b2).mono ?_
    rintro e w2 ⟨rfl, hb2⟩
    have s2 := hb2.size
    have hT2 := hX2.trans (hb2.mono sX2)
    have b_2 := b_1.trans (hT2.mono (by omega))
    have oj_2 := own_below oj_1 hT2
    have ot_2 := own_below ot_1 hT2
    have of__2 := own_below of__1 hT2
    have rj_2 := own_below rj_1 hT2
    have rt_2 := own_below rt_1 hT2
    have rf_2 := own_below rf_1 hT2
    have x_2 := Blk.past hT2 x_1
    have r_2 := Blk.past hT2 r_1
    have o_2 := Blk.past hb2 o_n
    clear oj_1 ot_1 of__1 rj_1 rt_1 rf_1 x_1 r_1 b_1 cell_x froz_x lt_x cell_r froz_r lt_r o_n hX2 hT2 hb2
    have cell_x := x_2.cell
    have froz_x := x_2.frozen
    have lt_x := x_2.lt
    have cell_r := r_2.cell
    have froz_r := r_2.frozen
    have lt_r := r_2.lt
    have cell_o := o_2.cell
    have froz_o := o_2.frozen
    have lt_o := o_2.lt
    have HRJ := hid rj_2
    have HRT := hid rt_2
    have HRF := hid rf_2
    have HB := hid b_2
    have hXS : w.heap.size ≤ X1.heap.size := by omega
    clear rj_2 rt_2 rf_2 b_2 oj_2 ot_2 of__2
    go_wp2_with fail
    ((try simp only [Exit.inBlock, Exit.then]); apply bodyPost_ret0; focus ((try simp only [results, Tryz.results53]); (try go_simp); (try rfl)))
    refine ⟨J', cj', T', ct', F', cf', rfl, ?_, ?_, ?_, ?_⟩
    · refine own_weak (base := X1.heap.size) ?_ hXS
      have h := HRJ.out
      exact ownBy
    · refine own_weak (base := X1.heap.size) ?_ hXS
      have h := HRT.out
      exact ownBy
    · refine own_weak (base := X1.heap.size) ?_ hXS
      have h := HRF.out
      exact ownBy
    · have hb := HB.out
      exact belBy
  · skip
    rw [hk] at HO
    rw [pick_yes]
    have hp := HP.out
    rw [(schedOkB_iff.1 hk).1, pick_yes] at hp
    have HPC := hid hp
    clear HP hp
    go_enter Tryz.func53, Tryz.ntmps53
    have b_0 := (Below.refl w.heap.size w)
    have s_0 := b_0.size
    have oj_in := own_in h1
    have oj_0 := h1
    clear h1
    have ot_in := own_in h2
    have ot_0 := h2
    clear h2
    have of__in := own_in h3
    have of__0 := h3
    clear h3
    go_wp2_with fail
    refine calls_forget2 (W := w) (b0 := w.heap.size) (t0 := 40) (c0 := #[.int .i64 S.z, .int .i64 S.n, .int .i64 S.b, .slice J S.js.length cj, .slice T S.ts.length ct, .slice F S.fs.length cf]) (b1 := w.heap.size + 1) (t1 := 40) (c1 := #[.int .i64 0, .int .i64 0, .int .i64 0, .slice none 0 0, .slice none 0 0, .slice none 0 0]) ?_ ?_ ?_ ?_
    (focus exact blkcBy)
    (focus exact blkcBy)
    (focus (exact belBy))
    intro X1 x_n r_n hX1
    have sX1 := hX1.size
    have x_lt := x_n.lt
    have r_lt := r_n.lt
    refine (sCopyS S _ _ _ _ _ _ _ ⟨(own_below oj_0 hX1), (own_below ot_0 hX1), (own_below of__0 hX1)⟩ b1 b2 b3).mono ?_
    rintro e w1 ⟨J', cj', T', ct', F', cf', rfl, rj_1, rt_1, rf_1, hb1⟩
    have s1 := hb1.size
    have hT1 := hX1.trans (hb1.mono sX1)
    have b_1 := b_0.trans (hT1.mono (by omega))
    have oj_1 := own_below oj_0 hT1
    have ot_1 := own_below ot_0 hT1
    have of__1 := own_below of__0 hT1
    have x_1 := Blk.past hb1 x_n
    have r_1 := Blk.past hb1 r_n
    have rj_in := own_in rj_1
    have rt_in := own_in rt_1
    have rf_in := own_in rf_1
    clear oj_0 ot_0 of__0 b_0 x_n r_n hX1 hT1 hb1
    have cell_x := x_1.cell
    have froz_x := x_1.frozen
    have lt_x := x_1.lt
    have cell_r := r_1.cell
    have froz_r := r_1.frozen
    have lt_r := r_1.lt
    go_wp2_with fail
    refine calls_forget1 (W := w1) (b0 := w1.heap.size) (t0 := 40) (c0 := #[.int .i64 S.z, .int .i64 S.n, .int .i64 S.b, .slice J' S.js.length cj', .slice T' S.ts.length ct', .slice F' S.fs.length cf']) ?_ ?_ ?_
    (focus exact blkcBy)
    (focus (exact belBy))
    intro X2 o_n hX2
    have sX2 := hX2.size
    have o_lt := o_n.lt
    refine (HO.out _ _ _ _ _ _ _ ⟨(own_below oj_1 hX2), (own_below ot_1 hX2), (own_below of__1 hX2)⟩ b1 b2).mono ?_
    rintro e w2 ⟨rfl, hb2⟩
    have s2 := hb2.size
    have hT2 := hX2.trans (hb2.mono sX2)
    have b_2 := b_1.trans (hT2.mono (by omega))
    have oj_2 := own_below oj_1 hT2
    have ot_2 := own_below ot_1 hT2
    have of__2 := own_below of__1 hT2
    have rj_2 := own_below rj_1 hT2
    have rt_2 := own_below rt_1 hT2
    have rf_2 := own_below rf_1 hT2
    have x_2 := Blk.past hT2 x_1
    have r_2 := Blk.past hT2 r_1
    have o_2 := Blk.past hb2 o_n
    clear oj_1 ot_1 of__1 rj_1 rt_1 rf_1 x_1 r_1 b_1 cell_x froz_x lt_x cell_r froz_r lt_r o_n hX2 hT2 hb2
    have cell_x := x_2.cell
    have froz_x := x_2.frozen
    have lt_x := x_2.lt
    have cell_r := r_2.cell
    have froz_r := r_2.frozen
    have lt_r := r_2.lt
    have cell_o := o_2.cell
    have froz_o := o_2.frozen
    have lt_o := o_2.lt
    go_wp2_with fail
    refine calls_forget0 (W := w2) ?_ ?_
    (focus (exact belBy))
    intro X3 hX3
    have sX3 := hX3.size
    refine (HPC.out _).mono ?_
    rintro e w3 ⟨rfl, hb3⟩
    have s3 := hb3.size
    have hT3 := hX3.trans (hb3.mono sX3)
    have b_3 := b_2.trans (hT3.mono (by omega))
    have oj_3 := own_below oj_2 hT3
    have ot_3 := own_below ot_2 hT3
    have of__3 := own_below of__2 hT3
    have rj_3 := own_below rj_2 hT3
    have rt_3 := own_below rt_2 hT3
    have rf_3 := own_below rf_2 hT3
    have x_3 := Blk.past hT3 x_2
    have r_3 := Blk.past hT3 r_2
    have o_3 := Blk.past hT3 o_2
    clear oj_2 ot_2 of__2 rj_2 rt_2 rf_2 x_2 r_2 o_2 b_2 cell_x froz_x lt_x cell_r froz_r lt_r cell_o froz_o lt_o hX3 hT3 hb3
    have cell_x := x_3.cell
    have froz_x := x_3.frozen
    have lt_x := x_3.lt
    have cell_r := r_3.cell
    have froz_r := r_3.frozen
    have lt_r := r_3.lt
    have cell_o := o_3.cell
    have froz_o := o_3.frozen
    have lt_o := o_3.lt
    go_upto_region 4 with fail
    refine wp_touch1 (w0 := w3) (L := [w1.heap.size]) (b0 := w1.heap.size) (t0 := 40) (c0 := #[.int .i64 S.z, .int .i64 S.b, .int .i64 S.b, .slice J' S.js.length cj', .slice T' S.ts.length ct', .slice F' S.fs.length cf']) ?_ ?_ ?_
    (focus exact blkcBy)
    (focus (exact tchBy))
    intro w4 o_4 hX4
    have sX4 := hX4.size
    have b_4 := hX4.below b_3 (by first | (simp; done) | (simp; omega))
    have oj_4 := own_touch' hX4 oj_3 (fun q hq => by have h1 := oj_in q hq; (try have e0 := own_ne_obj oj_3 o_3 (by decide) q hq); simp; omega)
    have ot_4 := own_touch' hX4 ot_3 (fun q hq => by have h1 := ot_in q hq; (try have e0 := own_ne_obj ot_3 o_3 (by decide) q hq); simp; omega)
    have of__4 := own_touch' hX4 of__3 (fun q hq => by have h1 := of__in q hq; (try have e0 := own_ne_obj of__3 o_3 (by decide) q hq); simp; omega)
    have rj_4 := own_touch' hX4 rj_3 (fun q hq => by have h1 := rj_in q hq; (try have e0 := own_ne_obj rj_3 o_3 (by decide) q hq); simp; omega)
    have rt_4 := own_touch' hX4 rt_3 (fun q hq => by have h1 := rt_in q hq; (try have e0 := own_ne_obj rt_3 o_3 (by decide) q hq); simp; omega)
    have rf_4 := own_touch' hX4 rf_3 (fun q hq => by have h1 := rf_in q hq; (try have e0 := own_ne_obj rf_3 o_3 (by decide) q hq); simp; omega)
    have x_4 := Blk.touch hX4 x_3 (by first | (simp; done) | (simp; omega))
    have r_4 := Blk.touch hX4 r_3 (by first | (simp; done) | (simp; omega))
    clear oj_3 ot_3 of__3 rj_3 rt_3 rf_3 x_3 r_3 o_3 b_3 cell_x froz_x lt_x cell_r froz_r lt_r cell_o froz_o lt_o hX4
    have cell_x := x_4.cell
    have froz_x := x_4.frozen
    have lt_x := x_4.lt
    have cell_r := r_4.cell
    have froz_r := r_4.frozen
    have lt_r := r_4.lt
    have cell_o := o_4.cell
    have froz_o := o_4.frozen
    have lt_o := o_4.lt
    have HRJ := hid rj_4
    have HRT := hid rt_4
    have HRF := hid rf_4
    have HB := hid b_4
    have hXS : w.heap.size ≤ X1.heap.size := by omega
    clear rj_4 rt_4 rf_4 b_4 oj_4 ot_4 of__4
    go_wp2_with fail
    ((try simp only [Exit.inBlock, Exit.then]); apply bodyPost_ret0; focus ((try simp only [results, Tryz.results53]); (try go_simp); (try rfl)))
    refine ⟨J', cj', T', ct', F', cf', rfl, ?_, ?_, ?_, ?_⟩
    · refine own_weak (base := X1.heap.size) ?_ hXS
      have h := HRJ.out
      exact ownBy
    · refine own_weak (base := X1.heap.size) ?_ hXS
      have h := HRT.out
      exact ownBy
    · refine own_weak (base := X1.heap.size) ?_ hXS
      have h := HRF.out
      exact ownBy
    · have hb := HB.out
      exact belBy
theorem lenSchedCrash (S : SV) : (crashS S).js.length ≤ S.js.length ∧ (crashS S).ts.length ≤ S.ts.length ∧ (crashS S).fs.length ≤ S.fs.length := by
  unfold crashS
  split <;> exact ⟨Nat.le_refl _, Nat.le_refl _, Nat.le_refl _⟩
theorem iSchedCrashL (S : SV) (J T F : Option Addr) (cj ct cf : Nat) (w : World) (h : w.ownsRow 0 64 4 (.slice J S.js.length cj) S.js.length (ints (flatJ S.js)) ∧ w.ownsRow 0 88 2 (.slice T S.ts.length ct) S.ts.length (ints (flatT S.ts)) ∧ w.ownsRow 0 3 1 (.slice F S.fs.length cf) S.fs.length (ints S.fs)) (b1 : S.js.length ≤ 1000000000) (b2 : S.ts.length ≤ 1000000000) (b3 : S.fs.length ≤ 1000000000) :
    Calls Tryz.prog 71 #[.agg #[.int .i64 S.z, .int .i64 S.n, .int .i64 S.b, .slice J S.js.length cj, .slice T S.ts.length ct, .slice F S.fs.length cf]] w fun e w' => ∃ J' cj' T' ct' F' cf', e = .returned (.agg #[.int .i64 ((crashS S).z), .int .i64 ((crashS S).n), .int .i64 ((crashS S).b), .slice J' ((crashS S).js.length) cj', .slice T' ((crashS S).ts.length) ct', .slice F' ((crashS S).fs.length) cf']) ∧
      w'.ownsRow w.heap.size 64 4 (.slice J' ((crashS S).js).length cj') ((crashS S).js).length (ints (flatJ ((crashS S).js))) ∧ w'.ownsRow w.heap.size 88 2 (.slice T' ((crashS S).ts).length ct') ((crashS S).ts).length (ints (flatT ((crashS S).ts))) ∧ w'.ownsRow w.heap.size 3 1 (.slice F' ((crashS S).fs).length cf') ((crashS S).fs).length (ints ((crashS S).fs)) ∧ Below w.heap.size w w' := by
  refine (iSchedCrash S J T F cj ct cf w h b1 b2 b3).mono ?_
  rintro e w' ⟨J', cj', T', ct', F', cf', rfl, h1, h2, h3, h4⟩
  unfold crashS
  cases schedOkB S
  · exact ⟨J', cj', T', ct', F', cf', rfl, h1, h2, h3, h4⟩
  · exact ⟨J', cj', T', ct', F', cf', rfl, h1, h2, h3, h4⟩
theorem sSchedCrashL (S : SV) (J T F : Option Addr) (cj ct cf : Nat) (w : World) (h : w.ownsRow 0 64 4 (.slice J S.js.length cj) S.js.length (ints (flatJ S.js)) ∧ w.ownsRow 0 88 2 (.slice T S.ts.length ct) S.ts.length (ints (flatT S.ts)) ∧ w.ownsRow 0 3 1 (.slice F S.fs.length cf) S.fs.length (ints S.fs)) (b1 : S.js.length ≤ 1000000000) (b2 : S.ts.length ≤ 1000000000) (b3 : S.fs.length ≤ 1000000000) :
    Calls Tryz.prog 53 #[.agg #[.int .i64 S.z, .int .i64 S.n, .int .i64 S.b, .slice J S.js.length cj, .slice T S.ts.length ct, .slice F S.fs.length cf]] w fun e w' => ∃ J' cj' T' ct' F' cf', e = .returned (.agg #[.int .i64 ((crashS S).z), .int .i64 ((crashS S).n), .int .i64 ((crashS S).b), .slice J' ((crashS S).js.length) cj', .slice T' ((crashS S).ts.length) ct', .slice F' ((crashS S).fs.length) cf']) ∧
      w'.ownsRow w.heap.size 64 4 (.slice J' ((crashS S).js).length cj') ((crashS S).js).length (ints (flatJ ((crashS S).js))) ∧ w'.ownsRow w.heap.size 88 2 (.slice T' ((crashS S).ts).length ct') ((crashS S).ts).length (ints (flatT ((crashS S).ts))) ∧ w'.ownsRow w.heap.size 3 1 (.slice F' ((crashS S).fs).length cf') ((crashS S).fs).length (ints ((crashS S).fs)) ∧ Below w.heap.size w w' := by
  refine (sSchedCrash S J T F cj ct cf w h b1 b2 b3).mono ?_
  rintro e w' ⟨J', cj', T', ct', F', cf', rfl, h1, h2, h3, h4⟩
  unfold crashS
  cases schedOkB S
  · exact ⟨J', cj', T', ct', F', cf', rfl, h1, h2, h3, h4⟩
  · exact ⟨J', cj', T', ct', F', cf', rfl, h1, h2, h3, h4⟩
end Go.Proofs.YtjknadnknainbaaGreatDoor
