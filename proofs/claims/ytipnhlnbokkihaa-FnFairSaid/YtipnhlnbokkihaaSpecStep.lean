/- SchedStep of the reference. -/
import Derived.Test.YtipnhlnbokkihaaStepI0
import Derived.Test.YtipnhlnbokkihaaStepS
namespace Go.Proofs.Ytipnhlnbokkihaa
open Go.RowKit

set_option maxRecDepth 100000 in
set_option maxHeartbeats 6400000 in
theorem sStepNo (S : SV) (hno : stepB S = false) (J T F : Option Addr) (cj tcp cf : Nat) (w : World) (h : w.ownsRow 0 38 4 (.slice J S.js.length cj) S.js.length (ints (flatJ S.js)) ∧ w.ownsRow 0 55 2 (.slice T S.ts.length tcp) S.ts.length (ints (flatT S.ts)) ∧ w.ownsRow 0 3 1 (.slice F S.fs.length cf) S.fs.length (ints S.fs)) (b1 : S.js.length ≤ 100000000) (b2 : S.ts.length ≤ 100000000) (b3 : S.fs.length ≤ 100000000) :
    Calls Try.prog 32 #[.agg #[.int .i64 S.z, .int .i64 S.n, .int .i64 S.b, .slice J S.js.length cj, .slice T S.ts.length tcp, .slice F S.fs.length cf]] w fun e w' => ∃ J' cj' T' tcp' F' cf', e = .returned (.tuple #[.agg #[.int .i64 S.z, .int .i64 S.n, .int .i64 S.b, .slice J' S.js.length cj', .slice T' S.ts.length tcp', .slice F' S.fs.length cf'], .int .i64 0, .bool false]) ∧
      w'.ownsRow w.heap.size 38 4 (.slice J' S.js.length cj') S.js.length (ints (flatJ S.js)) ∧ w'.ownsRow w.heap.size 55 2 (.slice T' S.ts.length tcp') S.ts.length (ints (flatT S.ts)) ∧ w'.ownsRow w.heap.size 3 1 (.slice F' S.fs.length cf') S.fs.length (ints S.fs) ∧ Below w.heap.size w w' := by
  obtain ⟨h1, h2, h3⟩ := h
  have HO := hid (sSchedOkS S)
  have hway : schedOkB S = false ∨ (schedOkB S = true ∧ ((S.js.length : Int) == 0) = true) ∨ (schedOkB S = true ∧ ((S.js.length : Int) == 0) = false ∧ decide ((1000 : Int) ≤ (S.ts.length : Int)) = true) := by
    unfold stepB at hno
    cases hk : schedOkB S
    · exact Or.inl rfl
    · rw [hk, Bool.true_and] at hno
      by_cases h0 : S.js.length = 0
      · exact Or.inr (Or.inl ⟨rfl, by rw [beq_iff_eq]; omega⟩)
      · rw [decide_eq_true (by omega), Bool.true_and, decide_eq_false_iff_not] at hno
        exact Or.inr (Or.inr ⟨rfl, by rw [beq_eq_false_iff_ne]; omega, by rw [decide_eq_true_iff]; omega⟩)
  clear hno
  obtain ⟨nj, hnj⟩ : ∃ n, S.js.length = n := ⟨_, rfl⟩
  obtain ⟨nt, hnt⟩ : ∃ n, S.ts.length = n := ⟨_, rfl⟩
  obtain ⟨nf, hnf⟩ : ∃ n, S.fs.length = n := ⟨_, rfl⟩
  have HCC := hid (fun J T F cj ct cf w h b1 b2 b3 => sCopyS S J T F cj ct cf w h b1 b2 b3)
  rw [hnj, hnt] at hway
  rw [hnj, hnt, hnf] at HCC
  rw [hnj, hnt, hnf] at HO
  rw [hnj] at b1 h1
  rw [hnt] at b2 h2
  rw [hnf] at b3 h3
  rw [hnj, hnt, hnf]
  clear hnj hnt hnf
  rcases hway with hk | ⟨hk, h0⟩ | ⟨hk, h0, ht⟩
  all_goals
    rw [hk] at HO
    go_enter Try.func32, Try.ntmps32
    have b_0 := (Below.refl w.heap.size w)
    have s_0 := b_0.size
    have oj_in := own_in h1
    have oj_0 := h1
    clear h1
    have ot_in := own_in h2
    have ot_0 := h2
    clear h2
    have of__in := own_in h3
    have of__0 := h3
    clear h3
    go_wp2_with fail
    refine calls_forget2 (W := w) (b0 := w.heap.size) (t0 := 31) (c0 := #[.int .i64 S.z, .int .i64 S.n, .int .i64 S.b, .slice J nj cj, .slice T nt tcp, .slice F nf cf]) (b1 := w.heap.size + 1) (t1 := 31) (c1 := #[.int .i64 0, .int .i64 0, .int .i64 0, .slice none 0 0, .slice none 0 0, .slice none 0 0]) ?_ ?_ ?_ ?_
    (focus (first | ((repeat (first | (with_reducible assumption) | (with_reducible apply Blk.drew) | (with_reducible apply Blk.drewN) | (with_reducible apply Blk.new; first | rfl | (simp; done)) | (with_reducible apply Blk.alloc) | (with_reducible apply Blk.set_) | (with_reducible apply Blk.past; focus assumption) | (with_reducible apply Blk.far; focus (first | (simp; done) | (simp; omega) | (dsimp only; omega))))); done) | (apply Blk.cast; (case h => (repeat (first | (with_reducible assumption) | (with_reducible apply Blk.drew) | (with_reducible apply Blk.drewN) | (with_reducible apply Blk.new; first | rfl | (simp; done)) | (with_reducible apply Blk.alloc) | (with_reducible apply Blk.set_) | (with_reducible apply Blk.past; focus assumption) | (with_reducible apply Blk.far; focus (first | (simp; done) | (simp; omega) | (dsimp only; omega)))))); (case e => rfl))))
    (focus (first | ((repeat (first | (with_reducible assumption) | (with_reducible apply Blk.drew) | (with_reducible apply Blk.drewN) | (with_reducible apply Blk.new; first | rfl | (simp; done)) | (with_reducible apply Blk.alloc) | (with_reducible apply Blk.set_) | (with_reducible apply Blk.past; focus assumption) | (with_reducible apply Blk.far; focus (first | (simp; done) | (simp; omega) | (dsimp only; omega))))); done) | (apply Blk.cast; (case h => (repeat (first | (with_reducible assumption) | (with_reducible apply Blk.drew) | (with_reducible apply Blk.drewN) | (with_reducible apply Blk.new; first | rfl | (simp; done)) | (with_reducible apply Blk.alloc) | (with_reducible apply Blk.set_) | (with_reducible apply Blk.past; focus assumption) | (with_reducible apply Blk.far; focus (first | (simp; done) | (simp; omega) | (dsimp only; omega)))))); (case e => rfl))))
    (focus (repeat (first | (with_reducible exact Below.refl _ _) | (with_reducible refine Below.trans ?_ (Below.mono (by assumption) (by first | omega | (simp; done) | (simp; omega) | (simp [*]; done)))) | (with_reducible refine Below.alloc ?_ (by first | omega | (simp; done) | (simp; omega) | (simp [*]; done)) _) | (with_reducible refine Below.setCell ?_ (by first | omega | (simp; done) | (simp; omega) | (simp [*]; done)) _) | (with_reducible refine Below.drew ?_) | (with_reducible refine below_drewN ?_))))
    intro X1 x_n r_n hX1
    have sX1 := hX1.size
    have x_lt := x_n.lt
    have r_lt := r_n.lt
    refine (HCC.out _ _ _ _ _ _ _ ⟨(own_below oj_0 hX1), (own_below ot_0 hX1), (own_below of__0 hX1)⟩ (by omega) (by omega) (by omega)).mono ?_
    rintro e w1 ⟨J', cj', T', tcp', F', cf', rfl, rj_1, rt_1, rf_1, hb1⟩
    have s1 := hb1.size
    have hT1 := hX1.trans (hb1.mono sX1)
    have b_1 := b_0.trans (hT1.mono (by omega))
    have oj_1 := own_below oj_0 hT1
    have ot_1 := own_below ot_0 hT1
    have of__1 := own_below of__0 hT1
    have x_1 := Blk.past hb1 x_n
    have r_1 := Blk.past hb1 r_n
    have rj_in := own_in rj_1
    have rt_in := own_in rt_1
    have rf_in := own_in rf_1
    clear oj_0 ot_0 of__0 b_0 x_n r_n hX1 hT1 hb1
    have cell_x := x_1.cell
    have froz_x := x_1.frozen
    have lt_x := x_1.lt
    have cell_r := r_1.cell
    have froz_r := r_1.frozen
    have lt_r := r_1.lt
    go_wp2_with fail
    refine calls_forget1 (W := w1) (b0 := w1.heap.size) (t0 := 31) (c0 := #[.int .i64 S.z, .int .i64 S.n, .int .i64 S.b, .slice J' nj cj', .slice T' nt tcp', .slice F' nf cf']) ?_ ?_ ?_
    (focus (first | ((repeat (first | (with_reducible assumption) | (with_reducible apply Blk.drew) | (with_reducible apply Blk.drewN) | (with_reducible apply Blk.new; first | rfl | (simp; done)) | (with_reducible apply Blk.alloc) | (with_reducible apply Blk.set_) | (with_reducible apply Blk.past; focus assumption) | (with_reducible apply Blk.far; focus (first | (simp; done) | (simp; omega) | (dsimp only; omega))))); done) | (apply Blk.cast; (case h => (repeat (first | (with_reducible assumption) | (with_reducible apply Blk.drew) | (with_reducible apply Blk.drewN) | (with_reducible apply Blk.new; first | rfl | (simp; done)) | (with_reducible apply Blk.alloc) | (with_reducible apply Blk.set_) | (with_reducible apply Blk.past; focus assumption) | (with_reducible apply Blk.far; focus (first | (simp; done) | (simp; omega) | (dsimp only; omega)))))); (case e => rfl))))
    (focus (repeat (first | (with_reducible exact Below.refl _ _) | (with_reducible refine Below.trans ?_ (Below.mono (by assumption) (by first | omega | (simp; done) | (simp; omega) | (simp [*]; done)))) | (with_reducible refine Below.alloc ?_ (by first | omega | (simp; done) | (simp; omega) | (simp [*]; done)) _) | (with_reducible refine Below.setCell ?_ (by first | omega | (simp; done) | (simp; omega) | (simp [*]; done)) _) | (with_reducible refine Below.drew ?_) | (with_reducible refine below_drewN ?_))))
    intro X2 o_n hX2
    have sX2 := hX2.size
    have o_lt := o_n.lt
    refine (HO.out _ _ _ _ _ _ _ ⟨(own_below oj_1 hX2), (own_below ot_1 hX2), (own_below of__1 hX2)⟩ (by omega) (by omega)).mono ?_
    rintro e w2 ⟨rfl, hb2⟩
    have s2 := hb2.size
    have hT2 := hX2.trans (hb2.mono sX2)
    have b_2 := b_1.trans (hT2.mono (by omega))
    have oj_2 := own_below oj_1 hT2
    have ot_2 := own_below ot_1 hT2
    have of__2 := own_below of__1 hT2
    have rj_2 := own_below rj_1 hT2
    have rt_2 := own_below rt_1 hT2
    have rf_2 := own_below rf_1 hT2
    have x_2 := Blk.past hT2 x_1
    have r_2 := Blk.past hT2 r_1
    have o_2 := Blk.past hb2 o_n
    clear oj_1 ot_1 of__1 rj_1 rt_1 rf_1 x_1 r_1 b_1 cell_x froz_x lt_x cell_r froz_r lt_r o_n hX2 hT2 hb2
    have cell_x := x_2.cell
    have froz_x := x_2.frozen
    have lt_x := x_2.lt
    have cell_r := r_2.cell
    have froz_r := r_2.frozen
    have lt_r := r_2.lt
    have cell_o := o_2.cell
    have froz_o := o_2.frozen
    have lt_o := o_2.lt
    have HRJ := hid rj_2
    have HRT := hid rt_2
    have HRF := hid rf_2
    have HB := hid b_2
    have hXS : w.heap.size ≤ X1.heap.size := by omega
    clear rj_2 rt_2 rf_2 b_2 oj_2 ot_2 of__2
    go_wp2_with fail
    ((try simp only [Exit.inBlock, Exit.then]); apply bodyPost_ret0; focus ((try simp only [results, Try.results32]); (try go_simp); (try rfl)))
    refine ⟨J', cj', T', tcp', F', cf', rfl, ?_, ?_, ?_, ?_⟩
    · refine own_weak (base := X1.heap.size) ?_ hXS
      have h := HRJ.out
      repeat (first | (with_reducible assumption) | (with_reducible apply World.ownsRow.drew) | (with_reducible apply own_drewN) | (with_reducible apply World.ownsRow.alloc) | (with_reducible refine own_set ?_ _ _ (by first | omega | (simp; omega) | (dsimp only; omega))))
    · refine own_weak (base := X1.heap.size) ?_ hXS
      have h := HRT.out
      repeat (first | (with_reducible assumption) | (with_reducible apply World.ownsRow.drew) | (with_reducible apply own_drewN) | (with_reducible apply World.ownsRow.alloc) | (with_reducible refine own_set ?_ _ _ (by first | omega | (simp; omega) | (dsimp only; omega))))
    · refine own_weak (base := X1.heap.size) ?_ hXS
      have h := HRF.out
      repeat (first | (with_reducible assumption) | (with_reducible apply World.ownsRow.drew) | (with_reducible apply own_drewN) | (with_reducible apply World.ownsRow.alloc) | (with_reducible refine own_set ?_ _ _ (by first | omega | (simp; omega) | (dsimp only; omega))))
    · have hb := HB.out
      repeat (first | (with_reducible exact Below.refl _ _) | (with_reducible refine Below.trans ?_ (Below.mono (by assumption) (by first | omega | (simp; done) | (simp; omega) | (simp [*]; done)))) | (with_reducible refine Below.alloc ?_ (by first | omega | (simp; done) | (simp; omega) | (simp [*]; done)) _) | (with_reducible refine Below.setCell ?_ (by first | omega | (simp; done) | (simp; omega) | (simp [*]; done)) _) | (with_reducible refine Below.drew ?_) | (with_reducible refine below_drewN ?_))
theorem below_ghost {w X w2 w3 : World} (h3 : Below X.heap.size X w3) (h2 : Below X.heap.size X w2) (hb : Below w.heap.size w w2) (hX : w.heap.size ≤ X.heap.size) : Below w.heap.size w w3 :=
  ⟨h3.os.trans (h2.os.symm.trans hb.os), h3.tape.trans (h2.tape.symm.trans hb.tape), h3.output.trans (h2.output.symm.trans hb.output), Nat.le_trans hX h3.size, fun i hi => (h3.block i (by omega)).trans ((h2.block i (by omega)).symm.trans (hb.block i hi))⟩
theorem blk_ghost {X w2 w3 : World} {b t : Nat} {cs : Array Value} (h3 : Below X.heap.size X w3) (h2 : Below X.heap.size X w2) (hb : b < X.heap.size) (k : Blk w2 b t cs) : Blk w3 b t cs := (h3.block b hb).trans ((h2.block b hb).symm.trans k)
set_option maxRecDepth 100000 in
set_option maxHeartbeats 6400000 in
theorem sStepYes (S : SV) (hyes : stepB S = true) (J T F : Option Addr) (cj tcp cf : Nat) (w : World) (h : w.ownsRow 0 38 4 (.slice J S.js.length cj) S.js.length (ints (flatJ S.js)) ∧ w.ownsRow 0 55 2 (.slice T S.ts.length tcp) S.ts.length (ints (flatT S.ts)) ∧ w.ownsRow 0 3 1 (.slice F S.fs.length cf) S.fs.length (ints S.fs)) (b3 : S.fs.length ≤ 100000000) :
    Calls Try.prog 32 #[.agg #[.int .i64 S.z, .int .i64 S.n, .int .i64 S.b, .slice J S.js.length cj, .slice T S.ts.length tcp, .slice F S.fs.length cf]] w fun e w' => ∃ J' cj' T' tcp' F' cf', e = .returned (.tuple #[.agg #[.int .i64 ((stepS S).z), .int .i64 ((stepS S).n), .int .i64 ((stepS S).b), .slice J' ((stepS S).js.length) cj', .slice T' ((stepS S).ts.length) tcp', .slice F' ((stepS S).fs.length) cf'], .int .i64 (job S).i, .bool true]) ∧
      w'.ownsRow w.heap.size 38 4 (.slice J' ((stepS S).js).length cj') ((stepS S).js).length (ints (flatJ ((stepS S).js))) ∧ w'.ownsRow w.heap.size 55 2 (.slice T' ((stepS S).ts).length tcp') ((stepS S).ts).length (ints (flatT ((stepS S).ts))) ∧ w'.ownsRow w.heap.size 3 1 (.slice F' ((stepS S).fs).length cf') ((stepS S).fs).length (ints ((stepS S).fs)) ∧ Below w.heap.size w w' := by
  obtain ⟨hS, hj0, ht0⟩ := stepB_parts hyes
  obtain ⟨h1, h2, h3⟩ := h
  have HO := hid (sSchedOkS S)
  rw [schedOkB_iff.2 hS] at HO
  have hn16 : S.js.length ≤ 16 := hS.2.1
  have hq1 : ((S.js.length : Int) == 0) = false := by rw [beq_eq_false_iff_ne]; omega
  have hq2 : decide ((1000 : Int) ≤ (S.ts.length : Int)) = false := by rw [decide_eq_false_iff_not]; omega
  have hl := stepS_len S
  have HS := hid hS
  clear hS hyes
  go_enter Try.func32, Try.ntmps32
  have b_0 := (Below.refl w.heap.size w)
  have s_0 := b_0.size
  have oj_in := own_in h1
  have oj_0 := h1
  clear h1
  have ot_in := own_in h2
  have ot_0 := h2
  clear h2
  have of__in := own_in h3
  have of__0 := h3
  clear h3
  go_wp2_with fail
  refine calls_forget2 (W := w) (b0 := w.heap.size) (t0 := 31) (c0 := #[.int .i64 S.z, .int .i64 S.n, .int .i64 S.b, .slice J S.js.length cj, .slice T S.ts.length tcp, .slice F S.fs.length cf]) (b1 := w.heap.size + 1) (t1 := 31) (c1 := #[.int .i64 0, .int .i64 0, .int .i64 0, .slice none 0 0, .slice none 0 0, .slice none 0 0]) ?_ ?_ ?_ ?_
  (focus (first | ((repeat (first | (with_reducible assumption) | (with_reducible apply Blk.drew) | (with_reducible apply Blk.drewN) | (with_reducible apply Blk.new; first | rfl | (simp; done)) | (with_reducible apply Blk.alloc) | (with_reducible apply Blk.set_) | (with_reducible apply Blk.past; focus assumption) | (with_reducible apply Blk.far; focus (first | (simp; done) | (simp; omega) | (dsimp only; omega))))); done) | (apply Blk.cast; (case h => (repeat (first | (with_reducible assumption) | (with_reducible apply Blk.drew) | (with_reducible apply Blk.drewN) | (with_reducible apply Blk.new; first | rfl | (simp; done)) | (with_reducible apply Blk.alloc) | (with_reducible apply Blk.set_) | (with_reducible apply Blk.past; focus assumption) | (with_reducible apply Blk.far; focus (first | (simp; done) | (simp; omega) | (dsimp only; omega)))))); (case e => rfl))))
  (focus (first | ((repeat (first | (with_reducible assumption) | (with_reducible apply Blk.drew) | (with_reducible apply Blk.drewN) | (with_reducible apply Blk.new; first | rfl | (simp; done)) | (with_reducible apply Blk.alloc) | (with_reducible apply Blk.set_) | (with_reducible apply Blk.past; focus assumption) | (with_reducible apply Blk.far; focus (first | (simp; done) | (simp; omega) | (dsimp only; omega))))); done) | (apply Blk.cast; (case h => (repeat (first | (with_reducible assumption) | (with_reducible apply Blk.drew) | (with_reducible apply Blk.drewN) | (with_reducible apply Blk.new; first | rfl | (simp; done)) | (with_reducible apply Blk.alloc) | (with_reducible apply Blk.set_) | (with_reducible apply Blk.past; focus assumption) | (with_reducible apply Blk.far; focus (first | (simp; done) | (simp; omega) | (dsimp only; omega)))))); (case e => rfl))))
  (focus (repeat (first | (with_reducible exact Below.refl _ _) | (with_reducible refine Below.trans ?_ (Below.mono (by assumption) (by first | omega | (simp; done) | (simp; omega) | (simp [*]; done)))) | (with_reducible refine Below.alloc ?_ (by first | omega | (simp; done) | (simp; omega) | (simp [*]; done)) _) | (with_reducible refine Below.setCell ?_ (by first | omega | (simp; done) | (simp; omega) | (simp [*]; done)) _) | (with_reducible refine Below.drew ?_) | (with_reducible refine below_drewN ?_))))
  intro X1 x_n r_n hX1
  have sX1 := hX1.size
  have x_lt := x_n.lt
  have r_lt := r_n.lt
  refine (sCopyS S _ _ _ _ _ _ _ ⟨(own_below oj_0 hX1), (own_below ot_0 hX1), (own_below of__0 hX1)⟩ (by omega) (by omega) (by omega)).mono ?_
  rintro e w1 ⟨J', cj', T', tcp', F', cf', rfl, rj_1, rt_1, rf_1, hb1⟩
  have s1 := hb1.size
  have hT1 := hX1.trans (hb1.mono sX1)
  have b_1 := b_0.trans (hT1.mono (by omega))
  have oj_1 := own_below oj_0 hT1
  have ot_1 := own_below ot_0 hT1
  have of__1 := own_below of__0 hT1
  have x_1 := Blk.past hb1 x_n
  have r_1 := Blk.past hb1 r_n
  have rj_in := own_in rj_1
  have rt_in := own_in rt_1
  have rf_in := own_in rf_1
  have gh_1 := hb1
  clear oj_0 ot_0 of__0 b_0 x_n r_n hX1 hT1 hb1
  have cell_x := x_1.cell
  have froz_x := x_1.frozen
  have lt_x := x_1.lt
  have cell_r := r_1.cell
  have froz_r := r_1.frozen
  have lt_r := r_1.lt
  go_wp2_with fail
  refine calls_forget1 (W := w1) (b0 := w1.heap.size) (t0 := 31) (c0 := #[.int .i64 S.z, .int .i64 S.n, .int .i64 S.b, .slice J' S.js.length cj', .slice T' S.ts.length tcp', .slice F' S.fs.length cf']) ?_ ?_ ?_
  (focus (first | ((repeat (first | (with_reducible assumption) | (with_reducible apply Blk.drew) | (with_reducible apply Blk.drewN) | (with_reducible apply Blk.new; first | rfl | (simp; done)) | (with_reducible apply Blk.alloc) | (with_reducible apply Blk.set_) | (with_reducible apply Blk.past; focus assumption) | (with_reducible apply Blk.far; focus (first | (simp; done) | (simp; omega) | (dsimp only; omega))))); done) | (apply Blk.cast; (case h => (repeat (first | (with_reducible assumption) | (with_reducible apply Blk.drew) | (with_reducible apply Blk.drewN) | (with_reducible apply Blk.new; first | rfl | (simp; done)) | (with_reducible apply Blk.alloc) | (with_reducible apply Blk.set_) | (with_reducible apply Blk.past; focus assumption) | (with_reducible apply Blk.far; focus (first | (simp; done) | (simp; omega) | (dsimp only; omega)))))); (case e => rfl))))
  (focus (repeat (first | (with_reducible exact Below.refl _ _) | (with_reducible refine Below.trans ?_ (Below.mono (by assumption) (by first | omega | (simp; done) | (simp; omega) | (simp [*]; done)))) | (with_reducible refine Below.alloc ?_ (by first | omega | (simp; done) | (simp; omega) | (simp [*]; done)) _) | (with_reducible refine Below.setCell ?_ (by first | omega | (simp; done) | (simp; omega) | (simp [*]; done)) _) | (with_reducible refine Below.drew ?_) | (with_reducible refine below_drewN ?_))))
  intro X2 o_n hX2
  have sX2 := hX2.size
  have o_lt := o_n.lt
  refine (HO.out _ _ _ _ _ _ _ ⟨(own_below oj_1 hX2), (own_below ot_1 hX2), (own_below of__1 hX2)⟩ (by omega) (by omega)).mono ?_
  rintro e w2 ⟨rfl, hb2⟩
  have s2 := hb2.size
  have hT2 := hX2.trans (hb2.mono sX2)
  have b_2 := b_1.trans (hT2.mono (by omega))
  have gh_2 := gh_1.trans (hT2.mono (by omega))
  have oj_2 := own_below oj_1 hT2
  have ot_2 := own_below ot_1 hT2
  have of__2 := own_below of__1 hT2
  have rj_2 := own_below rj_1 hT2
  have rt_2 := own_below rt_1 hT2
  have rf_2 := own_below rf_1 hT2
  have x_2 := Blk.past hT2 x_1
  have r_2 := Blk.past hT2 r_1
  have o_2 := Blk.past hb2 o_n
  clear gh_1 oj_1 ot_1 of__1 rj_1 rt_1 rf_1 x_1 r_1 b_1 cell_x froz_x lt_x cell_r froz_r lt_r o_n hX2 hT2 hb2
  have cell_x := x_2.cell
  have froz_x := x_2.frozen
  have lt_x := x_2.lt
  have cell_r := r_2.cell
  have froz_r := r_2.frozen
  have lt_r := r_2.lt
  have cell_o := o_2.cell
  have froz_o := o_2.frozen
  have lt_o := o_2.lt
  have hXS : w.heap.size + 1 < X1.heap.size := r_lt
  go_wp2_with fail
  refine (sStep S HS.out hj0 ht0 b3 _ _ _ _ _ _ w1.heap.size X1 w2 gh_2 (by omega) o_2 rj_2 rt_2 rf_2).mono ?_
  rintro e w3 ⟨rfl, J2, cj2, T2, ct2, F2, cf2, ko, r1, r2, r3, hb3⟩
  have hB := below_ghost hb3 gh_2 b_2 (by omega)
  have hR := blk_ghost hb3 gh_2 hXS r_2
  have hs3 := hb3.size
  clear gh_2 b_2 r_2 o_2 rj_2 rt_2 rf_2 oj_2 ot_2 of__2 x_2 hb3 cell_x froz_x lt_x cell_r froz_r lt_r cell_o froz_o lt_o rj_in rt_in rf_in
  have b_10 := hB
  have s_10 := b_10.size
  have rj_in := own_in r1
  have rj_10 := r1
  clear r1
  have rt_in := own_in r2
  have rt_10 := r2
  clear r2
  have rf_in := own_in r3
  have rf_10 := r3
  clear r3
  have r_10 := hR
  clear hR
  have r_lt := r_10.lt
  have cell_r := r_10.cell
  have froz_r := r_10.frozen
  have lt_r := r_10.lt
  have o_10 := ko
  clear ko
  have o_lt := o_10.lt
  have cell_o := o_10.cell
  have froz_o := o_10.frozen
  have lt_o := o_10.lt
  go_wp2_with fail
  refine calls_forget0 (W := w3) ?_ ?_
  (focus (repeat (first | (with_reducible exact Below.refl _ _) | (with_reducible refine Below.trans ?_ (Below.mono (by assumption) (by first | omega | (simp; done) | (simp; omega) | (simp [*]; done)))) | (with_reducible refine Below.alloc ?_ (by first | omega | (simp; done) | (simp; omega) | (simp [*]; done)) _) | (with_reducible refine Below.setCell ?_ (by first | omega | (simp; done) | (simp; omega) | (simp [*]; done)) _) | (with_reducible refine Below.drew ?_) | (with_reducible refine below_drewN ?_))))
  intro X11 hX11
  have sX11 := hX11.size
  refine (sCopyS (stepS S) _ _ _ _ _ _ _ ⟨own_weak (own_below rj_10 hX11) (Nat.zero_le _), own_weak (own_below rt_10 hX11) (Nat.zero_le _), own_weak (own_below rf_10 hX11) (Nat.zero_le _)⟩ (by omega) (by omega) (by omega)).mono ?_
  rintro e w11 ⟨K', dj', L', dt', M', df', rfl, kj_11, kt_11, kf_11, hb11⟩
  have s11 := hb11.size
  have hT11 := hX11.trans (hb11.mono sX11)
  have b_11 := b_10.trans (hT11.mono (by omega))
  have rj_11 := own_below rj_10 hT11
  have rt_11 := own_below rt_10 hT11
  have rf_11 := own_below rf_10 hT11
  have r_11 := Blk.past hT11 r_10
  have o_11 := Blk.past hT11 o_10
  have kj_in := own_in kj_11
  have kt_in := own_in kt_11
  have kf_in := own_in kf_11
  clear rj_10 rt_10 rf_10 r_10 o_10 b_10 cell_r froz_r lt_r cell_o froz_o lt_o hX11 hT11 hb11
  have cell_r := r_11.cell
  have froz_r := r_11.frozen
  have lt_r := r_11.lt
  have cell_o := o_11.cell
  have froz_o := o_11.frozen
  have lt_o := o_11.lt
  have HRJ := hid kj_11
  have HRT := hid kt_11
  have HRF := hid kf_11
  have HB := hid b_11
  have hXR : w.heap.size + 1 < X11.heap.size := by omega
  clear kj_11 kt_11 kf_11 b_11
  go_wp2_with fail
  ((try simp only [Exit.inBlock, Exit.then]); apply bodyPost_ret0; focus ((try simp only [results, Try.results32]); (try go_simp); (try rfl)))
  refine ⟨K', dj', L', dt', M', df', rfl, ?_, ?_, ?_, ?_⟩
  · refine own_weak (base := X11.heap.size) ?_ (by omega)
    have h := HRJ.out
    repeat (first | (with_reducible assumption) | (with_reducible apply World.ownsRow.drew) | (with_reducible apply own_drewN) | (with_reducible apply World.ownsRow.alloc) | (with_reducible refine own_set ?_ _ _ (by first | omega | (simp; omega) | (dsimp only; omega))))
  · refine own_weak (base := X11.heap.size) ?_ (by omega)
    have h := HRT.out
    repeat (first | (with_reducible assumption) | (with_reducible apply World.ownsRow.drew) | (with_reducible apply own_drewN) | (with_reducible apply World.ownsRow.alloc) | (with_reducible refine own_set ?_ _ _ (by first | omega | (simp; omega) | (dsimp only; omega))))
  · refine own_weak (base := X11.heap.size) ?_ (by omega)
    have h := HRF.out
    repeat (first | (with_reducible assumption) | (with_reducible apply World.ownsRow.drew) | (with_reducible apply own_drewN) | (with_reducible apply World.ownsRow.alloc) | (with_reducible refine own_set ?_ _ _ (by first | omega | (simp; omega) | (dsimp only; omega))))
  · have hb := HB.out
    repeat (first | (with_reducible exact Below.refl _ _) | (with_reducible refine Below.trans ?_ (Below.mono (by assumption) (by first | omega | (simp; done) | (simp; omega) | (simp [*]; done)))) | (with_reducible refine Below.alloc ?_ (by first | omega | (simp; done) | (simp; omega) | (simp [*]; done)) _) | (with_reducible refine Below.setCell ?_ (by first | omega | (simp; done) | (simp; omega) | (simp [*]; done)) _) | (with_reducible refine Below.drew ?_) | (with_reducible refine below_drewN ?_))
theorem sSchedStepL (S : SV) (J T F : Option Addr) (cj tcp cf : Nat) (w : World) (h : w.ownsRow 0 38 4 (.slice J S.js.length cj) S.js.length (ints (flatJ S.js)) ∧ w.ownsRow 0 55 2 (.slice T S.ts.length tcp) S.ts.length (ints (flatT S.ts)) ∧ w.ownsRow 0 3 1 (.slice F S.fs.length cf) S.fs.length (ints S.fs)) (b1 : S.js.length ≤ 100000000) (b2 : S.ts.length ≤ 100000000) (b3 : S.fs.length ≤ 100000000) :
    Calls Try.prog 32 #[.agg #[.int .i64 S.z, .int .i64 S.n, .int .i64 S.b, .slice J S.js.length cj, .slice T S.ts.length tcp, .slice F S.fs.length cf]] w fun e w' => ∃ J' cj' T' tcp' F' cf', e = .returned (.tuple #[.agg #[.int .i64 ((stepR S).z), .int .i64 ((stepR S).n), .int .i64 ((stepR S).b), .slice J' ((stepR S).js.length) cj', .slice T' ((stepR S).ts.length) tcp', .slice F' ((stepR S).fs.length) cf'], .int .i64 (stepI S), .bool (stepB S)]) ∧
      w'.ownsRow w.heap.size 38 4 (.slice J' ((stepR S).js).length cj') ((stepR S).js).length (ints (flatJ ((stepR S).js))) ∧ w'.ownsRow w.heap.size 55 2 (.slice T' ((stepR S).ts).length tcp') ((stepR S).ts).length (ints (flatT ((stepR S).ts))) ∧ w'.ownsRow w.heap.size 3 1 (.slice F' ((stepR S).fs).length cf') ((stepR S).fs).length (ints ((stepR S).fs)) ∧ Below w.heap.size w w' := by
  cases hy : stepB S
  · rw [stepR_no hy, stepI_no hy]
    exact sStepNo S hy J T F cj tcp cf w h b1 b2 b3
  · rw [stepR_yes hy, stepI_yes hy]
    exact sStepYes S hy J T F cj tcp cf w h b3
end Go.Proofs.Ytipnhlnbokkihaa
