/- The step of a schedule, in the program: where there is none. -/
import Derived.Test.YtcdodfekclkonaaDoorStepI0
namespace Go.Proofs.YtcdodfekclkonaaDoor
open Go.RowKit

set_option maxRecDepth 100000 in
set_option maxHeartbeats 6400000 in
theorem iStepNo (S : SV) (hno : stepB S = false) (J T F : Option Addr) (cj tcp cf : Nat) (w : World) (h : w.ownsRow 0 61 4 (.slice J S.js.length cj) S.js.length (ints (flatJ S.js)) ∧ w.ownsRow 0 69 2 (.slice T S.ts.length tcp) S.ts.length (ints (flatT S.ts)) ∧ w.ownsRow 0 3 1 (.slice F S.fs.length cf) S.fs.length (ints S.fs)) (b1 : S.js.length ≤ 100000000) (b2 : S.ts.length ≤ 100000000) (b3 : S.fs.length ≤ 100000000) :
    Calls Tryd.prog 34 #[.agg #[.int .i64 S.z, .int .i64 S.n, .int .i64 S.b, .slice J S.js.length cj, .slice T S.ts.length tcp, .slice F S.fs.length cf]] w fun e w' => ∃ J' cj' T' tcp' F' cf', e = .returned (.tuple #[.agg #[.int .i64 S.z, .int .i64 S.n, .int .i64 S.b, .slice J' S.js.length cj', .slice T' S.ts.length tcp', .slice F' S.fs.length cf'], .int .i64 0, .bool false]) ∧
      w'.ownsRow w.heap.size 61 4 (.slice J' S.js.length cj') S.js.length (ints (flatJ S.js)) ∧ w'.ownsRow w.heap.size 69 2 (.slice T' S.ts.length tcp') S.ts.length (ints (flatT S.ts)) ∧ w'.ownsRow w.heap.size 3 1 (.slice F' S.fs.length cf') S.fs.length (ints S.fs) ∧ Below w.heap.size w w' := by
  obtain ⟨h1, h2, h3⟩ := h
  have HO := hid (iSchedOkS S)
  have hway : schedOkB S = false ∨ (schedOkB S = true ∧ ((S.js.length : Int) == 0) = true) ∨ (schedOkB S = true ∧ ((S.js.length : Int) == 0) = false ∧ decide ((1000 : Int) ≤ (S.ts.length : Int)) = true) := by
    unfold stepB at hno
    cases hk : schedOkB S
    · exact Or.inl rfl
    · rw [hk, Bool.true_and] at hno
      by_cases h0 : S.js.length = 0
      · exact Or.inr (Or.inl ⟨rfl, by rw [beq_iff_eq]; omega⟩)
      · rw [decide_eq_true (by omega), Bool.true_and, decide_eq_false_iff_not] at hno
        exact Or.inr (Or.inr ⟨rfl, by rw [beq_eq_false_iff_ne]; omega, by rw [decide_eq_true_iff]; omega⟩)
  clear hno
  obtain ⟨nj, hnj⟩ : ∃ n, S.js.length = n := ⟨_, rfl⟩
  obtain ⟨nt, hnt⟩ : ∃ n, S.ts.length = n := ⟨_, rfl⟩
  obtain ⟨nf, hnf⟩ : ∃ n, S.fs.length = n := ⟨_, rfl⟩
  have HCC := hid (fun J T F cj ct cf w h b1 b2 b3 => iCopyS S J T F cj ct cf w h b1 b2 b3)
  rw [hnj, hnt] at hway
  rw [hnj, hnt, hnf] at HCC
  rw [hnj, hnt, hnf] at HO
  rw [hnj] at b1 h1
  rw [hnt] at b2 h2
  rw [hnf] at b3 h3
  rw [hnj, hnt, hnf]
  clear hnj hnt hnf
  rcases hway with hk | ⟨hk, h0⟩ | ⟨hk, h0, ht⟩
  all_goals
    rw [hk] at HO
    go_enter Tryd.func34, Tryd.ntmps34
    have b_0 := (Below.refl w.heap.size w)
    have s_0 := b_0.size
    have oj_in := own_in h1
    have oj_0 := h1
    clear h1
    have ot_in := own_in h2
    have ot_0 := h2
    clear h2
    have of__in := own_in h3
    have of__0 := h3
    clear h3
    go_wp2_with fail
    refine calls_forget2 (W := w) (b0 := w.heap.size) (t0 := 34) (c0 := #[.int .i64 S.z, .int .i64 S.n, .int .i64 S.b, .slice J nj cj, .slice T nt tcp, .slice F nf cf]) (b1 := w.heap.size + 1) (t1 := 34) (c1 := #[.int .i64 0, .int .i64 0, .int .i64 0, .slice none 0 0, .slice none 0 0, .slice none 0 0]) ?_ ?_ ?_ ?_
    (focus (first | ((repeat (first | (with_reducible assumption) | (with_reducible apply Blk.drew) | (with_reducible apply Blk.drewN) | (with_reducible apply Blk.new; first | rfl | (simp; done)) | (with_reducible apply Blk.alloc) | (with_reducible apply Blk.set_) | (with_reducible apply Blk.past; focus assumption) | (with_reducible apply Blk.far; focus (first | (simp; done) | (simp; omega) | (dsimp only; omega))))); done) | (apply Blk.cast; (case h => (repeat (first | (with_reducible assumption) | (with_reducible apply Blk.drew) | (with_reducible apply Blk.drewN) | (with_reducible apply Blk.new; first | rfl | (simp; done)) | (with_reducible apply Blk.alloc) | (with_reducible apply Blk.set_) | (with_reducible apply Blk.past; focus assumption) | (with_reducible apply Blk.far; focus (first | (simp; done) | (simp; omega) | (dsimp only; omega)))))); (case e => rfl))))
    (focus (first | ((repeat (first | (with_reducible assumption) | (with_reducible apply Blk.drew) | (with_reducible apply Blk.drewN) | (with_reducible apply Blk.new; first | rfl | (simp; done)) | (with_reducible apply Blk.alloc) | (with_reducible apply Blk.set_) | (with_reducible apply Blk.past; focus assumption) | (with_reducible apply Blk.far; focus (first | (simp; done) | (simp; omega) | (dsimp only; omega))))); done) | (apply Blk.cast; (case h => (repeat (first | (with_reducible assumption) | (with_reducible apply Blk.drew) | (with_reducible apply Blk.drewN) | (with_reducible apply Blk.new; first | rfl | (simp; done)) | (with_reducible apply Blk.alloc) | (with_reducible apply Blk.set_) | (with_reducible apply Blk.past; focus assumption) | (with_reducible apply Blk.far; focus (first | (simp; done) | (simp; omega) | (dsimp only; omega)))))); (case e => rfl))))
    (focus (repeat (first | (with_reducible exact Below.refl _ _) | (with_reducible refine Below.trans ?_ (Below.mono (by assumption) (by first | omega | (simp; done) | (simp; omega) | (simp [*]; done)))) | (with_reducible refine Below.alloc ?_ (by first | omega | (simp; done) | (simp; omega) | (simp [*]; done)) _) | (with_reducible refine Below.setCell ?_ (by first | omega | (simp; done) | (simp; omega) | (simp [*]; done)) _) | (with_reducible refine Below.drew ?_) | (with_reducible refine below_drewN ?_))))
    intro X1 x_n r_n hX1
    have sX1 := hX1.size
    have x_lt := x_n.lt
    have r_lt := r_n.lt
    refine (HCC.out _ _ _ _ _ _ _ ⟨(own_below oj_0 hX1), (own_below ot_0 hX1), (own_below of__0 hX1)⟩ (by omega) (by omega) (by omega)).mono ?_
    rintro e w1 ⟨J', cj', T', tcp', F', cf', rfl, rj_1, rt_1, rf_1, hb1⟩
    have s1 := hb1.size
    have hT1 := hX1.trans (hb1.mono sX1)
    have b_1 := b_0.trans (hT1.mono (by omega))
    have oj_1 := own_below oj_0 hT1
    have ot_1 := own_below ot_0 hT1
    have of__1 := own_below of__0 hT1
    have x_1 := Blk.past hb1 x_n
    have r_1 := Blk.past hb1 r_n
    have rj_in := own_in rj_1
    have rt_in := own_in rt_1
    have rf_in := own_in rf_1
    clear oj_0 ot_0 of__0 b_0 x_n r_n hX1 hT1 hb1
    have cell_x := x_1.cell
    have froz_x := x_1.frozen
    have lt_x := x_1.lt
    have cell_r := r_1.cell
    have froz_r := r_1.frozen
    have lt_r := r_1.lt
    go_wp2_with fail
    refine calls_forget1 (W := w1) (b0 := w1.heap.size) (t0 := 34) (c0 := #[.int .i64 S.z, .int .i64 S.n, .int .i64 S.b, .slice J' nj cj', .slice T' nt tcp', .slice F' nf cf']) ?_ ?_ ?_
    (focus (first | ((repeat (first | (with_reducible assumption) | (with_reducible apply Blk.drew) | (with_reducible apply Blk.drewN) | (with_reducible apply Blk.new; first | rfl | (simp; done)) | (with_reducible apply Blk.alloc) | (with_reducible apply Blk.set_) | (with_reducible apply Blk.past; focus assumption) | (with_reducible apply Blk.far; focus (first | (simp; done) | (simp; omega) | (dsimp only; omega))))); done) | (apply Blk.cast; (case h => (repeat (first | (with_reducible assumption) | (with_reducible apply Blk.drew) | (with_reducible apply Blk.drewN) | (with_reducible apply Blk.new; first | rfl | (simp; done)) | (with_reducible apply Blk.alloc) | (with_reducible apply Blk.set_) | (with_reducible apply Blk.past; focus assumption) | (with_reducible apply Blk.far; focus (first | (simp; done) | (simp; omega) | (dsimp only; omega)))))); (case e => rfl))))
    (focus (repeat (first | (with_reducible exact Below.refl _ _) | (with_reducible refine Below.trans ?_ (Below.mono (by assumption) (by first | omega | (simp; done) | (simp; omega) | (simp [*]; done)))) | (with_reducible refine Below.alloc ?_ (by first | omega | (simp; done) | (simp; omega) | (simp [*]; done)) _) | (with_reducible refine Below.setCell ?_ (by first | omega | (simp; done) | (simp; omega) | (simp [*]; done)) _) | (with_reducible refine Below.drew ?_) | (with_reducible refine below_drewN ?_))))
    intro X2 o_n hX2
    have sX2 := hX2.size
    have o_lt := o_n.lt
    refine (HO.out _ _ _ _ _ _ _ ⟨(own_below oj_1 hX2), (own_below ot_1 hX2), (own_below of__1 hX2)⟩ (by omega) (by omega)).mono ?_
    rintro e w2 ⟨rfl, hb2⟩
    have s2 := hb2.size
    have hT2 := hX2.trans (hb2.mono sX2)
    have b_2 := b_1.trans (hT2.mono (by omega))
    have oj_2 := own_below oj_1 hT2
    have ot_2 := own_below ot_1 hT2
    have of__2 := own_below of__1 hT2
    have rj_2 := own_below rj_1 hT2
    have rt_2 := own_below rt_1 hT2
    have rf_2 := own_below rf_1 hT2
    have x_2 := Blk.past hT2 x_1
    have r_2 := Blk.past hT2 r_1
    have o_2 := Blk.past hb2 o_n
    clear oj_1 ot_1 of__1 rj_1 rt_1 rf_1 x_1 r_1 b_1 cell_x froz_x lt_x cell_r froz_r lt_r o_n hX2 hT2 hb2
    have cell_x := x_2.cell
    have froz_x := x_2.frozen
    have lt_x := x_2.lt
    have cell_r := r_2.cell
    have froz_r := r_2.frozen
    have lt_r := r_2.lt
    have cell_o := o_2.cell
    have froz_o := o_2.frozen
    have lt_o := o_2.lt
    have HRJ := hid rj_2
    have HRT := hid rt_2
    have HRF := hid rf_2
    have HB := hid b_2
    have hXS : w.heap.size ≤ X1.heap.size := by omega
    clear rj_2 rt_2 rf_2 b_2 oj_2 ot_2 of__2
    go_wp2_with fail
    ((try simp only [Exit.inBlock, Exit.then]); apply bodyPost_ret0; focus ((try simp only [results, Tryd.results34]); (try go_simp); (try rfl)))
    refine ⟨J', cj', T', tcp', F', cf', rfl, ?_, ?_, ?_, ?_⟩
    · refine own_weak (base := X1.heap.size) ?_ hXS
      have h := HRJ.out
      repeat (first | (with_reducible assumption) | (with_reducible apply World.ownsRow.drew) | (with_reducible apply own_drewN) | (with_reducible apply World.ownsRow.alloc) | (with_reducible refine own_set ?_ _ _ (by first | omega | (simp; omega) | (dsimp only; omega))))
    · refine own_weak (base := X1.heap.size) ?_ hXS
      have h := HRT.out
      repeat (first | (with_reducible assumption) | (with_reducible apply World.ownsRow.drew) | (with_reducible apply own_drewN) | (with_reducible apply World.ownsRow.alloc) | (with_reducible refine own_set ?_ _ _ (by first | omega | (simp; omega) | (dsimp only; omega))))
    · refine own_weak (base := X1.heap.size) ?_ hXS
      have h := HRF.out
      repeat (first | (with_reducible assumption) | (with_reducible apply World.ownsRow.drew) | (with_reducible apply own_drewN) | (with_reducible apply World.ownsRow.alloc) | (with_reducible refine own_set ?_ _ _ (by first | omega | (simp; omega) | (dsimp only; omega))))
    · have hb := HB.out
      repeat (first | (with_reducible exact Below.refl _ _) | (with_reducible refine Below.trans ?_ (Below.mono (by assumption) (by first | omega | (simp; done) | (simp; omega) | (simp [*]; done)))) | (with_reducible refine Below.alloc ?_ (by first | omega | (simp; done) | (simp; omega) | (simp [*]; done)) _) | (with_reducible refine Below.setCell ?_ (by first | omega | (simp; done) | (simp; omega) | (simp [*]; done)) _) | (with_reducible refine Below.drew ?_) | (with_reducible refine below_drewN ?_))
end Go.Proofs.YtcdodfekclkonaaDoor
