/- The law that SchedOk of the program returns what the reference's returns, for all arguments. No conditions. -/
import Derived.Test.YtipnhlnbokkihaaSchedOk2
import Derived.Test.YtipnhlnbokkihaaSchedS
import Derived.Test.YtipnhlnbokkihaaSchedV
import Derived.Test.YtipnhlnbokkihaaHead
set_option linter.unusedVariables false
namespace Go.Proofs.Ytipnhlnbokkihaa
open Go.RowKit Go.ChangeShapes Go.WideShapes Go.ChangeAt

namespace exactSchedOk
set_option maxHeartbeats 3200000 in
theorem walk (S : SV) (J T F : Option Addr) (cj ct cf : Nat) (w : World) (hj : Cells w w.heap.size J (ints (flatJ S.js))) (ht : Cells w w.heap.size T (ints (flatT S.ts))) (hf : Cells w w.heap.size F (ints S.fs))
    (bj : S.js.length ≤ maxLen) (bt : S.ts.length ≤ maxLen) (bf : S.fs.length ≤ maxLen) :
    Calls Try.prog 5 #[.agg #[.int .i64 S.z, .int .i64 S.n, .int .i64 S.b, .slice J S.js.length cj, .slice T S.ts.length ct, .slice F S.fs.length cf]] w fun e w' => e = .returned (.bool true) ∧ Below w.heap.size w w' := by
  unfold maxLen at bj bt bf
  have lj := flatJ_length S.js
  have lt := flatT_length S.ts
  have CS := hid (sSchedOk S)
  have CI := hid (iSchedOk S)
  obtain ⟨r, hr⟩ : ∃ r, schedOkB S = r := ⟨_, rfl⟩
  rw [hr] at CS CI
  clear hr
  obtain ⟨z, n, b, js, ts, fs⟩ := S
  dsimp only at *
  obtain ⟨nj, hnj⟩ : ∃ n, js.length = n := ⟨_, rfl⟩
  obtain ⟨nt, hnt⟩ : ∃ n, ts.length = n := ⟨_, rfl⟩
  obtain ⟨nf, hnf⟩ : ∃ n, fs.length = n := ⟨_, rfl⟩
  rw [hnj] at lj bj CS CI
  rw [hnt] at lt bt CS CI
  have hts := toSched_any z n b
  have heq := eqSched_same z n b
  rw [hnj, hnt, hnf]
  rw [hnf] at bf
  have LJ := hid lj
  have LT := hid lt
  have LF := hid hnf
  have TS := hid (fun J T F cj ct cf w h1 h2 h3 b1 b2 b3 => toSched_any z n b J T F nj cj nt ct cf (flatJ js) (flatT ts) fs w lj lt h1 h2 h3 b1 b2 b3)
  have EQ := hid (fun J J' T T' F F' cj cj' ct ct' cf cf' w h1 h1' h2 h2' h3 h3' b1 b2 b3 => eqSched_same z n b J J' T T' F F' nj cj cj' nt ct ct' cf cf' (flatJ js) (flatT ts) fs w lj lt h1 h1' h2 h2' h3 h3' b1 b2 b3)
  rw [hnf] at TS EQ
  clear lj lt hnj hnt hts heq hnf
  by_cases hsz : nj + nt + nf ≤ 1048576
  case neg =>
    go_enter Try.func5, Try.ntmps5
    have b_0 := (Below.refl w.heap.size w)
    have s_0 := b_0.size
    go_wp2_with fail
    refine calls_forget1 (W := w) (b0 := w.heap.size) (t0 := 46) (c0 := #[.int .i64 z, .int .i64 n, .int .i64 b, .slice J nj cj, .slice T nt ct, .slice F nf cf]) ?_ ?_ ?_
    (focus (first | ((repeat (first | (with_reducible assumption) | (with_reducible apply Blk.drew) | (with_reducible apply Blk.drewN) | (with_reducible apply Blk.new; first | rfl | (simp; done)) | (with_reducible apply Blk.alloc) | (with_reducible apply Blk.set_) | (with_reducible apply Blk.past; focus assumption) | (with_reducible apply Blk.far; focus (first | (simp; done) | (simp; omega) | (dsimp only; omega))))); done) | (apply Blk.cast; (case h => (repeat (first | (with_reducible assumption) | (with_reducible apply Blk.drew) | (with_reducible apply Blk.drewN) | (with_reducible apply Blk.new; first | rfl | (simp; done)) | (with_reducible apply Blk.alloc) | (with_reducible apply Blk.set_) | (with_reducible apply Blk.past; focus assumption) | (with_reducible apply Blk.far; focus (first | (simp; done) | (simp; omega) | (dsimp only; omega)))))); (case e => rfl))))
    (focus (repeat (first | (with_reducible exact Below.refl _ _) | (with_reducible refine Below.trans ?_ (Below.mono (by assumption) (by first | omega | (simp; done) | (simp; omega) | (simp [*]; done)))) | (with_reducible refine Below.alloc ?_ (by first | omega | (simp; done) | (simp; omega) | (simp [*]; done)) _) | (with_reducible refine Below.setCell ?_ (by first | omega | (simp; done) | (simp; omega) | (simp [*]; done)) _) | (with_reducible refine Below.drew ?_) | (with_reducible refine below_drewN ?_))))
    intro X1 a_n hX1
    have sX1 := hX1.size
    have a_lt := a_n.lt
    refine (szSched_no _ _ _ _ _ _ _ _ _ _ _ _ _ hsz bj bt bf).mono ?_
    rintro e w1 ⟨rfl, hb1⟩
    have s1 := hb1.size
    have hT1 := hX1.trans (hb1.mono sX1)
    have b_1 := b_0.trans (hT1.mono (by omega))
    have a_1 := Blk.past hb1 a_n
    clear b_0 a_n hX1 hT1 hb1
    have cell_a := a_1.cell
    have froz_a := a_1.frozen
    have lt_a := a_1.lt
    go_wp2
    go_ret
    refine ⟨rfl, b_1.trans ?_⟩
    repeat (first | (with_reducible exact Below.refl _ _) | (with_reducible refine Below.trans ?_ (Below.mono (by assumption) (by first | omega | (simp; done) | (simp; omega) | (simp [*]; done)))) | (with_reducible refine Below.alloc ?_ (by first | omega | (simp; done) | (simp; omega) | (simp [*]; done)) _) | (with_reducible refine Below.setCell ?_ (by first | omega | (simp; done) | (simp; omega) | (simp [*]; done)) _) | (with_reducible refine Below.drew ?_) | (with_reducible refine below_drewN ?_))
  go_enter Try.func5, Try.ntmps5
  have b_0 := (Below.refl w.heap.size w)
  have s_0 := b_0.size
  have j_0 := hj
  clear hj
  have t_0 := ht
  clear ht
  have f_0 := hf
  clear hf
  go_wp2_with fail
  refine calls_forget1 (W := w) (b0 := w.heap.size) (t0 := 46) (c0 := #[.int .i64 z, .int .i64 n, .int .i64 b, .slice J nj cj, .slice T nt ct, .slice F nf cf]) ?_ ?_ ?_
  (focus (first | ((repeat (first | (with_reducible assumption) | (with_reducible apply Blk.drew) | (with_reducible apply Blk.drewN) | (with_reducible apply Blk.new; first | rfl | (simp; done)) | (with_reducible apply Blk.alloc) | (with_reducible apply Blk.set_) | (with_reducible apply Blk.past; focus assumption) | (with_reducible apply Blk.far; focus (first | (simp; done) | (simp; omega) | (dsimp only; omega))))); done) | (apply Blk.cast; (case h => (repeat (first | (with_reducible assumption) | (with_reducible apply Blk.drew) | (with_reducible apply Blk.drewN) | (with_reducible apply Blk.new; first | rfl | (simp; done)) | (with_reducible apply Blk.alloc) | (with_reducible apply Blk.set_) | (with_reducible apply Blk.past; focus assumption) | (with_reducible apply Blk.far; focus (first | (simp; done) | (simp; omega) | (dsimp only; omega)))))); (case e => rfl))))
  (focus (repeat (first | (with_reducible exact Below.refl _ _) | (with_reducible refine Below.trans ?_ (Below.mono (by assumption) (by first | omega | (simp; done) | (simp; omega) | (simp [*]; done)))) | (with_reducible refine Below.alloc ?_ (by first | omega | (simp; done) | (simp; omega) | (simp [*]; done)) _) | (with_reducible refine Below.setCell ?_ (by first | omega | (simp; done) | (simp; omega) | (simp [*]; done)) _) | (with_reducible refine Below.drew ?_) | (with_reducible refine below_drewN ?_))))
  intro X1 a_n hX1
  have sX1 := hX1.size
  have a_lt := a_n.lt
  refine (szSched_ok _ _ _ _ _ _ _ _ _ _ _ _ _ hsz).mono ?_
  rintro e w1 ⟨rfl, hb1⟩
  have s1 := hb1.size
  have hT1 := hX1.trans (hb1.mono sX1)
  have b_1 := b_0.trans (hT1.mono (by omega))
  have j_1 := cells_below j_0 hT1 (by omega)
  have t_1 := cells_below t_0 hT1 (by omega)
  have f_1 := cells_below f_0 hT1 (by omega)
  have a_1 := Blk.past hb1 a_n
  clear j_0 t_0 f_0 b_0 a_n hX1 hT1 hb1
  have cell_a := a_1.cell
  have froz_a := a_1.frozen
  have lt_a := a_1.lt
  go_wp2_with fail
  refine calls_forget0 (W := w1) ?_ ?_
  (focus (repeat (first | (with_reducible exact Below.refl _ _) | (with_reducible refine Below.trans ?_ (Below.mono (by assumption) (by first | omega | (simp; done) | (simp; omega) | (simp [*]; done)))) | (with_reducible refine Below.alloc ?_ (by first | omega | (simp; done) | (simp; omega) | (simp [*]; done)) _) | (with_reducible refine Below.setCell ?_ (by first | omega | (simp; done) | (simp; omega) | (simp [*]; done)) _) | (with_reducible refine Below.drew ?_) | (with_reducible refine below_drewN ?_))))
  intro X2 hX2
  have sX2 := hX2.size
  refine (TS.out _ _ _ _ _ _ _ ((cells_below j_1 hX2 (by omega)).more (by omega)) ((cells_below t_1 hX2 (by omega)).more (by omega)) ((cells_below f_1 hX2 (by omega)).more (by omega)) (by omega) (by omega) (by omega)).mono ?_
  rintro e w2 ⟨Aj, At, Af, rfl, pj_2, pt_2, pf_2, hb2⟩
  have s2 := hb2.size
  have hT2 := hX2.trans (hb2.mono sX2)
  have b_2 := b_1.trans (hT2.mono (by omega))
  have j_2 := cells_below j_1 hT2 (by omega)
  have t_2 := cells_below t_1 hT2 (by omega)
  have f_2 := cells_below f_1 hT2 (by omega)
  have a_2 := Blk.past hT2 a_1
  have pj_in := own_in pj_2
  have pt_in := own_in pt_2
  have pf_in := own_in pf_2
  clear j_1 t_1 f_1 a_1 b_1 cell_a froz_a lt_a hX2 hT2 hb2
  have cell_a := a_2.cell
  have froz_a := a_2.frozen
  have lt_a := a_2.lt
  go_wp2_with fail
  refine calls_forget0 (W := w2) ?_ ?_
  (focus (repeat (first | (with_reducible exact Below.refl _ _) | (with_reducible refine Below.trans ?_ (Below.mono (by assumption) (by first | omega | (simp; done) | (simp; omega) | (simp [*]; done)))) | (with_reducible refine Below.alloc ?_ (by first | omega | (simp; done) | (simp; omega) | (simp [*]; done)) _) | (with_reducible refine Below.setCell ?_ (by first | omega | (simp; done) | (simp; omega) | (simp [*]; done)) _) | (with_reducible refine Below.drew ?_) | (with_reducible refine below_drewN ?_))))
  intro X3 hX3
  have sX3 := hX3.size
  refine (CS.out _ _ _ _ _ _ _ _ (Cells.of_own (own_below pj_2 hX3)) (Cells.of_own (own_below pt_2 hX3)) (by omega) (by omega)).mono ?_
  rintro e w3 ⟨rfl, hb3⟩
  have s3 := hb3.size
  have hT3 := hX3.trans (hb3.mono sX3)
  have b_3 := b_2.trans (hT3.mono (by omega))
  have j_3 := cells_below j_2 hT3 (by omega)
  have t_3 := cells_below t_2 hT3 (by omega)
  have f_3 := cells_below f_2 hT3 (by omega)
  have pj_3 := own_below pj_2 hT3
  have pt_3 := own_below pt_2 hT3
  have pf_3 := own_below pf_2 hT3
  have a_3 := Blk.past hT3 a_2
  clear j_2 t_2 f_2 pj_2 pt_2 pf_2 a_2 b_2 cell_a froz_a lt_a hX3 hT3 hb3
  have cell_a := a_3.cell
  have froz_a := a_3.frozen
  have lt_a := a_3.lt
  clear pj_3
  clear pt_3
  clear pf_3
  go_wp2_with fail
  refine calls_forget0 (W := w3) ?_ ?_
  (focus (repeat (first | (with_reducible exact Below.refl _ _) | (with_reducible refine Below.trans ?_ (Below.mono (by assumption) (by first | omega | (simp; done) | (simp; omega) | (simp [*]; done)))) | (with_reducible refine Below.alloc ?_ (by first | omega | (simp; done) | (simp; omega) | (simp [*]; done)) _) | (with_reducible refine Below.setCell ?_ (by first | omega | (simp; done) | (simp; omega) | (simp [*]; done)) _) | (with_reducible refine Below.drew ?_) | (with_reducible refine below_drewN ?_))))
  intro X4 hX4
  have sX4 := hX4.size
  refine (TS.out _ _ _ _ _ _ _ ((cells_below j_3 hX4 (by omega)).more (by omega)) ((cells_below t_3 hX4 (by omega)).more (by omega)) ((cells_below f_3 hX4 (by omega)).more (by omega)) (by omega) (by omega) (by omega)).mono ?_
  rintro e w4 ⟨Bj, Bt, Bf, rfl, xj_4, xt_4, xf_4, hb4⟩
  have s4 := hb4.size
  have hT4 := hX4.trans (hb4.mono sX4)
  have b_4 := b_3.trans (hT4.mono (by omega))
  have j_4 := cells_below j_3 hT4 (by omega)
  have t_4 := cells_below t_3 hT4 (by omega)
  have f_4 := cells_below f_3 hT4 (by omega)
  have a_4 := Blk.past hT4 a_3
  have xj_in := own_in xj_4
  have xt_in := own_in xt_4
  have xf_in := own_in xf_4
  clear j_3 t_3 f_3 a_3 b_3 cell_a froz_a lt_a hX4 hT4 hb4
  have cell_a := a_4.cell
  have froz_a := a_4.frozen
  have lt_a := a_4.lt
  go_wp2_with fail
  refine calls_forget1 (W := w4) (b0 := w4.heap.size) (t0 := 31) (c0 := #[.int .i64 z, .int .i64 n, .int .i64 b, .slice Bj nj nj, .slice Bt nt nt, .slice Bf nf nf]) ?_ ?_ ?_
  (focus (first | ((repeat (first | (with_reducible assumption) | (with_reducible apply Blk.drew) | (with_reducible apply Blk.drewN) | (with_reducible apply Blk.new; first | rfl | (simp; done)) | (with_reducible apply Blk.alloc) | (with_reducible apply Blk.set_) | (with_reducible apply Blk.past; focus assumption) | (with_reducible apply Blk.far; focus (first | (simp; done) | (simp; omega) | (dsimp only; omega))))); done) | (apply Blk.cast; (case h => (repeat (first | (with_reducible assumption) | (with_reducible apply Blk.drew) | (with_reducible apply Blk.drewN) | (with_reducible apply Blk.new; first | rfl | (simp; done)) | (with_reducible apply Blk.alloc) | (with_reducible apply Blk.set_) | (with_reducible apply Blk.past; focus assumption) | (with_reducible apply Blk.far; focus (first | (simp; done) | (simp; omega) | (dsimp only; omega)))))); (case e => rfl))))
  (focus (repeat (first | (with_reducible exact Below.refl _ _) | (with_reducible refine Below.trans ?_ (Below.mono (by assumption) (by first | omega | (simp; done) | (simp; omega) | (simp [*]; done)))) | (with_reducible refine Below.alloc ?_ (by first | omega | (simp; done) | (simp; omega) | (simp [*]; done)) _) | (with_reducible refine Below.setCell ?_ (by first | omega | (simp; done) | (simp; omega) | (simp [*]; done)) _) | (with_reducible refine Below.drew ?_) | (with_reducible refine below_drewN ?_))))
  intro X5 x_n hX5
  have sX5 := hX5.size
  have x_lt := x_n.lt
  refine (CI.out _ _ _ _ _ _ _ _ (Cells.of_own (own_below xj_4 hX5)) (Cells.of_own (own_below xt_4 hX5)) (Nat.le_refl _) (by omega) (by omega)).mono ?_
  rintro e w5 ⟨rfl, hb5⟩
  have s5 := hb5.size
  have hT5 := hX5.trans (hb5.mono sX5)
  have b_5 := b_4.trans (hT5.mono (by omega))
  have j_5 := cells_below j_4 hT5 (by omega)
  have t_5 := cells_below t_4 hT5 (by omega)
  have f_5 := cells_below f_4 hT5 (by omega)
  have xj_5 := own_below xj_4 hT5
  have xt_5 := own_below xt_4 hT5
  have xf_5 := own_below xf_4 hT5
  have a_5 := Blk.past hT5 a_4
  have x_5 := Blk.past hb5 x_n
  clear j_4 t_4 f_4 xj_4 xt_4 xf_4 a_4 b_4 cell_a froz_a lt_a x_n hX5 hT5 hb5
  have cell_a := a_5.cell
  have froz_a := a_5.frozen
  have lt_a := a_5.lt
  have cell_x := x_5.cell
  have froz_x := x_5.frozen
  have lt_x := x_5.lt
  go_wp2_with fail
  go_region_held3 (fun w' => w'.cell? ⟨w.heap.size, 0, none⟩ = some (.int .i64 z) ∧ w'.cell? ⟨w.heap.size, 1, none⟩ = some (.int .i64 n) ∧ w'.cell? ⟨w.heap.size, 2, none⟩ = some (.int .i64 b) ∧ w'.cell? ⟨w.heap.size, 3, none⟩ = some (.slice J nj cj) ∧ w'.cell? ⟨w.heap.size, 4, none⟩ = some (.slice T nt ct) ∧ w'.cell? ⟨w.heap.size, 5, none⟩ = some (.slice F nf cf) ∧ w'.cell? ⟨w4.heap.size, 0, none⟩ = some (.int .i64 z) ∧ w'.cell? ⟨w4.heap.size, 1, none⟩ = some (.int .i64 n) ∧ w'.cell? ⟨w4.heap.size, 2, none⟩ = some (.int .i64 b) ∧ w'.cell? ⟨w4.heap.size, 3, none⟩ = some (.slice Bj nj nj) ∧ w'.cell? ⟨w4.heap.size, 4, none⟩ = some (.slice Bt nt nt) ∧ w'.cell? ⟨w4.heap.size, 5, none⟩ = some (.slice Bf nf nf)) (exact ⟨(Blk.cell (t := 46) (cs := #[.int .i64 z, .int .i64 n, .int .i64 b, .slice J nj cj, .slice T nt ct, .slice F nf cf]) (by repeat (first | (with_reducible assumption) | (with_reducible apply Blk.drew) | (with_reducible apply Blk.drewN) | (with_reducible apply Blk.new; first | rfl | (simp; done)) | (with_reducible apply Blk.alloc) | (with_reducible apply Blk.set_) | (with_reducible apply Blk.past; focus assumption) | (with_reducible apply Blk.far; focus (first | (simp; done) | (simp; omega) | (dsimp only; omega))))) 0), (Blk.cell (t := 46) (cs := #[.int .i64 z, .int .i64 n, .int .i64 b, .slice J nj cj, .slice T nt ct, .slice F nf cf]) (by repeat (first | (with_reducible assumption) | (with_reducible apply Blk.drew) | (with_reducible apply Blk.drewN) | (with_reducible apply Blk.new; first | rfl | (simp; done)) | (with_reducible apply Blk.alloc) | (with_reducible apply Blk.set_) | (with_reducible apply Blk.past; focus assumption) | (with_reducible apply Blk.far; focus (first | (simp; done) | (simp; omega) | (dsimp only; omega))))) 1), (Blk.cell (t := 46) (cs := #[.int .i64 z, .int .i64 n, .int .i64 b, .slice J nj cj, .slice T nt ct, .slice F nf cf]) (by repeat (first | (with_reducible assumption) | (with_reducible apply Blk.drew) | (with_reducible apply Blk.drewN) | (with_reducible apply Blk.new; first | rfl | (simp; done)) | (with_reducible apply Blk.alloc) | (with_reducible apply Blk.set_) | (with_reducible apply Blk.past; focus assumption) | (with_reducible apply Blk.far; focus (first | (simp; done) | (simp; omega) | (dsimp only; omega))))) 2), (Blk.cell (t := 46) (cs := #[.int .i64 z, .int .i64 n, .int .i64 b, .slice J nj cj, .slice T nt ct, .slice F nf cf]) (by repeat (first | (with_reducible assumption) | (with_reducible apply Blk.drew) | (with_reducible apply Blk.drewN) | (with_reducible apply Blk.new; first | rfl | (simp; done)) | (with_reducible apply Blk.alloc) | (with_reducible apply Blk.set_) | (with_reducible apply Blk.past; focus assumption) | (with_reducible apply Blk.far; focus (first | (simp; done) | (simp; omega) | (dsimp only; omega))))) 3), (Blk.cell (t := 46) (cs := #[.int .i64 z, .int .i64 n, .int .i64 b, .slice J nj cj, .slice T nt ct, .slice F nf cf]) (by repeat (first | (with_reducible assumption) | (with_reducible apply Blk.drew) | (with_reducible apply Blk.drewN) | (with_reducible apply Blk.new; first | rfl | (simp; done)) | (with_reducible apply Blk.alloc) | (with_reducible apply Blk.set_) | (with_reducible apply Blk.past; focus assumption) | (with_reducible apply Blk.far; focus (first | (simp; done) | (simp; omega) | (dsimp only; omega))))) 4), (Blk.cell (t := 46) (cs := #[.int .i64 z, .int .i64 n, .int .i64 b, .slice J nj cj, .slice T nt ct, .slice F nf cf]) (by repeat (first | (with_reducible assumption) | (with_reducible apply Blk.drew) | (with_reducible apply Blk.drewN) | (with_reducible apply Blk.new; first | rfl | (simp; done)) | (with_reducible apply Blk.alloc) | (with_reducible apply Blk.set_) | (with_reducible apply Blk.past; focus assumption) | (with_reducible apply Blk.far; focus (first | (simp; done) | (simp; omega) | (dsimp only; omega))))) 5), (Blk.cell (t := 31) (cs := #[.int .i64 z, .int .i64 n, .int .i64 b, .slice Bj nj nj, .slice Bt nt nt, .slice Bf nf nf]) (by repeat (first | (with_reducible assumption) | (with_reducible apply Blk.drew) | (with_reducible apply Blk.drewN) | (with_reducible apply Blk.new; first | rfl | (simp; done)) | (with_reducible apply Blk.alloc) | (with_reducible apply Blk.set_) | (with_reducible apply Blk.past; focus assumption) | (with_reducible apply Blk.far; focus (first | (simp; done) | (simp; omega) | (dsimp only; omega))))) 0), (Blk.cell (t := 31) (cs := #[.int .i64 z, .int .i64 n, .int .i64 b, .slice Bj nj nj, .slice Bt nt nt, .slice Bf nf nf]) (by repeat (first | (with_reducible assumption) | (with_reducible apply Blk.drew) | (with_reducible apply Blk.drewN) | (with_reducible apply Blk.new; first | rfl | (simp; done)) | (with_reducible apply Blk.alloc) | (with_reducible apply Blk.set_) | (with_reducible apply Blk.past; focus assumption) | (with_reducible apply Blk.far; focus (first | (simp; done) | (simp; omega) | (dsimp only; omega))))) 1), (Blk.cell (t := 31) (cs := #[.int .i64 z, .int .i64 n, .int .i64 b, .slice Bj nj nj, .slice Bt nt nt, .slice Bf nf nf]) (by repeat (first | (with_reducible assumption) | (with_reducible apply Blk.drew) | (with_reducible apply Blk.drewN) | (with_reducible apply Blk.new; first | rfl | (simp; done)) | (with_reducible apply Blk.alloc) | (with_reducible apply Blk.set_) | (with_reducible apply Blk.past; focus assumption) | (with_reducible apply Blk.far; focus (first | (simp; done) | (simp; omega) | (dsimp only; omega))))) 2), (Blk.cell (t := 31) (cs := #[.int .i64 z, .int .i64 n, .int .i64 b, .slice Bj nj nj, .slice Bt nt nt, .slice Bf nf nf]) (by repeat (first | (with_reducible assumption) | (with_reducible apply Blk.drew) | (with_reducible apply Blk.drewN) | (with_reducible apply Blk.new; first | rfl | (simp; done)) | (with_reducible apply Blk.alloc) | (with_reducible apply Blk.set_) | (with_reducible apply Blk.past; focus assumption) | (with_reducible apply Blk.far; focus (first | (simp; done) | (simp; omega) | (dsimp only; omega))))) 3), (Blk.cell (t := 31) (cs := #[.int .i64 z, .int .i64 n, .int .i64 b, .slice Bj nj nj, .slice Bt nt nt, .slice Bf nf nf]) (by repeat (first | (with_reducible assumption) | (with_reducible apply Blk.drew) | (with_reducible apply Blk.drewN) | (with_reducible apply Blk.new; first | rfl | (simp; done)) | (with_reducible apply Blk.alloc) | (with_reducible apply Blk.set_) | (with_reducible apply Blk.past; focus assumption) | (with_reducible apply Blk.far; focus (first | (simp; done) | (simp; omega) | (dsimp only; omega))))) 4), (Blk.cell (t := 31) (cs := #[.int .i64 z, .int .i64 n, .int .i64 b, .slice Bj nj nj, .slice Bt nt nt, .slice Bf nf nf]) (by repeat (first | (with_reducible assumption) | (with_reducible apply Blk.drew) | (with_reducible apply Blk.drewN) | (with_reducible apply Blk.new; first | rfl | (simp; done)) | (with_reducible apply Blk.alloc) | (with_reducible apply Blk.set_) | (with_reducible apply Blk.past; focus assumption) | (with_reducible apply Blk.far; focus (first | (simp; done) | (simp; omega) | (dsimp only; omega))))) 5)⟩) (first | (go_at_call 24; refine calls_forget0 (W := w5) ?_ ?_; (focus (repeat (first | (with_reducible exact Below.refl _ _) | (with_reducible refine Below.trans ?_ (Below.mono (by assumption) (by first | omega | (simp; done) | (simp; omega) | (simp [*]; done)))) | (with_reducible refine Below.alloc ?_ (by first | omega | (simp; done) | (simp; omega) | (simp [*]; done)) _) | (with_reducible refine Below.setCell ?_ (by first | omega | (simp; done) | (simp; omega) | (simp [*]; done)) _) | (with_reducible refine Below.drew ?_) | (with_reducible refine below_drewN ?_)))); intro X6 hX6; have sX6 := hX6.size; refine (TS.out _ _ _ _ _ _ _ ((cells_below j_5 hX6 (by omega)).more (by omega)) ((cells_below t_5 hX6 (by omega)).more (by omega)) ((cells_below f_5 hX6 (by omega)).more (by omega)) (by omega) (by omega) (by omega)).mono ?_; rintro e w6 ⟨Cj, Ct, Cf, rfl, yj_6, yt_6, yf_6, hb6⟩; have s6 := hb6.size; have hT6 := hX6.trans (hb6.mono sX6); have b_6 := b_5.trans (hT6.mono (by omega)); have j_6 := cells_below j_5 hT6 (by omega); have t_6 := cells_below t_5 hT6 (by omega); have f_6 := cells_below f_5 hT6 (by omega); have xj_6 := own_below xj_5 hT6; have xt_6 := own_below xt_5 hT6; have xf_6 := own_below xf_5 hT6; have a_6 := Blk.past hT6 a_5; have x_6 := Blk.past hT6 x_5; have yj_in := own_in yj_6; have yt_in := own_in yt_6; have yf_in := own_in yf_6; clear j_5 t_5 f_5 xj_5 xt_5 xf_5 a_5 x_5 b_5 cell_a froz_a lt_a cell_x froz_x lt_x hX6 hT6 hb6; have cell_a := a_6.cell; have froz_a := a_6.frozen; have lt_a := a_6.lt; have cell_x := x_6.cell; have froz_x := x_6.frozen; have lt_x := x_6.lt) | (go_at_call 19; refine calls_forget0 (W := w6) ?_ ?_; (focus (repeat (first | (with_reducible exact Below.refl _ _) | (with_reducible refine Below.trans ?_ (Below.mono (by assumption) (by first | omega | (simp; done) | (simp; omega) | (simp [*]; done)))) | (with_reducible refine Below.alloc ?_ (by first | omega | (simp; done) | (simp; omega) | (simp [*]; done)) _) | (with_reducible refine Below.setCell ?_ (by first | omega | (simp; done) | (simp; omega) | (simp [*]; done)) _) | (with_reducible refine Below.drew ?_) | (with_reducible refine below_drewN ?_)))); intro X7 hX7; have sX7 := hX7.size; refine (EQ.out _ _ _ _ _ _ _ _ _ _ _ _ _ (Cells.of_own (own_below xj_6 hX7)) (Cells.of_own (own_below yj_6 hX7)) (Cells.of_own (own_below xt_6 hX7)) (Cells.of_own (own_below yt_6 hX7)) (Cells.of_own (own_below xf_6 hX7)) (Cells.of_own (own_below yf_6 hX7)) (by omega) (by omega) (by omega)).mono ?_; rintro e w7 ⟨rfl, hb7⟩; have s7 := hb7.size; have hT7 := hX7.trans (hb7.mono sX7); have b_7 := b_6.trans (hT7.mono (by omega)); have j_7 := cells_below j_6 hT7 (by omega); have t_7 := cells_below t_6 hT7 (by omega); have f_7 := cells_below f_6 hT7 (by omega); have xj_7 := own_below xj_6 hT7; have xt_7 := own_below xt_6 hT7; have xf_7 := own_below xf_6 hT7; have yj_7 := own_below yj_6 hT7; have yt_7 := own_below yt_6 hT7; have yf_7 := own_below yf_6 hT7; have a_7 := Blk.past hT7 a_6; have x_7 := Blk.past hT7 x_6; clear j_6 t_6 f_6 xj_6 xt_6 xf_6 yj_6 yt_6 yf_6 a_6 x_6 b_6 cell_a froz_a lt_a cell_x froz_x lt_x hX7 hT7 hb7; have cell_a := a_7.cell; have froz_a := a_7.frozen; have lt_a := a_7.lt; have cell_x := x_7.cell; have froz_x := x_7.frozen; have lt_x := x_7.lt))
  all_goals
    go_wp2
    go_ret
    refine ⟨rfl, b_7.trans ?_⟩
    repeat (first | (with_reducible exact Below.refl _ _) | (with_reducible refine Below.trans ?_ (Below.mono (by assumption) (by first | omega | (simp; done) | (simp; omega) | (simp [*]; done)))) | (with_reducible refine Below.alloc ?_ (by first | omega | (simp; done) | (simp; omega) | (simp [*]; done)) _) | (with_reducible refine Below.setCell ?_ (by first | omega | (simp; done) | (simp; omega) | (simp [*]; done)) _) | (with_reducible refine Below.drew ?_) | (with_reducible refine below_drewN ?_))
set_option maxRecDepth 100000 in
theorem lifted (os : Os) (started : os.Started) (H : Type) (enc : TypeId × Value → H) :
    ReturnsInHanded {} Try.checked os 5 .any (Rows.fnExactSchedOkSpec.pre6 enc Try.prog Try.f5 Rows.fnExactSchedOkRow.domain false) (Rows.fnExactSchedOkSpec.post enc Try.prog Try.f5 false true false false) := by
  refine returnsInHanded_of_change (C := Try.checked) own started (by kernel_rfl) Try.func5
    (ChangeSpec.witness6 (enc := enc) (C := Try.checked) false ⟨#[], #[.agg #[.int .i64 0, .int .i64 0, .int .i64 0, .slice none 0 0, .slice none 0 0, .slice none 0 0]], []⟩ 8 (by kernel_rfl) (by kernel_rfl) (by kernel_rfl) (by kernel_rfl)) ?_
  intro W base args ds gs before hval0 hW _ _
  have hval : ∀ (j : Nat) t v, Try.f5.params[j]? = some t → args[j]? = some v → Value.okWide Try.prog W .any base t v := hval0
  have hW' := hW
  obtain ⟨p, q, hA0, hV, rfl, _, _⟩ := hW
  have hA : DataW.TrodAll enc Try.prog W 0 (fun _ => true) true Try.f5.params.toList args.toList ds p := hA0
  rw [Try.params5] at hA hval
  obtain ⟨v0, vs0, d0, ds0, p0, q0, hargs, rfl, rfl, h0, r0⟩ := trodAll_cons hA
  obtain ⟨rfl, rfl, rfl⟩ := trodAll_nil r0
  obtain rfl : args = #[v0] := by cases args; simp_all
  obtain ⟨rfl, rfl⟩ := trodVars_none hV
  obtain ⟨S0, J0, T0, F0, cj0, ct0, cf0, rfl, hj0, ht0, hf0, bj0, bt0, bf0⟩ := view_sched (hval 0 46 v0 rfl rfl) h0 (fun x hx => hW'.lt x (by simp [hx]))
  refine (walk S0 J0 T0 F0 cj0 ct0 cf0 W hj0 ht0 hf0 bj0 bt0 bf0).mono fun e W' ⟨he, hb⟩ => ?_
  subst he
  exact ⟨_, rfl, law_post rfl (by kernel_rfl) (by kernel_rfl) rfl Try.underlying4 hW' rfl rfl rfl hb⟩
theorem closed : joinedFacts Try.prog 5 Try.f5 Rows.fnExactSchedOkSpec Rows.fnExactSchedOkRow = true := by
  unfold joinedFacts
  rw [makeIs, mayIs, finalsIs]
  kernel_rfl
theorem over : Rows.fnExactSchedOkRow.holds Try.pinned (OpenSpec.ofChange Rows.fnExactSchedOkSpec) :=
  OpenClaim.holds_of_wide 5 Try.f5 rfl rfl rfl rfl rfl rfl rfl ⟨rfl, rfl, rfl, rfl, rfl⟩ rfl rfl rfl rfl rfl (by kernel_rfl) Try.func5 closed
    (of_decide_eq_true (by kernel_rfl)) (by unfold Func.isWrapper; first | (rw [if_pos (by decide +kernel)]; kernel_rfl) | (rw [if_neg (by decide +kernel)]; exact ⟨rfl, rfl⟩))
    (fun os started H enc _ => lifted os started H enc)
theorem proved : Rows.FnExactSchedOkSaid := over
#print axioms proved

end exactSchedOk
end Go.Proofs.Ytipnhlnbokkihaa
