/- The law that SchedRun of the program returns what the reference's returns, for all arguments. No conditions. -/
import Derived.Test.YtipnhlnbokkihaaRunL
import Derived.Test.YtipnhlnbokkihaaSchedS
import Derived.Test.YtipnhlnbokkihaaSchedV
import Derived.Test.YtipnhlnbokkihaaHead
set_option linter.unusedVariables false
namespace Go.Proofs.Ytipnhlnbokkihaa
open Go.RowKit Go.ChangeShapes Go.WideShapes Go.ChangeAt

namespace exactSchedRun
set_option maxRecDepth 100000 in
set_option maxHeartbeats 6400000 in
theorem walk (S : SV) (J T F : Option Addr) (cj ct cf : Nat) (n : Int) (w : World) (hj : Cells w w.heap.size J (ints (flatJ S.js))) (ht : Cells w w.heap.size T (ints (flatT S.ts))) (hf : Cells w w.heap.size F (ints S.fs))
    (bj : S.js.length ≤ maxLen) (bt : S.ts.length ≤ maxLen) (bf : S.fs.length ≤ maxLen) :
    Calls Try.prog 12 #[.agg #[.int .i64 S.z, .int .i64 S.n, .int .i64 S.b, .slice J S.js.length cj, .slice T S.ts.length ct, .slice F S.fs.length cf], .int .i64 n] w fun e w' => e = .returned (.bool true) ∧ Below w.heap.size w w' := by
  unfold maxLen at bj bt bf
  by_cases hsz : S.js.length + S.ts.length + S.fs.length ≤ 1048576
  case neg =>
    go_enter Try.func12, Try.ntmps12
    have b_0 := (Below.refl w.heap.size w)
    have s_0 := b_0.size
    go_wp2_with fail
    refine calls_forget1 (W := w) (b0 := w.heap.size) (t0 := 46) (c0 := #[.int .i64 S.z, .int .i64 S.n, .int .i64 S.b, .slice J S.js.length cj, .slice T S.ts.length ct, .slice F S.fs.length cf]) ?_ ?_ ?_
    (focus (first | ((repeat (first | (with_reducible assumption) | (with_reducible apply Blk.drew) | (with_reducible apply Blk.drewN) | (with_reducible apply Blk.new; first | rfl | (simp; done)) | (with_reducible apply Blk.alloc) | (with_reducible apply Blk.set_) | (with_reducible apply Blk.past; focus assumption) | (with_reducible apply Blk.far; focus (first | (simp; done) | (simp; omega) | (dsimp only; omega))))); done) | (apply Blk.cast; (case h => (repeat (first | (with_reducible assumption) | (with_reducible apply Blk.drew) | (with_reducible apply Blk.drewN) | (with_reducible apply Blk.new; first | rfl | (simp; done)) | (with_reducible apply Blk.alloc) | (with_reducible apply Blk.set_) | (with_reducible apply Blk.past; focus assumption) | (with_reducible apply Blk.far; focus (first | (simp; done) | (simp; omega) | (dsimp only; omega)))))); (case e => rfl))))
    (focus (repeat (first | (with_reducible exact Below.refl _ _) | (with_reducible refine Below.trans ?_ (Below.mono (by assumption) (by first | omega | (simp; done) | (simp; omega) | (simp [*]; done)))) | (with_reducible refine Below.alloc ?_ (by first | omega | (simp; done) | (simp; omega) | (simp [*]; done)) _) | (with_reducible refine Below.setCell ?_ (by first | omega | (simp; done) | (simp; omega) | (simp [*]; done)) _) | (with_reducible refine Below.drew ?_) | (with_reducible refine below_drewN ?_))))
    intro X1 a_n hX1
    have sX1 := hX1.size
    have a_lt := a_n.lt
    refine (szSched_no _ _ _ _ _ _ _ _ _ _ _ _ _ hsz bj bt bf).mono ?_
    rintro e w1 ⟨rfl, hb1⟩
    have s1 := hb1.size
    have hT1 := hX1.trans (hb1.mono sX1)
    have b_1 := b_0.trans (hT1.mono (by omega))
    have a_1 := Blk.past hb1 a_n
    clear b_0 a_n hX1 hT1 hb1
    have cell_a := a_1.cell
    have froz_a := a_1.frozen
    have lt_a := a_1.lt
    go_wp2
    go_ret
    refine ⟨rfl, b_1.trans ?_⟩
    repeat (first | (with_reducible exact Below.refl _ _) | (with_reducible refine Below.trans ?_ (Below.mono (by assumption) (by first | omega | (simp; done) | (simp; omega) | (simp [*]; done)))) | (with_reducible refine Below.alloc ?_ (by first | omega | (simp; done) | (simp; omega) | (simp [*]; done)) _) | (with_reducible refine Below.setCell ?_ (by first | omega | (simp; done) | (simp; omega) | (simp [*]; done)) _) | (with_reducible refine Below.drew ?_) | (with_reducible refine below_drewN ?_))
  have CS := hid (fun J T F cj ct cf w h => sSchedRunL S n J T F cj ct cf w h (by omega) (by omega) (by omega))
  have CI := hid (fun J T F cj ct cf w h => iSchedRunL S n J T F cj ct cf w h (by omega) (by omega) (by omega))
  have TS := hid (fun J T F cj ct cf w h1 h2 h3 => toSched_any S.z S.n S.b J T F S.js.length cj S.ts.length ct cf (flatJ S.js) (flatT S.ts) S.fs w (flatJ_length _) (flatT_length _) h1 h2 h3 (by omega) (by omega) (by omega))
  have EQ := hid (fun J J' T T' F F' cj cj' ct ct' cf cf' w h1 h1' h2 h2' h3 h3' => eqSched_same S.z S.n S.b J J' T T' F F' S.js.length cj cj' S.ts.length ct ct' cf cf' (flatJ S.js) (flatT S.ts) S.fs w (flatJ_length _) (flatT_length _) h1 h1' h2 h2' h3 h3' (by omega) (by omega) (by omega))
  have hlen := lenSchedRun S n
  obtain ⟨R, hR⟩ : ∃ R, runS (runM n) S = R := ⟨_, rfl⟩
  rw [hR] at CS CI hlen
  obtain ⟨l1, l2, l3⟩ := hlen
  have ER := hid (fun J J' T T' F F' cj cj' ct ct' cf cf' w h1 h1' h2 h2' h3 h3' => eqSched_same R.z R.n R.b J J' T T' F F' R.js.length cj cj' R.ts.length ct ct' cf cf' (flatJ R.js) (flatT R.ts) R.fs w (flatJ_length _) (flatT_length _) h1 h1' h2 h2' h3 h3' (by omega) (by omega) (by omega))
  clear hR
  obtain ⟨cnt, hcnt⟩ : ∃ x : Int, ((runN (runM n) S : Nat) : Int) = x := ⟨_, rfl⟩
  rw [hcnt] at CS CI
  clear hcnt
  go_enter Try.func12, Try.ntmps12
  have b_0 := (Below.refl w.heap.size w)
  have s_0 := b_0.size
  have j_0 := hj
  clear hj
  have t_0 := ht
  clear ht
  have f_0 := hf
  clear hf
  go_wp2_with fail
  refine calls_forget1 (W := w) (b0 := w.heap.size) (t0 := 46) (c0 := #[.int .i64 S.z, .int .i64 S.n, .int .i64 S.b, .slice J S.js.length cj, .slice T S.ts.length ct, .slice F S.fs.length cf]) ?_ ?_ ?_
  (focus (first | ((repeat (first | (with_reducible assumption) | (with_reducible apply Blk.drew) | (with_reducible apply Blk.drewN) | (with_reducible apply Blk.new; first | rfl | (simp; done)) | (with_reducible apply Blk.alloc) | (with_reducible apply Blk.set_) | (with_reducible apply Blk.past; focus assumption) | (with_reducible apply Blk.far; focus (first | (simp; done) | (simp; omega) | (dsimp only; omega))))); done) | (apply Blk.cast; (case h => (repeat (first | (with_reducible assumption) | (with_reducible apply Blk.drew) | (with_reducible apply Blk.drewN) | (with_reducible apply Blk.new; first | rfl | (simp; done)) | (with_reducible apply Blk.alloc) | (with_reducible apply Blk.set_) | (with_reducible apply Blk.past; focus assumption) | (with_reducible apply Blk.far; focus (first | (simp; done) | (simp; omega) | (dsimp only; omega)))))); (case e => rfl))))
  (focus (repeat (first | (with_reducible exact Below.refl _ _) | (with_reducible refine Below.trans ?_ (Below.mono (by assumption) (by first | omega | (simp; done) | (simp; omega) | (simp [*]; done)))) | (with_reducible refine Below.alloc ?_ (by first | omega | (simp; done) | (simp; omega) | (simp [*]; done)) _) | (with_reducible refine Below.setCell ?_ (by first | omega | (simp; done) | (simp; omega) | (simp [*]; done)) _) | (with_reducible refine Below.drew ?_) | (with_reducible refine below_drewN ?_))))
  intro X1 a_n hX1
  have sX1 := hX1.size
  have a_lt := a_n.lt
  refine (szSched_ok _ _ _ _ _ _ _ _ _ _ _ _ _ hsz).mono ?_
  rintro e w1 ⟨rfl, hb1⟩
  have s1 := hb1.size
  have hT1 := hX1.trans (hb1.mono sX1)
  have b_1 := b_0.trans (hT1.mono (by omega))
  have j_1 := cells_below j_0 hT1 (by omega)
  have t_1 := cells_below t_0 hT1 (by omega)
  have f_1 := cells_below f_0 hT1 (by omega)
  have a_1 := Blk.past hb1 a_n
  clear j_0 t_0 f_0 b_0 a_n hX1 hT1 hb1
  have cell_a := a_1.cell
  have froz_a := a_1.frozen
  have lt_a := a_1.lt
  go_wp2_with fail
  refine calls_forget0 (W := w1) ?_ ?_
  (focus (repeat (first | (with_reducible exact Below.refl _ _) | (with_reducible refine Below.trans ?_ (Below.mono (by assumption) (by first | omega | (simp; done) | (simp; omega) | (simp [*]; done)))) | (with_reducible refine Below.alloc ?_ (by first | omega | (simp; done) | (simp; omega) | (simp [*]; done)) _) | (with_reducible refine Below.setCell ?_ (by first | omega | (simp; done) | (simp; omega) | (simp [*]; done)) _) | (with_reducible refine Below.drew ?_) | (with_reducible refine below_drewN ?_))))
  intro X2 hX2
  have sX2 := hX2.size
  refine (TS.out _ _ _ _ _ _ _ ((cells_below j_1 hX2 (by omega)).more (by omega)) ((cells_below t_1 hX2 (by omega)).more (by omega)) ((cells_below f_1 hX2 (by omega)).more (by omega))).mono ?_
  rintro e w2 ⟨Aj, At, Af, rfl, pj_2, pt_2, pf_2, hb2⟩
  have s2 := hb2.size
  have hT2 := hX2.trans (hb2.mono sX2)
  have b_2 := b_1.trans (hT2.mono (by omega))
  have j_2 := cells_below j_1 hT2 (by omega)
  have t_2 := cells_below t_1 hT2 (by omega)
  have f_2 := cells_below f_1 hT2 (by omega)
  have a_2 := Blk.past hT2 a_1
  have pj_in := own_in pj_2
  have pt_in := own_in pt_2
  have pf_in := own_in pf_2
  clear j_1 t_1 f_1 a_1 b_1 cell_a froz_a lt_a hX2 hT2 hb2
  have cell_a := a_2.cell
  have froz_a := a_2.frozen
  have lt_a := a_2.lt
  go_wp2_with fail
  refine calls_forget0 (W := w2) ?_ ?_
  (focus (repeat (first | (with_reducible exact Below.refl _ _) | (with_reducible refine Below.trans ?_ (Below.mono (by assumption) (by first | omega | (simp; done) | (simp; omega) | (simp [*]; done)))) | (with_reducible refine Below.alloc ?_ (by first | omega | (simp; done) | (simp; omega) | (simp [*]; done)) _) | (with_reducible refine Below.setCell ?_ (by first | omega | (simp; done) | (simp; omega) | (simp [*]; done)) _) | (with_reducible refine Below.drew ?_) | (with_reducible refine below_drewN ?_))))
  intro X3 hX3
  have sX3 := hX3.size
  refine (CS.out _ _ _ _ _ _ _ ⟨own_weak (own_below pj_2 hX3) (Nat.zero_le _), own_weak (own_below pt_2 hX3) (Nat.zero_le _), own_weak (own_below pf_2 hX3) (Nat.zero_le _)⟩).mono ?_
  rintro e w3 ⟨Uj, uj', Ut, ut', Uf, uf', rfl, uj_3, ut_3, uf_3, hb3⟩
  have s3 := hb3.size
  have hT3 := hX3.trans (hb3.mono sX3)
  have b_3 := b_2.trans (hT3.mono (by omega))
  have j_3 := cells_below j_2 hT3 (by omega)
  have t_3 := cells_below t_2 hT3 (by omega)
  have f_3 := cells_below f_2 hT3 (by omega)
  have pj_3 := own_below pj_2 hT3
  have pt_3 := own_below pt_2 hT3
  have pf_3 := own_below pf_2 hT3
  have a_3 := Blk.past hT3 a_2
  have uj_in := own_in uj_3
  have ut_in := own_in ut_3
  have uf_in := own_in uf_3
  clear j_2 t_2 f_2 pj_2 pt_2 pf_2 a_2 b_2 cell_a froz_a lt_a hX3 hT3 hb3
  have cell_a := a_3.cell
  have froz_a := a_3.frozen
  have lt_a := a_3.lt
  clear pj_3
  clear pt_3
  clear pf_3
  go_wp2_with fail
  refine calls_forget1 (W := w3) (b0 := w3.heap.size) (t0 := 31) (c0 := #[.int .i64 R.z, .int .i64 R.n, .int .i64 R.b, .slice Uj R.js.length uj', .slice Ut R.ts.length ut', .slice Uf R.fs.length uf']) ?_ ?_ ?_
  (focus (first | ((repeat (first | (with_reducible assumption) | (with_reducible apply Blk.drew) | (with_reducible apply Blk.drewN) | (with_reducible apply Blk.new; first | rfl | (simp; done)) | (with_reducible apply Blk.alloc) | (with_reducible apply Blk.set_) | (with_reducible apply Blk.past; focus assumption) | (with_reducible apply Blk.far; focus (first | (simp; done) | (simp; omega) | (dsimp only; omega))))); done) | (apply Blk.cast; (case h => (repeat (first | (with_reducible assumption) | (with_reducible apply Blk.drew) | (with_reducible apply Blk.drewN) | (with_reducible apply Blk.new; first | rfl | (simp; done)) | (with_reducible apply Blk.alloc) | (with_reducible apply Blk.set_) | (with_reducible apply Blk.past; focus assumption) | (with_reducible apply Blk.far; focus (first | (simp; done) | (simp; omega) | (dsimp only; omega)))))); (case e => rfl))))
  (focus (repeat (first | (with_reducible exact Below.refl _ _) | (with_reducible refine Below.trans ?_ (Below.mono (by assumption) (by first | omega | (simp; done) | (simp; omega) | (simp [*]; done)))) | (with_reducible refine Below.alloc ?_ (by first | omega | (simp; done) | (simp; omega) | (simp [*]; done)) _) | (with_reducible refine Below.setCell ?_ (by first | omega | (simp; done) | (simp; omega) | (simp [*]; done)) _) | (with_reducible refine Below.drew ?_) | (with_reducible refine below_drewN ?_))))
  intro X4 u_n hX4
  have sX4 := hX4.size
  have u_lt := u_n.lt
  refine (TS.out _ _ _ _ _ _ _ ((cells_below j_3 hX4 (by omega)).more (by omega)) ((cells_below t_3 hX4 (by omega)).more (by omega)) ((cells_below f_3 hX4 (by omega)).more (by omega))).mono ?_
  rintro e w4 ⟨Bj, Bt, Bf, rfl, xj_4, xt_4, xf_4, hb4⟩
  have s4 := hb4.size
  have hT4 := hX4.trans (hb4.mono sX4)
  have b_4 := b_3.trans (hT4.mono (by omega))
  have j_4 := cells_below j_3 hT4 (by omega)
  have t_4 := cells_below t_3 hT4 (by omega)
  have f_4 := cells_below f_3 hT4 (by omega)
  have uj_4 := own_below uj_3 hT4
  have ut_4 := own_below ut_3 hT4
  have uf_4 := own_below uf_3 hT4
  have a_4 := Blk.past hT4 a_3
  have u_4 := Blk.past hb4 u_n
  have xj_in := own_in xj_4
  have xt_in := own_in xt_4
  have xf_in := own_in xf_4
  clear j_3 t_3 f_3 uj_3 ut_3 uf_3 a_3 b_3 cell_a froz_a lt_a u_n hX4 hT4 hb4
  have cell_a := a_4.cell
  have froz_a := a_4.frozen
  have lt_a := a_4.lt
  have cell_u := u_4.cell
  have froz_u := u_4.frozen
  have lt_u := u_4.lt
  go_wp2_with fail
  refine calls_forget1 (W := w4) (b0 := w4.heap.size) (t0 := 31) (c0 := #[.int .i64 S.z, .int .i64 S.n, .int .i64 S.b, .slice Bj S.js.length S.js.length, .slice Bt S.ts.length S.ts.length, .slice Bf S.fs.length S.fs.length]) ?_ ?_ ?_
  (focus (first | ((repeat (first | (with_reducible assumption) | (with_reducible apply Blk.drew) | (with_reducible apply Blk.drewN) | (with_reducible apply Blk.new; first | rfl | (simp; done)) | (with_reducible apply Blk.alloc) | (with_reducible apply Blk.set_) | (with_reducible apply Blk.past; focus assumption) | (with_reducible apply Blk.far; focus (first | (simp; done) | (simp; omega) | (dsimp only; omega))))); done) | (apply Blk.cast; (case h => (repeat (first | (with_reducible assumption) | (with_reducible apply Blk.drew) | (with_reducible apply Blk.drewN) | (with_reducible apply Blk.new; first | rfl | (simp; done)) | (with_reducible apply Blk.alloc) | (with_reducible apply Blk.set_) | (with_reducible apply Blk.past; focus assumption) | (with_reducible apply Blk.far; focus (first | (simp; done) | (simp; omega) | (dsimp only; omega)))))); (case e => rfl))))
  (focus (repeat (first | (with_reducible exact Below.refl _ _) | (with_reducible refine Below.trans ?_ (Below.mono (by assumption) (by first | omega | (simp; done) | (simp; omega) | (simp [*]; done)))) | (with_reducible refine Below.alloc ?_ (by first | omega | (simp; done) | (simp; omega) | (simp [*]; done)) _) | (with_reducible refine Below.setCell ?_ (by first | omega | (simp; done) | (simp; omega) | (simp [*]; done)) _) | (with_reducible refine Below.drew ?_) | (with_reducible refine below_drewN ?_))))
  intro X5 x_n hX5
  have sX5 := hX5.size
  have x_lt := x_n.lt
  refine (CI.out _ _ _ _ _ _ _ ⟨own_weak (own_below xj_4 hX5) (Nat.zero_le _), own_weak (own_below xt_4 hX5) (Nat.zero_le _), own_weak (own_below xf_4 hX5) (Nat.zero_le _)⟩).mono ?_
  rintro e w5 ⟨Gj, gj', Gt, gt', Gf, gf', rfl, gj_5, gt_5, gf_5, hb5⟩
  have s5 := hb5.size
  have hT5 := hX5.trans (hb5.mono sX5)
  have b_5 := b_4.trans (hT5.mono (by omega))
  have j_5 := cells_below j_4 hT5 (by omega)
  have t_5 := cells_below t_4 hT5 (by omega)
  have f_5 := cells_below f_4 hT5 (by omega)
  have uj_5 := own_below uj_4 hT5
  have ut_5 := own_below ut_4 hT5
  have uf_5 := own_below uf_4 hT5
  have xj_5 := own_below xj_4 hT5
  have xt_5 := own_below xt_4 hT5
  have xf_5 := own_below xf_4 hT5
  have a_5 := Blk.past hT5 a_4
  have u_5 := Blk.past hT5 u_4
  have x_5 := Blk.past hb5 x_n
  have gj_in := own_in gj_5
  have gt_in := own_in gt_5
  have gf_in := own_in gf_5
  clear j_4 t_4 f_4 uj_4 ut_4 uf_4 xj_4 xt_4 xf_4 a_4 u_4 b_4 cell_a froz_a lt_a cell_u froz_u lt_u x_n hX5 hT5 hb5
  have cell_a := a_5.cell
  have froz_a := a_5.frozen
  have lt_a := a_5.lt
  have cell_u := u_5.cell
  have froz_u := u_5.frozen
  have lt_u := u_5.lt
  have cell_x := x_5.cell
  have froz_x := x_5.frozen
  have lt_x := x_5.lt
  go_wp2_with fail
  refine calls_forget1 (W := w5) (b0 := w5.heap.size) (t0 := 31) (c0 := #[.int .i64 R.z, .int .i64 R.n, .int .i64 R.b, .slice Gj R.js.length gj', .slice Gt R.ts.length gt', .slice Gf R.fs.length gf']) ?_ ?_ ?_
  (focus (first | ((repeat (first | (with_reducible assumption) | (with_reducible apply Blk.drew) | (with_reducible apply Blk.drewN) | (with_reducible apply Blk.new; first | rfl | (simp; done)) | (with_reducible apply Blk.alloc) | (with_reducible apply Blk.set_) | (with_reducible apply Blk.past; focus assumption) | (with_reducible apply Blk.far; focus (first | (simp; done) | (simp; omega) | (dsimp only; omega))))); done) | (apply Blk.cast; (case h => (repeat (first | (with_reducible assumption) | (with_reducible apply Blk.drew) | (with_reducible apply Blk.drewN) | (with_reducible apply Blk.new; first | rfl | (simp; done)) | (with_reducible apply Blk.alloc) | (with_reducible apply Blk.set_) | (with_reducible apply Blk.past; focus assumption) | (with_reducible apply Blk.far; focus (first | (simp; done) | (simp; omega) | (dsimp only; omega)))))); (case e => rfl))))
  (focus (repeat (first | (with_reducible exact Below.refl _ _) | (with_reducible refine Below.trans ?_ (Below.mono (by assumption) (by first | omega | (simp; done) | (simp; omega) | (simp [*]; done)))) | (with_reducible refine Below.alloc ?_ (by first | omega | (simp; done) | (simp; omega) | (simp [*]; done)) _) | (with_reducible refine Below.setCell ?_ (by first | omega | (simp; done) | (simp; omega) | (simp [*]; done)) _) | (with_reducible refine Below.drew ?_) | (with_reducible refine below_drewN ?_))))
  intro X6 g_n hX6
  have sX6 := hX6.size
  have g_lt := g_n.lt
  refine (ER.out _ _ _ _ _ _ _ _ _ _ _ _ _ (Cells.of_own (own_below gj_5 hX6)) (Cells.of_own (own_below uj_5 hX6)) (Cells.of_own (own_below gt_5 hX6)) (Cells.of_own (own_below ut_5 hX6)) (Cells.of_own (own_below gf_5 hX6)) (Cells.of_own (own_below uf_5 hX6))).mono ?_
  rintro e w6 ⟨rfl, hb6⟩
  have s6 := hb6.size
  have hT6 := hX6.trans (hb6.mono sX6)
  have b_6 := b_5.trans (hT6.mono (by omega))
  have j_6 := cells_below j_5 hT6 (by omega)
  have t_6 := cells_below t_5 hT6 (by omega)
  have f_6 := cells_below f_5 hT6 (by omega)
  have uj_6 := own_below uj_5 hT6
  have ut_6 := own_below ut_5 hT6
  have uf_6 := own_below uf_5 hT6
  have xj_6 := own_below xj_5 hT6
  have xt_6 := own_below xt_5 hT6
  have xf_6 := own_below xf_5 hT6
  have gj_6 := own_below gj_5 hT6
  have gt_6 := own_below gt_5 hT6
  have gf_6 := own_below gf_5 hT6
  have a_6 := Blk.past hT6 a_5
  have u_6 := Blk.past hT6 u_5
  have x_6 := Blk.past hT6 x_5
  have g_6 := Blk.past hb6 g_n
  clear j_5 t_5 f_5 uj_5 ut_5 uf_5 xj_5 xt_5 xf_5 gj_5 gt_5 gf_5 a_5 u_5 x_5 b_5 cell_a froz_a lt_a cell_u froz_u lt_u cell_x froz_x lt_x g_n hX6 hT6 hb6
  have cell_a := a_6.cell
  have froz_a := a_6.frozen
  have lt_a := a_6.lt
  have cell_u := u_6.cell
  have froz_u := u_6.frozen
  have lt_u := u_6.lt
  have cell_x := x_6.cell
  have froz_x := x_6.frozen
  have lt_x := x_6.lt
  have cell_g := g_6.cell
  have froz_g := g_6.frozen
  have lt_g := g_6.lt
  go_wp2_with fail
  go_region_held3 (fun w' => w'.cell? ⟨w.heap.size, 0, none⟩ = some (.int .i64 S.z) ∧ w'.cell? ⟨w.heap.size, 1, none⟩ = some (.int .i64 S.n) ∧ w'.cell? ⟨w.heap.size, 2, none⟩ = some (.int .i64 S.b) ∧ w'.cell? ⟨w.heap.size, 3, none⟩ = some (.slice J S.js.length cj) ∧ w'.cell? ⟨w.heap.size, 4, none⟩ = some (.slice T S.ts.length ct) ∧ w'.cell? ⟨w.heap.size, 5, none⟩ = some (.slice F S.fs.length cf) ∧ w'.cell? ⟨w4.heap.size, 0, none⟩ = some (.int .i64 S.z) ∧ w'.cell? ⟨w4.heap.size, 1, none⟩ = some (.int .i64 S.n) ∧ w'.cell? ⟨w4.heap.size, 2, none⟩ = some (.int .i64 S.b) ∧ w'.cell? ⟨w4.heap.size, 3, none⟩ = some (.slice Bj S.js.length S.js.length) ∧ w'.cell? ⟨w4.heap.size, 4, none⟩ = some (.slice Bt S.ts.length S.ts.length) ∧ w'.cell? ⟨w4.heap.size, 5, none⟩ = some (.slice Bf S.fs.length S.fs.length)) (exact ⟨(Blk.cell (t := 46) (cs := #[.int .i64 S.z, .int .i64 S.n, .int .i64 S.b, .slice J S.js.length cj, .slice T S.ts.length ct, .slice F S.fs.length cf]) (by repeat (first | (with_reducible assumption) | (with_reducible apply Blk.drew) | (with_reducible apply Blk.drewN) | (with_reducible apply Blk.new; first | rfl | (simp; done)) | (with_reducible apply Blk.alloc) | (with_reducible apply Blk.set_) | (with_reducible apply Blk.past; focus assumption) | (with_reducible apply Blk.far; focus (first | (simp; done) | (simp; omega) | (dsimp only; omega))))) 0), (Blk.cell (t := 46) (cs := #[.int .i64 S.z, .int .i64 S.n, .int .i64 S.b, .slice J S.js.length cj, .slice T S.ts.length ct, .slice F S.fs.length cf]) (by repeat (first | (with_reducible assumption) | (with_reducible apply Blk.drew) | (with_reducible apply Blk.drewN) | (with_reducible apply Blk.new; first | rfl | (simp; done)) | (with_reducible apply Blk.alloc) | (with_reducible apply Blk.set_) | (with_reducible apply Blk.past; focus assumption) | (with_reducible apply Blk.far; focus (first | (simp; done) | (simp; omega) | (dsimp only; omega))))) 1), (Blk.cell (t := 46) (cs := #[.int .i64 S.z, .int .i64 S.n, .int .i64 S.b, .slice J S.js.length cj, .slice T S.ts.length ct, .slice F S.fs.length cf]) (by repeat (first | (with_reducible assumption) | (with_reducible apply Blk.drew) | (with_reducible apply Blk.drewN) | (with_reducible apply Blk.new; first | rfl | (simp; done)) | (with_reducible apply Blk.alloc) | (with_reducible apply Blk.set_) | (with_reducible apply Blk.past; focus assumption) | (with_reducible apply Blk.far; focus (first | (simp; done) | (simp; omega) | (dsimp only; omega))))) 2), (Blk.cell (t := 46) (cs := #[.int .i64 S.z, .int .i64 S.n, .int .i64 S.b, .slice J S.js.length cj, .slice T S.ts.length ct, .slice F S.fs.length cf]) (by repeat (first | (with_reducible assumption) | (with_reducible apply Blk.drew) | (with_reducible apply Blk.drewN) | (with_reducible apply Blk.new; first | rfl | (simp; done)) | (with_reducible apply Blk.alloc) | (with_reducible apply Blk.set_) | (with_reducible apply Blk.past; focus assumption) | (with_reducible apply Blk.far; focus (first | (simp; done) | (simp; omega) | (dsimp only; omega))))) 3), (Blk.cell (t := 46) (cs := #[.int .i64 S.z, .int .i64 S.n, .int .i64 S.b, .slice J S.js.length cj, .slice T S.ts.length ct, .slice F S.fs.length cf]) (by repeat (first | (with_reducible assumption) | (with_reducible apply Blk.drew) | (with_reducible apply Blk.drewN) | (with_reducible apply Blk.new; first | rfl | (simp; done)) | (with_reducible apply Blk.alloc) | (with_reducible apply Blk.set_) | (with_reducible apply Blk.past; focus assumption) | (with_reducible apply Blk.far; focus (first | (simp; done) | (simp; omega) | (dsimp only; omega))))) 4), (Blk.cell (t := 46) (cs := #[.int .i64 S.z, .int .i64 S.n, .int .i64 S.b, .slice J S.js.length cj, .slice T S.ts.length ct, .slice F S.fs.length cf]) (by repeat (first | (with_reducible assumption) | (with_reducible apply Blk.drew) | (with_reducible apply Blk.drewN) | (with_reducible apply Blk.new; first | rfl | (simp; done)) | (with_reducible apply Blk.alloc) | (with_reducible apply Blk.set_) | (with_reducible apply Blk.past; focus assumption) | (with_reducible apply Blk.far; focus (first | (simp; done) | (simp; omega) | (dsimp only; omega))))) 5), (Blk.cell (t := 31) (cs := #[.int .i64 S.z, .int .i64 S.n, .int .i64 S.b, .slice Bj S.js.length S.js.length, .slice Bt S.ts.length S.ts.length, .slice Bf S.fs.length S.fs.length]) (by repeat (first | (with_reducible assumption) | (with_reducible apply Blk.drew) | (with_reducible apply Blk.drewN) | (with_reducible apply Blk.new; first | rfl | (simp; done)) | (with_reducible apply Blk.alloc) | (with_reducible apply Blk.set_) | (with_reducible apply Blk.past; focus assumption) | (with_reducible apply Blk.far; focus (first | (simp; done) | (simp; omega) | (dsimp only; omega))))) 0), (Blk.cell (t := 31) (cs := #[.int .i64 S.z, .int .i64 S.n, .int .i64 S.b, .slice Bj S.js.length S.js.length, .slice Bt S.ts.length S.ts.length, .slice Bf S.fs.length S.fs.length]) (by repeat (first | (with_reducible assumption) | (with_reducible apply Blk.drew) | (with_reducible apply Blk.drewN) | (with_reducible apply Blk.new; first | rfl | (simp; done)) | (with_reducible apply Blk.alloc) | (with_reducible apply Blk.set_) | (with_reducible apply Blk.past; focus assumption) | (with_reducible apply Blk.far; focus (first | (simp; done) | (simp; omega) | (dsimp only; omega))))) 1), (Blk.cell (t := 31) (cs := #[.int .i64 S.z, .int .i64 S.n, .int .i64 S.b, .slice Bj S.js.length S.js.length, .slice Bt S.ts.length S.ts.length, .slice Bf S.fs.length S.fs.length]) (by repeat (first | (with_reducible assumption) | (with_reducible apply Blk.drew) | (with_reducible apply Blk.drewN) | (with_reducible apply Blk.new; first | rfl | (simp; done)) | (with_reducible apply Blk.alloc) | (with_reducible apply Blk.set_) | (with_reducible apply Blk.past; focus assumption) | (with_reducible apply Blk.far; focus (first | (simp; done) | (simp; omega) | (dsimp only; omega))))) 2), (Blk.cell (t := 31) (cs := #[.int .i64 S.z, .int .i64 S.n, .int .i64 S.b, .slice Bj S.js.length S.js.length, .slice Bt S.ts.length S.ts.length, .slice Bf S.fs.length S.fs.length]) (by repeat (first | (with_reducible assumption) | (with_reducible apply Blk.drew) | (with_reducible apply Blk.drewN) | (with_reducible apply Blk.new; first | rfl | (simp; done)) | (with_reducible apply Blk.alloc) | (with_reducible apply Blk.set_) | (with_reducible apply Blk.past; focus assumption) | (with_reducible apply Blk.far; focus (first | (simp; done) | (simp; omega) | (dsimp only; omega))))) 3), (Blk.cell (t := 31) (cs := #[.int .i64 S.z, .int .i64 S.n, .int .i64 S.b, .slice Bj S.js.length S.js.length, .slice Bt S.ts.length S.ts.length, .slice Bf S.fs.length S.fs.length]) (by repeat (first | (with_reducible assumption) | (with_reducible apply Blk.drew) | (with_reducible apply Blk.drewN) | (with_reducible apply Blk.new; first | rfl | (simp; done)) | (with_reducible apply Blk.alloc) | (with_reducible apply Blk.set_) | (with_reducible apply Blk.past; focus assumption) | (with_reducible apply Blk.far; focus (first | (simp; done) | (simp; omega) | (dsimp only; omega))))) 4), (Blk.cell (t := 31) (cs := #[.int .i64 S.z, .int .i64 S.n, .int .i64 S.b, .slice Bj S.js.length S.js.length, .slice Bt S.ts.length S.ts.length, .slice Bf S.fs.length S.fs.length]) (by repeat (first | (with_reducible assumption) | (with_reducible apply Blk.drew) | (with_reducible apply Blk.drewN) | (with_reducible apply Blk.new; first | rfl | (simp; done)) | (with_reducible apply Blk.alloc) | (with_reducible apply Blk.set_) | (with_reducible apply Blk.past; focus assumption) | (with_reducible apply Blk.far; focus (first | (simp; done) | (simp; omega) | (dsimp only; omega))))) 5)⟩) (first | (go_at_call 24; refine calls_forget0 (W := w6) ?_ ?_; (focus (repeat (first | (with_reducible exact Below.refl _ _) | (with_reducible refine Below.trans ?_ (Below.mono (by assumption) (by first | omega | (simp; done) | (simp; omega) | (simp [*]; done)))) | (with_reducible refine Below.alloc ?_ (by first | omega | (simp; done) | (simp; omega) | (simp [*]; done)) _) | (with_reducible refine Below.setCell ?_ (by first | omega | (simp; done) | (simp; omega) | (simp [*]; done)) _) | (with_reducible refine Below.drew ?_) | (with_reducible refine below_drewN ?_)))); intro X7 hX7; have sX7 := hX7.size; refine (TS.out _ _ _ _ _ _ _ ((cells_below j_6 hX7 (by omega)).more (by omega)) ((cells_below t_6 hX7 (by omega)).more (by omega)) ((cells_below f_6 hX7 (by omega)).more (by omega))).mono ?_; rintro e w7 ⟨Cj, Ct, Cf, rfl, yj_7, yt_7, yf_7, hb7⟩; have s7 := hb7.size; have hT7 := hX7.trans (hb7.mono sX7); have b_7 := b_6.trans (hT7.mono (by omega)); have j_7 := cells_below j_6 hT7 (by omega); have t_7 := cells_below t_6 hT7 (by omega); have f_7 := cells_below f_6 hT7 (by omega); have uj_7 := own_below uj_6 hT7; have ut_7 := own_below ut_6 hT7; have uf_7 := own_below uf_6 hT7; have xj_7 := own_below xj_6 hT7; have xt_7 := own_below xt_6 hT7; have xf_7 := own_below xf_6 hT7; have gj_7 := own_below gj_6 hT7; have gt_7 := own_below gt_6 hT7; have gf_7 := own_below gf_6 hT7; have a_7 := Blk.past hT7 a_6; have u_7 := Blk.past hT7 u_6; have x_7 := Blk.past hT7 x_6; have g_7 := Blk.past hT7 g_6; have yj_in := own_in yj_7; have yt_in := own_in yt_7; have yf_in := own_in yf_7; clear j_6 t_6 f_6 uj_6 ut_6 uf_6 xj_6 xt_6 xf_6 gj_6 gt_6 gf_6 a_6 u_6 x_6 g_6 b_6 cell_a froz_a lt_a cell_u froz_u lt_u cell_x froz_x lt_x cell_g froz_g lt_g hX7 hT7 hb7; have cell_a := a_7.cell; have froz_a := a_7.frozen; have lt_a := a_7.lt; have cell_u := u_7.cell; have froz_u := u_7.frozen; have lt_u := u_7.lt; have cell_x := x_7.cell; have froz_x := x_7.frozen; have lt_x := x_7.lt; have cell_g := g_7.cell; have froz_g := g_7.frozen; have lt_g := g_7.lt) | (go_at_call 19; refine calls_forget0 (W := w7) ?_ ?_; (focus (repeat (first | (with_reducible exact Below.refl _ _) | (with_reducible refine Below.trans ?_ (Below.mono (by assumption) (by first | omega | (simp; done) | (simp; omega) | (simp [*]; done)))) | (with_reducible refine Below.alloc ?_ (by first | omega | (simp; done) | (simp; omega) | (simp [*]; done)) _) | (with_reducible refine Below.setCell ?_ (by first | omega | (simp; done) | (simp; omega) | (simp [*]; done)) _) | (with_reducible refine Below.drew ?_) | (with_reducible refine below_drewN ?_)))); intro X8 hX8; have sX8 := hX8.size; refine (EQ.out _ _ _ _ _ _ _ _ _ _ _ _ _ (Cells.of_own (own_below xj_7 hX8)) (Cells.of_own (own_below yj_7 hX8)) (Cells.of_own (own_below xt_7 hX8)) (Cells.of_own (own_below yt_7 hX8)) (Cells.of_own (own_below xf_7 hX8)) (Cells.of_own (own_below yf_7 hX8))).mono ?_; rintro e w8 ⟨rfl, hb8⟩; have s8 := hb8.size; have hT8 := hX8.trans (hb8.mono sX8); have b_8 := b_7.trans (hT8.mono (by omega)); have j_8 := cells_below j_7 hT8 (by omega); have t_8 := cells_below t_7 hT8 (by omega); have f_8 := cells_below f_7 hT8 (by omega); have uj_8 := own_below uj_7 hT8; have ut_8 := own_below ut_7 hT8; have uf_8 := own_below uf_7 hT8; have xj_8 := own_below xj_7 hT8; have xt_8 := own_below xt_7 hT8; have xf_8 := own_below xf_7 hT8; have gj_8 := own_below gj_7 hT8; have gt_8 := own_below gt_7 hT8; have gf_8 := own_below gf_7 hT8; have yj_8 := own_below yj_7 hT8; have yt_8 := own_below yt_7 hT8; have yf_8 := own_below yf_7 hT8; have a_8 := Blk.past hT8 a_7; have u_8 := Blk.past hT8 u_7; have x_8 := Blk.past hT8 x_7; have g_8 := Blk.past hT8 g_7; clear j_7 t_7 f_7 uj_7 ut_7 uf_7 xj_7 xt_7 xf_7 gj_7 gt_7 gf_7 yj_7 yt_7 yf_7 a_7 u_7 x_7 g_7 b_7 cell_a froz_a lt_a cell_u froz_u lt_u cell_x froz_x lt_x cell_g froz_g lt_g hX8 hT8 hb8; have cell_a := a_8.cell; have froz_a := a_8.frozen; have lt_a := a_8.lt; have cell_u := u_8.cell; have froz_u := u_8.frozen; have lt_u := u_8.lt; have cell_x := x_8.cell; have froz_x := x_8.frozen; have lt_x := x_8.lt; have cell_g := g_8.cell; have froz_g := g_8.frozen; have lt_g := g_8.lt))
  clear yj_8
  clear yt_8
  clear yf_8
  all_goals
    go_wp2_with fail
    refine calls_forget0 (W := w8) ?_ ?_
    (focus (repeat (first | (with_reducible exact Below.refl _ _) | (with_reducible refine Below.trans ?_ (Below.mono (by assumption) (by first | omega | (simp; done) | (simp; omega) | (simp [*]; done)))) | (with_reducible refine Below.alloc ?_ (by first | omega | (simp; done) | (simp; omega) | (simp [*]; done)) _) | (with_reducible refine Below.setCell ?_ (by first | omega | (simp; done) | (simp; omega) | (simp [*]; done)) _) | (with_reducible refine Below.drew ?_) | (with_reducible refine below_drewN ?_))))
    intro X9 hX9
    have sX9 := hX9.size
    refine (markSched_any _ _ _ _ _ _ _ _ _ _ _ _ _ _ _ _ _ _ _ _ (own_below xj_8 hX9) (own_below xt_8 hX9) (own_below xf_8 hX9) (by omega) (by omega) (by omega) (by omega) (by omega)).mono ?_
    rintro e w11 ⟨w9, w10, rfl, xj_m, xt_m, xf_m, hg9, hg10, hg11⟩
    have hT9 := below_grown hX9 hg9
    have s9 := hg9.size
    have s10 := hg10.size
    have s11 := hg11.size
    have b_9 := gr_below hT9 b_8 (by omega) (fun q hq => by have h1 := xj_in q hq; omega)
    have j_9 := gr_cells hT9 j_8 (by omega) (fun q hq => by have h1 := xj_in q hq; omega)
    have t_9 := gr_cells hT9 t_8 (by omega) (fun q hq => by have h1 := xj_in q hq; omega)
    have f_9 := gr_cells hT9 f_8 (by omega) (fun q hq => by have h1 := xj_in q hq; omega)
    have uj_9 := gr_own hT9 uj_8 (fun q p hq hp => by have h1 := xj_in q hq; have h2 := uj_in p hp; omega)
    have ut_9 := gr_own hT9 ut_8 (fun q p hq hp => by have h1 := xj_in q hq; have h2 := ut_in p hp; omega)
    have uf_9 := gr_own hT9 uf_8 (fun q p hq hp => by have h1 := xj_in q hq; have h2 := uf_in p hp; omega)
    have gj_9 := gr_own hT9 gj_8 (fun q p hq hp => by have h1 := xj_in q hq; have h2 := gj_in p hp; omega)
    have gt_9 := gr_own hT9 gt_8 (fun q p hq hp => by have h1 := xj_in q hq; have h2 := gt_in p hp; omega)
    have gf_9 := gr_own hT9 gf_8 (fun q p hq hp => by have h1 := xj_in q hq; have h2 := gf_in p hp; omega)
    have a_9 := gr_blk hT9 a_8 (fun q hq => by have h1 := xj_in q hq; omega)
    have u_9 := gr_blk hT9 u_8 (fun q hq => by have h1 := xj_in q hq; omega)
    have x_9 := gr_blk hT9 x_8 (fun q hq => by have h1 := xj_in q hq; omega)
    have g_9 := gr_blk hT9 g_8 (fun q hq => by have h1 := xj_in q hq; omega)
    clear j_8 t_8 f_8 uj_8 ut_8 uf_8 gj_8 gt_8 gf_8 a_8 u_8 x_8 g_8 b_8
    have b_10 := gr_below hg10 b_9 (by omega) (fun q hq => by have h1 := xt_in q hq; omega)
    have j_10 := gr_cells hg10 j_9 (by omega) (fun q hq => by have h1 := xt_in q hq; omega)
    have t_10 := gr_cells hg10 t_9 (by omega) (fun q hq => by have h1 := xt_in q hq; omega)
    have f_10 := gr_cells hg10 f_9 (by omega) (fun q hq => by have h1 := xt_in q hq; omega)
    have uj_10 := gr_own hg10 uj_9 (fun q p hq hp => by have h1 := xt_in q hq; have h2 := uj_in p hp; omega)
    have ut_10 := gr_own hg10 ut_9 (fun q p hq hp => by have h1 := xt_in q hq; have h2 := ut_in p hp; omega)
    have uf_10 := gr_own hg10 uf_9 (fun q p hq hp => by have h1 := xt_in q hq; have h2 := uf_in p hp; omega)
    have gj_10 := gr_own hg10 gj_9 (fun q p hq hp => by have h1 := xt_in q hq; have h2 := gj_in p hp; omega)
    have gt_10 := gr_own hg10 gt_9 (fun q p hq hp => by have h1 := xt_in q hq; have h2 := gt_in p hp; omega)
    have gf_10 := gr_own hg10 gf_9 (fun q p hq hp => by have h1 := xt_in q hq; have h2 := gf_in p hp; omega)
    have a_10 := gr_blk hg10 a_9 (fun q hq => by have h1 := xt_in q hq; omega)
    have u_10 := gr_blk hg10 u_9 (fun q hq => by have h1 := xt_in q hq; omega)
    have x_10 := gr_blk hg10 x_9 (fun q hq => by have h1 := xt_in q hq; omega)
    have g_10 := gr_blk hg10 g_9 (fun q hq => by have h1 := xt_in q hq; omega)
    clear j_9 t_9 f_9 uj_9 ut_9 uf_9 gj_9 gt_9 gf_9 a_9 u_9 x_9 g_9 b_9
    have b_11 := gr_below hg11 b_10 (by omega) (fun q hq => by have h1 := xf_in q hq; omega)
    have j_11 := gr_cells hg11 j_10 (by omega) (fun q hq => by have h1 := xf_in q hq; omega)
    have t_11 := gr_cells hg11 t_10 (by omega) (fun q hq => by have h1 := xf_in q hq; omega)
    have f_11 := gr_cells hg11 f_10 (by omega) (fun q hq => by have h1 := xf_in q hq; omega)
    have uj_11 := gr_own hg11 uj_10 (fun q p hq hp => by have h1 := xf_in q hq; have h2 := uj_in p hp; omega)
    have ut_11 := gr_own hg11 ut_10 (fun q p hq hp => by have h1 := xf_in q hq; have h2 := ut_in p hp; omega)
    have uf_11 := gr_own hg11 uf_10 (fun q p hq hp => by have h1 := xf_in q hq; have h2 := uf_in p hp; omega)
    have gj_11 := gr_own hg11 gj_10 (fun q p hq hp => by have h1 := xf_in q hq; have h2 := gj_in p hp; omega)
    have gt_11 := gr_own hg11 gt_10 (fun q p hq hp => by have h1 := xf_in q hq; have h2 := gt_in p hp; omega)
    have gf_11 := gr_own hg11 gf_10 (fun q p hq hp => by have h1 := xf_in q hq; have h2 := gf_in p hp; omega)
    have a_11 := gr_blk hg11 a_10 (fun q hq => by have h1 := xf_in q hq; omega)
    have u_11 := gr_blk hg11 u_10 (fun q hq => by have h1 := xf_in q hq; omega)
    have x_11 := gr_blk hg11 x_10 (fun q hq => by have h1 := xf_in q hq; omega)
    have g_11 := gr_blk hg11 g_10 (fun q hq => by have h1 := xf_in q hq; omega)
    clear j_10 t_10 f_10 uj_10 ut_10 uf_10 gj_10 gt_10 gf_10 a_10 u_10 x_10 g_10 b_10
    have xj_11 := xj_m
    have xt_11 := xt_m
    have xf_11 := xf_m
    clear xj_m xt_m xf_m xj_8 xt_8 xf_8 hX9 hT9 hg9 hg10 hg11 cell_a froz_a lt_a cell_u froz_u lt_u cell_x froz_x lt_x cell_g froz_g lt_g
    have cell_a := a_11.cell
    have froz_a := a_11.frozen
    have lt_a := a_11.lt
    have cell_u := u_11.cell
    have froz_u := u_11.frozen
    have lt_u := u_11.lt
    have cell_x := x_11.cell
    have froz_x := x_11.frozen
    have lt_x := x_11.lt
    have cell_g := g_11.cell
    have froz_g := g_11.frozen
    have lt_g := g_11.lt
    clear xj_11
    clear xt_11
    clear xf_11
    clear cell_x froz_x lt_x
    clear x_11
    go_wp2_with fail
    refine calls_forget0 (W := w11) ?_ ?_
    (focus (repeat (first | (with_reducible exact Below.refl _ _) | (with_reducible refine Below.trans ?_ (Below.mono (by assumption) (by first | omega | (simp; done) | (simp; omega) | (simp [*]; done)))) | (with_reducible refine Below.alloc ?_ (by first | omega | (simp; done) | (simp; omega) | (simp [*]; done)) _) | (with_reducible refine Below.setCell ?_ (by first | omega | (simp; done) | (simp; omega) | (simp [*]; done)) _) | (with_reducible refine Below.drew ?_) | (with_reducible refine below_drewN ?_))))
    intro X12 hX12
    have sX12 := hX12.size
    refine (ER.out _ _ _ _ _ _ _ _ _ _ _ _ _ (Cells.of_own (own_below gj_11 hX12)) (Cells.of_own (own_below uj_11 hX12)) (Cells.of_own (own_below gt_11 hX12)) (Cells.of_own (own_below ut_11 hX12)) (Cells.of_own (own_below gf_11 hX12)) (Cells.of_own (own_below uf_11 hX12))).mono ?_
    rintro e w12 ⟨rfl, hb12⟩
    have s12 := hb12.size
    have hT12 := hX12.trans (hb12.mono sX12)
    have b_12 := b_11.trans (hT12.mono (by omega))
    have j_12 := cells_below j_11 hT12 (by omega)
    have t_12 := cells_below t_11 hT12 (by omega)
    have f_12 := cells_below f_11 hT12 (by omega)
    have uj_12 := own_below uj_11 hT12
    have ut_12 := own_below ut_11 hT12
    have uf_12 := own_below uf_11 hT12
    have gj_12 := own_below gj_11 hT12
    have gt_12 := own_below gt_11 hT12
    have gf_12 := own_below gf_11 hT12
    have a_12 := Blk.past hT12 a_11
    have u_12 := Blk.past hT12 u_11
    have g_12 := Blk.past hT12 g_11
    clear j_11 t_11 f_11 uj_11 ut_11 uf_11 gj_11 gt_11 gf_11 a_11 u_11 g_11 b_11 cell_a froz_a lt_a cell_u froz_u lt_u cell_g froz_g lt_g hX12 hT12 hb12
    have cell_a := a_12.cell
    have froz_a := a_12.frozen
    have lt_a := a_12.lt
    have cell_u := u_12.cell
    have froz_u := u_12.frozen
    have lt_u := u_12.lt
    have cell_g := g_12.cell
    have froz_g := g_12.frozen
    have lt_g := g_12.lt
    go_wp2_with fail
    refine calls_forget0 (W := w12) ?_ ?_
    (focus (repeat (first | (with_reducible exact Below.refl _ _) | (with_reducible refine Below.trans ?_ (Below.mono (by assumption) (by first | omega | (simp; done) | (simp; omega) | (simp [*]; done)))) | (with_reducible refine Below.alloc ?_ (by first | omega | (simp; done) | (simp; omega) | (simp [*]; done)) _) | (with_reducible refine Below.setCell ?_ (by first | omega | (simp; done) | (simp; omega) | (simp [*]; done)) _) | (with_reducible refine Below.drew ?_) | (with_reducible refine below_drewN ?_))))
    intro X13 hX13
    have sX13 := hX13.size
    refine (markSched_any _ _ _ _ _ _ _ _ _ _ _ _ _ _ _ _ _ _ _ _ (own_below gj_12 hX13) (own_below gt_12 hX13) (own_below gf_12 hX13) (by omega) (by omega) (by omega) (by omega) (by omega)).mono ?_
    rintro e w15 ⟨w13, w14, rfl, gj_m, gt_m, gf_m, hg13, hg14, hg15⟩
    have hT13 := below_grown hX13 hg13
    have s13 := hg13.size
    have s14 := hg14.size
    have s15 := hg15.size
    have b_13 := gr_below hT13 b_12 (by omega) (fun q hq => by have h1 := gj_in q hq; omega)
    have j_13 := gr_cells hT13 j_12 (by omega) (fun q hq => by have h1 := gj_in q hq; omega)
    have t_13 := gr_cells hT13 t_12 (by omega) (fun q hq => by have h1 := gj_in q hq; omega)
    have f_13 := gr_cells hT13 f_12 (by omega) (fun q hq => by have h1 := gj_in q hq; omega)
    have uj_13 := gr_own hT13 uj_12 (fun q p hq hp => by have h1 := gj_in q hq; have h2 := uj_in p hp; omega)
    have ut_13 := gr_own hT13 ut_12 (fun q p hq hp => by have h1 := gj_in q hq; have h2 := ut_in p hp; omega)
    have uf_13 := gr_own hT13 uf_12 (fun q p hq hp => by have h1 := gj_in q hq; have h2 := uf_in p hp; omega)
    have a_13 := gr_blk hT13 a_12 (fun q hq => by have h1 := gj_in q hq; omega)
    have u_13 := gr_blk hT13 u_12 (fun q hq => by have h1 := gj_in q hq; omega)
    have g_13 := gr_blk hT13 g_12 (fun q hq => by have h1 := gj_in q hq; omega)
    clear j_12 t_12 f_12 uj_12 ut_12 uf_12 a_12 u_12 g_12 b_12
    have b_14 := gr_below hg14 b_13 (by omega) (fun q hq => by have h1 := gt_in q hq; omega)
    have j_14 := gr_cells hg14 j_13 (by omega) (fun q hq => by have h1 := gt_in q hq; omega)
    have t_14 := gr_cells hg14 t_13 (by omega) (fun q hq => by have h1 := gt_in q hq; omega)
    have f_14 := gr_cells hg14 f_13 (by omega) (fun q hq => by have h1 := gt_in q hq; omega)
    have uj_14 := gr_own hg14 uj_13 (fun q p hq hp => by have h1 := gt_in q hq; have h2 := uj_in p hp; omega)
    have ut_14 := gr_own hg14 ut_13 (fun q p hq hp => by have h1 := gt_in q hq; have h2 := ut_in p hp; omega)
    have uf_14 := gr_own hg14 uf_13 (fun q p hq hp => by have h1 := gt_in q hq; have h2 := uf_in p hp; omega)
    have a_14 := gr_blk hg14 a_13 (fun q hq => by have h1 := gt_in q hq; omega)
    have u_14 := gr_blk hg14 u_13 (fun q hq => by have h1 := gt_in q hq; omega)
    have g_14 := gr_blk hg14 g_13 (fun q hq => by have h1 := gt_in q hq; omega)
    clear j_13 t_13 f_13 uj_13 ut_13 uf_13 a_13 u_13 g_13 b_13
    have b_15 := gr_below hg15 b_14 (by omega) (fun q hq => by have h1 := gf_in q hq; omega)
    have j_15 := gr_cells hg15 j_14 (by omega) (fun q hq => by have h1 := gf_in q hq; omega)
    have t_15 := gr_cells hg15 t_14 (by omega) (fun q hq => by have h1 := gf_in q hq; omega)
    have f_15 := gr_cells hg15 f_14 (by omega) (fun q hq => by have h1 := gf_in q hq; omega)
    have uj_15 := gr_own hg15 uj_14 (fun q p hq hp => by have h1 := gf_in q hq; have h2 := uj_in p hp; omega)
    have ut_15 := gr_own hg15 ut_14 (fun q p hq hp => by have h1 := gf_in q hq; have h2 := ut_in p hp; omega)
    have uf_15 := gr_own hg15 uf_14 (fun q p hq hp => by have h1 := gf_in q hq; have h2 := uf_in p hp; omega)
    have a_15 := gr_blk hg15 a_14 (fun q hq => by have h1 := gf_in q hq; omega)
    have u_15 := gr_blk hg15 u_14 (fun q hq => by have h1 := gf_in q hq; omega)
    have g_15 := gr_blk hg15 g_14 (fun q hq => by have h1 := gf_in q hq; omega)
    clear j_14 t_14 f_14 uj_14 ut_14 uf_14 a_14 u_14 g_14 b_14
    have gj_15 := gj_m
    have gt_15 := gt_m
    have gf_15 := gf_m
    clear gj_m gt_m gf_m gj_12 gt_12 gf_12 hX13 hT13 hg13 hg14 hg15 cell_a froz_a lt_a cell_u froz_u lt_u cell_g froz_g lt_g
    have cell_a := a_15.cell
    have froz_a := a_15.frozen
    have lt_a := a_15.lt
    have cell_u := u_15.cell
    have froz_u := u_15.frozen
    have lt_u := u_15.lt
    have cell_g := g_15.cell
    have froz_g := g_15.frozen
    have lt_g := g_15.lt
    go_wp2_with fail
    refine calls_forget0 (W := w15) ?_ ?_
    (focus (repeat (first | (with_reducible exact Below.refl _ _) | (with_reducible refine Below.trans ?_ (Below.mono (by assumption) (by first | omega | (simp; done) | (simp; omega) | (simp [*]; done)))) | (with_reducible refine Below.alloc ?_ (by first | omega | (simp; done) | (simp; omega) | (simp [*]; done)) _) | (with_reducible refine Below.setCell ?_ (by first | omega | (simp; done) | (simp; omega) | (simp [*]; done)) _) | (with_reducible refine Below.drew ?_) | (with_reducible refine below_drewN ?_))))
    intro X16 hX16
    have sX16 := hX16.size
    refine (heldSched_any _ _ _ _ _ _ _ _ _ _ _ _ _ _ (Cells.of_own (own_below gj_15 hX16)) (Cells.of_own (own_below gt_15 hX16)) (Cells.of_own (own_below gf_15 hX16)) (by omega) (by omega) (by omega) (by omega) (by omega)).mono ?_
    rintro e w16 ⟨rfl, hb16⟩
    have s16 := hb16.size
    have hT16 := hX16.trans (hb16.mono sX16)
    have b_16 := b_15.trans (hT16.mono (by omega))
    have j_16 := cells_below j_15 hT16 (by omega)
    have t_16 := cells_below t_15 hT16 (by omega)
    have f_16 := cells_below f_15 hT16 (by omega)
    have uj_16 := own_below uj_15 hT16
    have ut_16 := own_below ut_15 hT16
    have uf_16 := own_below uf_15 hT16
    have gj_16 := own_below gj_15 hT16
    have gt_16 := own_below gt_15 hT16
    have gf_16 := own_below gf_15 hT16
    have a_16 := Blk.past hT16 a_15
    have u_16 := Blk.past hT16 u_15
    have g_16 := Blk.past hT16 g_15
    clear j_15 t_15 f_15 uj_15 ut_15 uf_15 gj_15 gt_15 gf_15 a_15 u_15 g_15 b_15 cell_a froz_a lt_a cell_u froz_u lt_u cell_g froz_g lt_g hX16 hT16 hb16
    have cell_a := a_16.cell
    have froz_a := a_16.frozen
    have lt_a := a_16.lt
    have cell_u := u_16.cell
    have froz_u := u_16.frozen
    have lt_u := u_16.lt
    have cell_g := g_16.cell
    have froz_g := g_16.frozen
    have lt_g := g_16.lt
    go_wp2_with fail
    refine calls_forget0 (W := w16) ?_ ?_
    (focus (repeat (first | (with_reducible exact Below.refl _ _) | (with_reducible refine Below.trans ?_ (Below.mono (by assumption) (by first | omega | (simp; done) | (simp; omega) | (simp [*]; done)))) | (with_reducible refine Below.alloc ?_ (by first | omega | (simp; done) | (simp; omega) | (simp [*]; done)) _) | (with_reducible refine Below.setCell ?_ (by first | omega | (simp; done) | (simp; omega) | (simp [*]; done)) _) | (with_reducible refine Below.drew ?_) | (with_reducible refine below_drewN ?_))))
    intro X17 hX17
    have sX17 := hX17.size
    refine (TS.out _ _ _ _ _ _ _ ((cells_below j_16 hX17 (by omega)).more (by omega)) ((cells_below t_16 hX17 (by omega)).more (by omega)) ((cells_below f_16 hX17 (by omega)).more (by omega))).mono ?_
    rintro e w17 ⟨Dj, Dt, Df, rfl, pj_17, pt_17, pf_17, hb17⟩
    have s17 := hb17.size
    have hT17 := hX17.trans (hb17.mono sX17)
    have b_17 := b_16.trans (hT17.mono (by omega))
    have j_17 := cells_below j_16 hT17 (by omega)
    have t_17 := cells_below t_16 hT17 (by omega)
    have f_17 := cells_below f_16 hT17 (by omega)
    have uj_17 := own_below uj_16 hT17
    have ut_17 := own_below ut_16 hT17
    have uf_17 := own_below uf_16 hT17
    have gj_17 := own_below gj_16 hT17
    have gt_17 := own_below gt_16 hT17
    have gf_17 := own_below gf_16 hT17
    have a_17 := Blk.past hT17 a_16
    have u_17 := Blk.past hT17 u_16
    have g_17 := Blk.past hT17 g_16
    have pj_in := own_in pj_17
    have pt_in := own_in pt_17
    have pf_in := own_in pf_17
    clear j_16 t_16 f_16 uj_16 ut_16 uf_16 gj_16 gt_16 gf_16 a_16 u_16 g_16 b_16 cell_a froz_a lt_a cell_u froz_u lt_u cell_g froz_g lt_g hX17 hT17 hb17
    have cell_a := a_17.cell
    have froz_a := a_17.frozen
    have lt_a := a_17.lt
    have cell_u := u_17.cell
    have froz_u := u_17.frozen
    have lt_u := u_17.lt
    have cell_g := g_17.cell
    have froz_g := g_17.frozen
    have lt_g := g_17.lt
    go_wp2_with fail
    refine calls_forget0 (W := w17) ?_ ?_
    (focus (repeat (first | (with_reducible exact Below.refl _ _) | (with_reducible refine Below.trans ?_ (Below.mono (by assumption) (by first | omega | (simp; done) | (simp; omega) | (simp [*]; done)))) | (with_reducible refine Below.alloc ?_ (by first | omega | (simp; done) | (simp; omega) | (simp [*]; done)) _) | (with_reducible refine Below.setCell ?_ (by first | omega | (simp; done) | (simp; omega) | (simp [*]; done)) _) | (with_reducible refine Below.drew ?_) | (with_reducible refine below_drewN ?_))))
    intro X18 hX18
    have sX18 := hX18.size
    refine (CI.out _ _ _ _ _ _ _ ⟨own_weak (own_below pj_17 hX18) (Nat.zero_le _), own_weak (own_below pt_17 hX18) (Nat.zero_le _), own_weak (own_below pf_17 hX18) (Nat.zero_le _)⟩).mono ?_
    rintro e w18 ⟨Hj, hj', Ht, ht', Hf, hf', rfl, hj_18, ht_18, hf_18, hb18⟩
    have s18 := hb18.size
    have hT18 := hX18.trans (hb18.mono sX18)
    have b_18 := b_17.trans (hT18.mono (by omega))
    have j_18 := cells_below j_17 hT18 (by omega)
    have t_18 := cells_below t_17 hT18 (by omega)
    have f_18 := cells_below f_17 hT18 (by omega)
    have uj_18 := own_below uj_17 hT18
    have ut_18 := own_below ut_17 hT18
    have uf_18 := own_below uf_17 hT18
    have gj_18 := own_below gj_17 hT18
    have gt_18 := own_below gt_17 hT18
    have gf_18 := own_below gf_17 hT18
    have pj_18 := own_below pj_17 hT18
    have pt_18 := own_below pt_17 hT18
    have pf_18 := own_below pf_17 hT18
    have a_18 := Blk.past hT18 a_17
    have u_18 := Blk.past hT18 u_17
    have g_18 := Blk.past hT18 g_17
    have hj_in := own_in hj_18
    have ht_in := own_in ht_18
    have hf_in := own_in hf_18
    clear j_17 t_17 f_17 uj_17 ut_17 uf_17 gj_17 gt_17 gf_17 pj_17 pt_17 pf_17 a_17 u_17 g_17 b_17 cell_a froz_a lt_a cell_u froz_u lt_u cell_g froz_g lt_g hX18 hT18 hb18
    have cell_a := a_18.cell
    have froz_a := a_18.frozen
    have lt_a := a_18.lt
    have cell_u := u_18.cell
    have froz_u := u_18.frozen
    have lt_u := u_18.lt
    have cell_g := g_18.cell
    have froz_g := g_18.frozen
    have lt_g := g_18.lt
    clear pj_18
    clear pt_18
    clear pf_18
    go_wp2_with fail
    refine calls_forget1 (W := w18) (b0 := w18.heap.size) (t0 := 31) (c0 := #[.int .i64 R.z, .int .i64 R.n, .int .i64 R.b, .slice Hj R.js.length hj', .slice Ht R.ts.length ht', .slice Hf R.fs.length hf']) ?_ ?_ ?_
    (focus (first | ((repeat (first | (with_reducible assumption) | (with_reducible apply Blk.drew) | (with_reducible apply Blk.drewN) | (with_reducible apply Blk.new; first | rfl | (simp; done)) | (with_reducible apply Blk.alloc) | (with_reducible apply Blk.set_) | (with_reducible apply Blk.past; focus assumption) | (with_reducible apply Blk.far; focus (first | (simp; done) | (simp; omega) | (dsimp only; omega))))); done) | (apply Blk.cast; (case h => (repeat (first | (with_reducible assumption) | (with_reducible apply Blk.drew) | (with_reducible apply Blk.drewN) | (with_reducible apply Blk.new; first | rfl | (simp; done)) | (with_reducible apply Blk.alloc) | (with_reducible apply Blk.set_) | (with_reducible apply Blk.past; focus assumption) | (with_reducible apply Blk.far; focus (first | (simp; done) | (simp; omega) | (dsimp only; omega)))))); (case e => rfl))))
    (focus (repeat (first | (with_reducible exact Below.refl _ _) | (with_reducible refine Below.trans ?_ (Below.mono (by assumption) (by first | omega | (simp; done) | (simp; omega) | (simp [*]; done)))) | (with_reducible refine Below.alloc ?_ (by first | omega | (simp; done) | (simp; omega) | (simp [*]; done)) _) | (with_reducible refine Below.setCell ?_ (by first | omega | (simp; done) | (simp; omega) | (simp [*]; done)) _) | (with_reducible refine Below.drew ?_) | (with_reducible refine below_drewN ?_))))
    intro X19 h_n hX19
    have sX19 := hX19.size
    have h_lt := h_n.lt
    refine (ER.out _ _ _ _ _ _ _ _ _ _ _ _ _ (Cells.of_own (own_below hj_18 hX19)) (Cells.of_own (own_below uj_18 hX19)) (Cells.of_own (own_below ht_18 hX19)) (Cells.of_own (own_below ut_18 hX19)) (Cells.of_own (own_below hf_18 hX19)) (Cells.of_own (own_below uf_18 hX19))).mono ?_
    rintro e w19 ⟨rfl, hb19⟩
    have s19 := hb19.size
    have hT19 := hX19.trans (hb19.mono sX19)
    have b_19 := b_18.trans (hT19.mono (by omega))
    have j_19 := cells_below j_18 hT19 (by omega)
    have t_19 := cells_below t_18 hT19 (by omega)
    have f_19 := cells_below f_18 hT19 (by omega)
    have uj_19 := own_below uj_18 hT19
    have ut_19 := own_below ut_18 hT19
    have uf_19 := own_below uf_18 hT19
    have gj_19 := own_below gj_18 hT19
    have gt_19 := own_below gt_18 hT19
    have gf_19 := own_below gf_18 hT19
    have hj_19 := own_below hj_18 hT19
    have ht_19 := own_below ht_18 hT19
    have hf_19 := own_below hf_18 hT19
    have a_19 := Blk.past hT19 a_18
    have u_19 := Blk.past hT19 u_18
    have g_19 := Blk.past hT19 g_18
    have h_19 := Blk.past hb19 h_n
    clear j_18 t_18 f_18 uj_18 ut_18 uf_18 gj_18 gt_18 gf_18 hj_18 ht_18 hf_18 a_18 u_18 g_18 b_18 cell_a froz_a lt_a cell_u froz_u lt_u cell_g froz_g lt_g h_n hX19 hT19 hb19
    have cell_a := a_19.cell
    have froz_a := a_19.frozen
    have lt_a := a_19.lt
    have cell_u := u_19.cell
    have froz_u := u_19.frozen
    have lt_u := u_19.lt
    have cell_g := g_19.cell
    have froz_g := g_19.frozen
    have lt_g := g_19.lt
    have cell_h := h_19.cell
    have froz_h := h_19.frozen
    have lt_h := h_19.lt
    go_wp2_with fail
    refine calls_forget0 (W := w19) ?_ ?_
    (focus (repeat (first | (with_reducible exact Below.refl _ _) | (with_reducible refine Below.trans ?_ (Below.mono (by assumption) (by first | omega | (simp; done) | (simp; omega) | (simp [*]; done)))) | (with_reducible refine Below.alloc ?_ (by first | omega | (simp; done) | (simp; omega) | (simp [*]; done)) _) | (with_reducible refine Below.setCell ?_ (by first | omega | (simp; done) | (simp; omega) | (simp [*]; done)) _) | (with_reducible refine Below.drew ?_) | (with_reducible refine below_drewN ?_))))
    intro X20 hX20
    have sX20 := hX20.size
    refine (heldSched_any _ _ _ _ _ _ _ _ _ _ _ _ _ _ (Cells.of_own (own_below gj_19 hX20)) (Cells.of_own (own_below gt_19 hX20)) (Cells.of_own (own_below gf_19 hX20)) (by omega) (by omega) (by omega) (by omega) (by omega)).mono ?_
    rintro e w20 ⟨rfl, hb20⟩
    have s20 := hb20.size
    have hT20 := hX20.trans (hb20.mono sX20)
    have b_20 := b_19.trans (hT20.mono (by omega))
    have j_20 := cells_below j_19 hT20 (by omega)
    have t_20 := cells_below t_19 hT20 (by omega)
    have f_20 := cells_below f_19 hT20 (by omega)
    have uj_20 := own_below uj_19 hT20
    have ut_20 := own_below ut_19 hT20
    have uf_20 := own_below uf_19 hT20
    have gj_20 := own_below gj_19 hT20
    have gt_20 := own_below gt_19 hT20
    have gf_20 := own_below gf_19 hT20
    have hj_20 := own_below hj_19 hT20
    have ht_20 := own_below ht_19 hT20
    have hf_20 := own_below hf_19 hT20
    have a_20 := Blk.past hT20 a_19
    have u_20 := Blk.past hT20 u_19
    have g_20 := Blk.past hT20 g_19
    have h_20 := Blk.past hT20 h_19
    clear j_19 t_19 f_19 uj_19 ut_19 uf_19 gj_19 gt_19 gf_19 hj_19 ht_19 hf_19 a_19 u_19 g_19 h_19 b_19 cell_a froz_a lt_a cell_u froz_u lt_u cell_g froz_g lt_g cell_h froz_h lt_h hX20 hT20 hb20
    have cell_a := a_20.cell
    have froz_a := a_20.frozen
    have lt_a := a_20.lt
    have cell_u := u_20.cell
    have froz_u := u_20.frozen
    have lt_u := u_20.lt
    have cell_g := g_20.cell
    have froz_g := g_20.frozen
    have lt_g := g_20.lt
    have cell_h := h_20.cell
    have froz_h := h_20.frozen
    have lt_h := h_20.lt
    go_wp2
    go_ret
    refine ⟨rfl, b_20.trans ?_⟩
    repeat (first | (with_reducible exact Below.refl _ _) | (with_reducible refine Below.trans ?_ (Below.mono (by assumption) (by first | omega | (simp; done) | (simp; omega) | (simp [*]; done)))) | (with_reducible refine Below.alloc ?_ (by first | omega | (simp; done) | (simp; omega) | (simp [*]; done)) _) | (with_reducible refine Below.setCell ?_ (by first | omega | (simp; done) | (simp; omega) | (simp [*]; done)) _) | (with_reducible refine Below.drew ?_) | (with_reducible refine below_drewN ?_))
set_option maxRecDepth 100000 in
theorem lifted (os : Os) (started : os.Started) (H : Type) (enc : TypeId × Value → H) :
    ReturnsInHanded {} Try.checked os 12 .any (Rows.fnExactSchedRunSpec.pre6 enc Try.prog Try.f12 Rows.fnExactSchedRunRow.domain false) (Rows.fnExactSchedRunSpec.post enc Try.prog Try.f12 false true false false) := by
  refine returnsInHanded_of_change (C := Try.checked) own started (by kernel_rfl) Try.func12
    (ChangeSpec.witness6 (enc := enc) (C := Try.checked) false ⟨#[], #[.agg #[.int .i64 0, .int .i64 0, .int .i64 0, .slice none 0 0, .slice none 0 0, .slice none 0 0], .int .i64 0], []⟩ 8 (by kernel_rfl) (by kernel_rfl) (by kernel_rfl) (by kernel_rfl)) ?_
  intro W base args ds gs before hval0 hW _ _
  have hval : ∀ (j : Nat) t v, Try.f12.params[j]? = some t → args[j]? = some v → Value.okWide Try.prog W .any base t v := hval0
  have hW' := hW
  obtain ⟨p, q, hA0, hV, rfl, _, _⟩ := hW
  have hA : DataW.TrodAll enc Try.prog W 0 (fun _ => true) true Try.f12.params.toList args.toList ds p := hA0
  rw [Try.params12] at hA hval
  obtain ⟨v0, vs0, d0, ds0, p0, q0, hargs, rfl, rfl, h0, r0⟩ := trodAll_cons hA
  obtain ⟨v1, vs1, d1, ds1, p1, q1, rfl, rfl, rfl, h1, r1⟩ := trodAll_cons r0
  obtain ⟨rfl, rfl, rfl⟩ := trodAll_nil r1
  obtain rfl : args = #[v0, v1] := by cases args; simp_all
  obtain ⟨rfl, rfl⟩ := trodVars_none hV
  obtain ⟨S0, J0, T0, F0, cj0, ct0, cf0, rfl, hj0, ht0, hf0, bj0, bt0, bf0⟩ := view_sched (hval 0 46 v0 rfl rfl) h0 (fun x hx => hW'.lt x (by simp [hx]))
  obtain ⟨a1, rfl, hd1, _, wa1⟩ := open_int Try.underlying3 (hval 1 3 v1 rfl rfl) h1
  refine (walk S0 J0 T0 F0 cj0 ct0 cf0 a1 W hj0 ht0 hf0 bj0 bt0 bf0).mono fun e W' ⟨he, hb⟩ => ?_
  subst he
  exact ⟨_, rfl, law_post rfl (by kernel_rfl) (by kernel_rfl) rfl Try.underlying4 hW' rfl rfl rfl hb⟩
theorem closed : joinedFacts Try.prog 12 Try.f12 Rows.fnExactSchedRunSpec Rows.fnExactSchedRunRow = true := by
  unfold joinedFacts
  rw [makeIs, mayIs, finalsIs]
  kernel_rfl
theorem over : Rows.fnExactSchedRunRow.holds Try.pinned (OpenSpec.ofChange Rows.fnExactSchedRunSpec) :=
  OpenClaim.holds_of_wide 12 Try.f12 rfl rfl rfl rfl rfl rfl rfl ⟨rfl, rfl, rfl, rfl, rfl⟩ rfl rfl rfl rfl rfl (by kernel_rfl) Try.func12 closed
    (of_decide_eq_true (by kernel_rfl)) (by unfold Func.isWrapper; first | (rw [if_pos (by decide +kernel)]; kernel_rfl) | (rw [if_neg (by decide +kernel)]; exact ⟨rfl, rfl⟩))
    (fun os started H enc _ => lifted os started H enc)
theorem proved : Rows.FnExactSchedRunSaid := over
#print axioms proved

end exactSchedRun
end Go.Proofs.Ytipnhlnbokkihaa
