/- The law that FormatSched of the program returns what the reference's returns, for all arguments: the tied card. No conditions. -/
import Derived.Test.YtknkpajedbckmaaDoorFmtSchedL
import Derived.Test.YtknkpajedbckmaaDoorStrS
import Derived.Test.YtknkpajedbckmaaDoorSchedV
import Derived.Test.YtknkpajedbckmaaDoorTabOf
set_option linter.unusedVariables false
namespace Go.Proofs.YtknkpajedbckmaaDoor
open Go.RowKit Go.ChangeShapes Go.WideShapes Go.ChangeAt

namespace fmtSched
set_option maxRecDepth 100000 in
set_option maxHeartbeats 6400000 in
theorem walk (S : SV) (J T F : Option Addr) (cj ct cf : Nat) (w : World) (hj : Cells w w.heap.size J (ints (flatJ S.js))) (ht : Cells w w.heap.size T (ints (flatT S.ts))) (hf : Cells w w.heap.size F (ints S.fs))
    (bj : S.js.length ≤ maxLen) (bt : S.ts.length ≤ maxLen) (bf : S.fs.length ≤ maxLen) (wf : ∀ x ∈ S.fs, (Lit.int .i64 x).wf = true) (htab : Tab w) :
    Calls Tryd.prog 4 #[.agg #[.int .i64 S.z, .int .i64 S.n, .int .i64 S.b, .slice J S.js.length cj, .slice T S.ts.length ct, .slice F S.fs.length cf]] w fun e w' => e = .returned (.bool true) ∧ Below w.heap.size w w' := by
  unfold maxLen at bj bt bf
  have hfr : ∀ x ∈ S.fs, in64 x := fun x hx => by
    have h := wf x hx
    simp only [Lit.wf, Bool.and_eq_true, decide_eq_true_eq] at h
    exact h
  clear wf
  have HT := hid htab
  clear htab
  by_cases hsz : S.js.length + S.ts.length + S.fs.length ≤ 1048576
  case neg =>
    go_enter Tryd.func4, Tryd.ntmps4
    have b_0 := (Below.refl w.heap.size w)
    have s_0 := b_0.size
    go_wp2_with fail
    refine calls_forget1 (W := w) (b0 := w.heap.size) (t0 := 35) (c0 := #[.int .i64 S.z, .int .i64 S.n, .int .i64 S.b, .slice J S.js.length cj, .slice T S.ts.length ct, .slice F S.fs.length cf]) ?_ ?_ ?_
    (focus (first | ((repeat (first | (with_reducible assumption) | (with_reducible apply Blk.drew) | (with_reducible apply Blk.drewN) | (with_reducible apply Blk.new; first | rfl | (simp; done)) | (with_reducible apply Blk.alloc) | (with_reducible apply Blk.set_) | (with_reducible apply Blk.past; focus assumption) | (with_reducible apply Blk.far; focus (first | (simp; done) | (simp; omega) | (dsimp only; omega))))); done) | (apply Blk.cast; (case h => (repeat (first | (with_reducible assumption) | (with_reducible apply Blk.drew) | (with_reducible apply Blk.drewN) | (with_reducible apply Blk.new; first | rfl | (simp; done)) | (with_reducible apply Blk.alloc) | (with_reducible apply Blk.set_) | (with_reducible apply Blk.past; focus assumption) | (with_reducible apply Blk.far; focus (first | (simp; done) | (simp; omega) | (dsimp only; omega)))))); (case e => rfl))))
    (focus (repeat (first | (with_reducible exact Below.refl _ _) | (with_reducible refine Below.trans ?_ (Below.mono (by assumption) (by first | omega | (simp; done) | (simp; omega) | (simp [*]; done)))) | (with_reducible refine Below.alloc ?_ (by first | omega | (simp; done) | (simp; omega) | (simp [*]; done)) _) | (with_reducible refine Below.setCell ?_ (by first | omega | (simp; done) | (simp; omega) | (simp [*]; done)) _) | (with_reducible refine Below.drew ?_) | (with_reducible refine below_drewN ?_))))
    intro X1 a_n hX1
    have sX1 := hX1.size
    have a_lt := a_n.lt
    refine (szSched_no _ _ _ _ _ _ _ _ _ _ _ _ _ hsz bj bt bf).mono ?_
    rintro e w1 ⟨rfl, hb1⟩
    have s1 := hb1.size
    have hT1 := hX1.trans (hb1.mono sX1)
    have b_1 := b_0.trans (hT1.mono (by omega))
    have a_1 := Blk.past hb1 a_n
    clear b_0 a_n hX1 hT1 hb1
    have cell_a := a_1.cell
    have froz_a := a_1.frozen
    have lt_a := a_1.lt
    go_wp2
    go_ret
    refine ⟨rfl, b_1.trans ?_⟩
    repeat (first | (with_reducible exact Below.refl _ _) | (with_reducible refine Below.trans ?_ (Below.mono (by assumption) (by first | omega | (simp; done) | (simp; omega) | (simp [*]; done)))) | (with_reducible refine Below.alloc ?_ (by first | omega | (simp; done) | (simp; omega) | (simp [*]; done)) _) | (with_reducible refine Below.setCell ?_ (by first | omega | (simp; done) | (simp; omega) | (simp [*]; done)) _) | (with_reducible refine Below.drew ?_) | (with_reducible refine below_drewN ?_))
  have CS := hid (fun J T F cj ct cf w h ht => sFormatSched S J T F cj ct cf w h (by omega) (by omega) (by omega) hfr ht)
  have CI := hid (fun J T F cj ct cf w h ht => iFormatSched S J T F cj ct cf w h (by omega) (by omega) (by omega) hfr ht)
  have TS := hid (fun J T F cj ct cf w h1 h2 h3 => toSched_any S.z S.n S.b J T F S.js.length cj S.ts.length ct cf (flatJ S.js) (flatT S.ts) S.fs w (flatJ_length _) (flatT_length _) h1 h2 h3 (by omega) (by omega) (by omega))
  have EQ := hid (fun J J' T T' F F' cj cj' ct ct' cf cf' w h1 h1' h2 h2' h3 h3' => eqSched_same S.z S.n S.b J J' T T' F F' S.js.length cj cj' S.ts.length ct ct' cf cf' (flatJ S.js) (flatT S.ts) S.fs w (flatJ_length _) (flatT_length _) h1 h1' h2 h2' h3 h3' (by omega) (by omega) (by omega))
  have hlen : (schedTxt S).length ≤ 1048579 := by
    cases hs : schedOkB S
    · rw [schedTxt_no hs]; simp
    · rw [schedTxt_length hs]; omega
  obtain ⟨R, hR⟩ : ∃ R, schedTxt S = R := ⟨_, rfl⟩
  rw [hR] at CS CI hlen
  obtain ⟨N, hN⟩ : ∃ N, R.length = N := ⟨_, rfl⟩
  rw [hN] at CS CI hlen
  have HN := hid hN
  clear hR hN hfr
  go_enter Tryd.func4, Tryd.ntmps4
  have b_0 := (Below.refl w.heap.size w)
  have s_0 := b_0.size
  have j_0 := hj
  clear hj
  have t_0 := ht
  clear ht
  have f_0 := hf
  clear hf
  go_wp2_with fail
  refine calls_forget1 (W := w) (b0 := w.heap.size) (t0 := 35) (c0 := #[.int .i64 S.z, .int .i64 S.n, .int .i64 S.b, .slice J S.js.length cj, .slice T S.ts.length ct, .slice F S.fs.length cf]) ?_ ?_ ?_
  (focus (first | ((repeat (first | (with_reducible assumption) | (with_reducible apply Blk.drew) | (with_reducible apply Blk.drewN) | (with_reducible apply Blk.new; first | rfl | (simp; done)) | (with_reducible apply Blk.alloc) | (with_reducible apply Blk.set_) | (with_reducible apply Blk.past; focus assumption) | (with_reducible apply Blk.far; focus (first | (simp; done) | (simp; omega) | (dsimp only; omega))))); done) | (apply Blk.cast; (case h => (repeat (first | (with_reducible assumption) | (with_reducible apply Blk.drew) | (with_reducible apply Blk.drewN) | (with_reducible apply Blk.new; first | rfl | (simp; done)) | (with_reducible apply Blk.alloc) | (with_reducible apply Blk.set_) | (with_reducible apply Blk.past; focus assumption) | (with_reducible apply Blk.far; focus (first | (simp; done) | (simp; omega) | (dsimp only; omega)))))); (case e => rfl))))
  (focus (repeat (first | (with_reducible exact Below.refl _ _) | (with_reducible refine Below.trans ?_ (Below.mono (by assumption) (by first | omega | (simp; done) | (simp; omega) | (simp [*]; done)))) | (with_reducible refine Below.alloc ?_ (by first | omega | (simp; done) | (simp; omega) | (simp [*]; done)) _) | (with_reducible refine Below.setCell ?_ (by first | omega | (simp; done) | (simp; omega) | (simp [*]; done)) _) | (with_reducible refine Below.drew ?_) | (with_reducible refine below_drewN ?_))))
  intro X1 a_n hX1
  have sX1 := hX1.size
  have a_lt := a_n.lt
  refine (szSched_ok _ _ _ _ _ _ _ _ _ _ _ _ _ hsz).mono ?_
  rintro e w1 ⟨rfl, hb1⟩
  have s1 := hb1.size
  have hT1 := hX1.trans (hb1.mono sX1)
  have b_1 := b_0.trans (hT1.mono (by omega))
  have j_1 := cells_below j_0 hT1 (by omega)
  have t_1 := cells_below t_0 hT1 (by omega)
  have f_1 := cells_below f_0 hT1 (by omega)
  have a_1 := Blk.past hb1 a_n
  clear j_0 t_0 f_0 b_0 a_n hX1 hT1 hb1
  have cell_a := a_1.cell
  have froz_a := a_1.frozen
  have lt_a := a_1.lt
  go_wp2_with fail
  refine calls_forget0 (W := w1) ?_ ?_
  (focus (repeat (first | (with_reducible exact Below.refl _ _) | (with_reducible refine Below.trans ?_ (Below.mono (by assumption) (by first | omega | (simp; done) | (simp; omega) | (simp [*]; done)))) | (with_reducible refine Below.alloc ?_ (by first | omega | (simp; done) | (simp; omega) | (simp [*]; done)) _) | (with_reducible refine Below.setCell ?_ (by first | omega | (simp; done) | (simp; omega) | (simp [*]; done)) _) | (with_reducible refine Below.drew ?_) | (with_reducible refine below_drewN ?_))))
  intro X2 hX2
  have sX2 := hX2.size
  refine (TS.out _ _ _ _ _ _ _ ((cells_below j_1 hX2 (by omega)).more (by omega)) ((cells_below t_1 hX2 (by omega)).more (by omega)) ((cells_below f_1 hX2 (by omega)).more (by omega))).mono ?_
  rintro e w2 ⟨Aj, At, Af, rfl, pj_2, pt_2, pf_2, hb2⟩
  have s2 := hb2.size
  have hT2 := hX2.trans (hb2.mono sX2)
  have b_2 := b_1.trans (hT2.mono (by omega))
  have j_2 := cells_below j_1 hT2 (by omega)
  have t_2 := cells_below t_1 hT2 (by omega)
  have f_2 := cells_below f_1 hT2 (by omega)
  have a_2 := Blk.past hT2 a_1
  have pj_in := own_in pj_2
  have pt_in := own_in pt_2
  have pf_in := own_in pf_2
  clear j_1 t_1 f_1 a_1 b_1 cell_a froz_a lt_a hX2 hT2 hb2
  have cell_a := a_2.cell
  have froz_a := a_2.frozen
  have lt_a := a_2.lt
  go_wp2_with fail
  refine calls_forget0 (W := w2) ?_ ?_
  (focus (repeat (first | (with_reducible exact Below.refl _ _) | (with_reducible refine Below.trans ?_ (Below.mono (by assumption) (by first | omega | (simp; done) | (simp; omega) | (simp [*]; done)))) | (with_reducible refine Below.alloc ?_ (by first | omega | (simp; done) | (simp; omega) | (simp [*]; done)) _) | (with_reducible refine Below.setCell ?_ (by first | omega | (simp; done) | (simp; omega) | (simp [*]; done)) _) | (with_reducible refine Below.drew ?_) | (with_reducible refine below_drewN ?_))))
  intro X3 hX3
  have sX3 := hX3.size
  refine (CS.out _ _ _ _ _ _ _ ⟨own_weak (own_below pj_2 hX3) (Nat.zero_le _), own_weak (own_below pt_2 hX3) (Nat.zero_le _), own_weak (own_below pf_2 hX3) (Nat.zero_le _)⟩ (HT.out.step (b_2.trans (hX3.mono (by omega))) HT.out)).mono ?_
  rintro e w3 ⟨Au, cu, rfl, u_3, hb3⟩
  have s3 := hb3.size
  have hT3 := hX3.trans (hb3.mono sX3)
  have b_3 := b_2.trans (hT3.mono (by omega))
  have j_3 := cells_below j_2 hT3 (by omega)
  have t_3 := cells_below t_2 hT3 (by omega)
  have f_3 := cells_below f_2 hT3 (by omega)
  have pj_3 := own_below pj_2 hT3
  have pt_3 := own_below pt_2 hT3
  have pf_3 := own_below pf_2 hT3
  have a_3 := Blk.past hT3 a_2
  have u_in := own_in u_3
  clear j_2 t_2 f_2 pj_2 pt_2 pf_2 a_2 b_2 cell_a froz_a lt_a hX3 hT3 hb3
  have cell_a := a_3.cell
  have froz_a := a_3.frozen
  have lt_a := a_3.lt
  clear pj_3
  clear pt_3
  clear pf_3
  go_wp2_with fail
  refine calls_forget0 (W := w3) ?_ ?_
  (focus (repeat (first | (with_reducible exact Below.refl _ _) | (with_reducible refine Below.trans ?_ (Below.mono (by assumption) (by first | omega | (simp; done) | (simp; omega) | (simp [*]; done)))) | (with_reducible refine Below.alloc ?_ (by first | omega | (simp; done) | (simp; omega) | (simp [*]; done)) _) | (with_reducible refine Below.setCell ?_ (by first | omega | (simp; done) | (simp; omega) | (simp [*]; done)) _) | (with_reducible refine Below.drew ?_) | (with_reducible refine below_drewN ?_))))
  intro X4 hX4
  have sX4 := hX4.size
  refine (TS.out _ _ _ _ _ _ _ ((cells_below j_3 hX4 (by omega)).more (by omega)) ((cells_below t_3 hX4 (by omega)).more (by omega)) ((cells_below f_3 hX4 (by omega)).more (by omega))).mono ?_
  rintro e w4 ⟨Bj, Bt, Bf, rfl, xj_4, xt_4, xf_4, hb4⟩
  have s4 := hb4.size
  have hT4 := hX4.trans (hb4.mono sX4)
  have b_4 := b_3.trans (hT4.mono (by omega))
  have j_4 := cells_below j_3 hT4 (by omega)
  have t_4 := cells_below t_3 hT4 (by omega)
  have f_4 := cells_below f_3 hT4 (by omega)
  have u_4 := own_below u_3 hT4
  have a_4 := Blk.past hT4 a_3
  have xj_in := own_in xj_4
  have xt_in := own_in xt_4
  have xf_in := own_in xf_4
  clear j_3 t_3 f_3 u_3 a_3 b_3 cell_a froz_a lt_a hX4 hT4 hb4
  have cell_a := a_4.cell
  have froz_a := a_4.frozen
  have lt_a := a_4.lt
  go_wp2_with fail
  refine calls_forget1 (W := w4) (b0 := w4.heap.size) (t0 := 43) (c0 := #[.int .i64 S.z, .int .i64 S.n, .int .i64 S.b, .slice Bj S.js.length S.js.length, .slice Bt S.ts.length S.ts.length, .slice Bf S.fs.length S.fs.length]) ?_ ?_ ?_
  (focus (first | ((repeat (first | (with_reducible assumption) | (with_reducible apply Blk.drew) | (with_reducible apply Blk.drewN) | (with_reducible apply Blk.new; first | rfl | (simp; done)) | (with_reducible apply Blk.alloc) | (with_reducible apply Blk.set_) | (with_reducible apply Blk.past; focus assumption) | (with_reducible apply Blk.far; focus (first | (simp; done) | (simp; omega) | (dsimp only; omega))))); done) | (apply Blk.cast; (case h => (repeat (first | (with_reducible assumption) | (with_reducible apply Blk.drew) | (with_reducible apply Blk.drewN) | (with_reducible apply Blk.new; first | rfl | (simp; done)) | (with_reducible apply Blk.alloc) | (with_reducible apply Blk.set_) | (with_reducible apply Blk.past; focus assumption) | (with_reducible apply Blk.far; focus (first | (simp; done) | (simp; omega) | (dsimp only; omega)))))); (case e => rfl))))
  (focus (repeat (first | (with_reducible exact Below.refl _ _) | (with_reducible refine Below.trans ?_ (Below.mono (by assumption) (by first | omega | (simp; done) | (simp; omega) | (simp [*]; done)))) | (with_reducible refine Below.alloc ?_ (by first | omega | (simp; done) | (simp; omega) | (simp [*]; done)) _) | (with_reducible refine Below.setCell ?_ (by first | omega | (simp; done) | (simp; omega) | (simp [*]; done)) _) | (with_reducible refine Below.drew ?_) | (with_reducible refine below_drewN ?_))))
  intro X5 x_n hX5
  have sX5 := hX5.size
  have x_lt := x_n.lt
  refine (CI.out _ _ _ _ _ _ _ ⟨own_weak (own_below xj_4 hX5) (Nat.zero_le _), own_weak (own_below xt_4 hX5) (Nat.zero_le _), own_weak (own_below xf_4 hX5) (Nat.zero_le _)⟩ (HT.out.step (b_4.trans (hX5.mono (by omega))) HT.out)).mono ?_
  rintro e w5 ⟨Ag, cg, rfl, g_5, hb5⟩
  have s5 := hb5.size
  have hT5 := hX5.trans (hb5.mono sX5)
  have b_5 := b_4.trans (hT5.mono (by omega))
  have j_5 := cells_below j_4 hT5 (by omega)
  have t_5 := cells_below t_4 hT5 (by omega)
  have f_5 := cells_below f_4 hT5 (by omega)
  have u_5 := own_below u_4 hT5
  have xj_5 := own_below xj_4 hT5
  have xt_5 := own_below xt_4 hT5
  have xf_5 := own_below xf_4 hT5
  have a_5 := Blk.past hT5 a_4
  have x_5 := Blk.past hb5 x_n
  have g_in := own_in g_5
  clear j_4 t_4 f_4 u_4 xj_4 xt_4 xf_4 a_4 b_4 cell_a froz_a lt_a x_n hX5 hT5 hb5
  have cell_a := a_5.cell
  have froz_a := a_5.frozen
  have lt_a := a_5.lt
  have cell_x := x_5.cell
  have froz_x := x_5.frozen
  have lt_x := x_5.lt
  go_wp2_with fail
  refine calls_forget0 (W := w5) ?_ ?_
  (focus (repeat (first | (with_reducible exact Below.refl _ _) | (with_reducible refine Below.trans ?_ (Below.mono (by assumption) (by first | omega | (simp; done) | (simp; omega) | (simp [*]; done)))) | (with_reducible refine Below.alloc ?_ (by first | omega | (simp; done) | (simp; omega) | (simp [*]; done)) _) | (with_reducible refine Below.setCell ?_ (by first | omega | (simp; done) | (simp; omega) | (simp [*]; done)) _) | (with_reducible refine Below.drew ?_) | (with_reducible refine below_drewN ?_))))
  intro X6 hX6
  have sX6 := hX6.size
  refine (eqStringS_same _ _ _ _ _ _ _ HN.out (Cells.of_own (own_below g_5 hX6)) (Cells.of_own (own_below u_5 hX6)) (by omega)).mono ?_
  rintro e w6 ⟨rfl, hb6⟩
  have s6 := hb6.size
  have hT6 := hX6.trans (hb6.mono sX6)
  have b_6 := b_5.trans (hT6.mono (by omega))
  have j_6 := cells_below j_5 hT6 (by omega)
  have t_6 := cells_below t_5 hT6 (by omega)
  have f_6 := cells_below f_5 hT6 (by omega)
  have u_6 := own_below u_5 hT6
  have xj_6 := own_below xj_5 hT6
  have xt_6 := own_below xt_5 hT6
  have xf_6 := own_below xf_5 hT6
  have g_6 := own_below g_5 hT6
  have a_6 := Blk.past hT6 a_5
  have x_6 := Blk.past hT6 x_5
  clear j_5 t_5 f_5 u_5 xj_5 xt_5 xf_5 g_5 a_5 x_5 b_5 cell_a froz_a lt_a cell_x froz_x lt_x hX6 hT6 hb6
  have cell_a := a_6.cell
  have froz_a := a_6.frozen
  have lt_a := a_6.lt
  have cell_x := x_6.cell
  have froz_x := x_6.frozen
  have lt_x := x_6.lt
  go_wp2_with fail
  go_region_held3 (fun w' => w'.cell? ⟨w.heap.size, 0, none⟩ = some (.int .i64 S.z) ∧ w'.cell? ⟨w.heap.size, 1, none⟩ = some (.int .i64 S.n) ∧ w'.cell? ⟨w.heap.size, 2, none⟩ = some (.int .i64 S.b) ∧ w'.cell? ⟨w.heap.size, 3, none⟩ = some (.slice J S.js.length cj) ∧ w'.cell? ⟨w.heap.size, 4, none⟩ = some (.slice T S.ts.length ct) ∧ w'.cell? ⟨w.heap.size, 5, none⟩ = some (.slice F S.fs.length cf) ∧ w'.cell? ⟨w4.heap.size, 0, none⟩ = some (.int .i64 S.z) ∧ w'.cell? ⟨w4.heap.size, 1, none⟩ = some (.int .i64 S.n) ∧ w'.cell? ⟨w4.heap.size, 2, none⟩ = some (.int .i64 S.b) ∧ w'.cell? ⟨w4.heap.size, 3, none⟩ = some (.slice Bj S.js.length S.js.length) ∧ w'.cell? ⟨w4.heap.size, 4, none⟩ = some (.slice Bt S.ts.length S.ts.length) ∧ w'.cell? ⟨w4.heap.size, 5, none⟩ = some (.slice Bf S.fs.length S.fs.length)) (exact ⟨(Blk.cell (t := 35) (cs := #[.int .i64 S.z, .int .i64 S.n, .int .i64 S.b, .slice J S.js.length cj, .slice T S.ts.length ct, .slice F S.fs.length cf]) (by repeat (first | (with_reducible assumption) | (with_reducible apply Blk.drew) | (with_reducible apply Blk.drewN) | (with_reducible apply Blk.new; first | rfl | (simp; done)) | (with_reducible apply Blk.alloc) | (with_reducible apply Blk.set_) | (with_reducible apply Blk.past; focus assumption) | (with_reducible apply Blk.far; focus (first | (simp; done) | (simp; omega) | (dsimp only; omega))))) 0), (Blk.cell (t := 35) (cs := #[.int .i64 S.z, .int .i64 S.n, .int .i64 S.b, .slice J S.js.length cj, .slice T S.ts.length ct, .slice F S.fs.length cf]) (by repeat (first | (with_reducible assumption) | (with_reducible apply Blk.drew) | (with_reducible apply Blk.drewN) | (with_reducible apply Blk.new; first | rfl | (simp; done)) | (with_reducible apply Blk.alloc) | (with_reducible apply Blk.set_) | (with_reducible apply Blk.past; focus assumption) | (with_reducible apply Blk.far; focus (first | (simp; done) | (simp; omega) | (dsimp only; omega))))) 1), (Blk.cell (t := 35) (cs := #[.int .i64 S.z, .int .i64 S.n, .int .i64 S.b, .slice J S.js.length cj, .slice T S.ts.length ct, .slice F S.fs.length cf]) (by repeat (first | (with_reducible assumption) | (with_reducible apply Blk.drew) | (with_reducible apply Blk.drewN) | (with_reducible apply Blk.new; first | rfl | (simp; done)) | (with_reducible apply Blk.alloc) | (with_reducible apply Blk.set_) | (with_reducible apply Blk.past; focus assumption) | (with_reducible apply Blk.far; focus (first | (simp; done) | (simp; omega) | (dsimp only; omega))))) 2), (Blk.cell (t := 35) (cs := #[.int .i64 S.z, .int .i64 S.n, .int .i64 S.b, .slice J S.js.length cj, .slice T S.ts.length ct, .slice F S.fs.length cf]) (by repeat (first | (with_reducible assumption) | (with_reducible apply Blk.drew) | (with_reducible apply Blk.drewN) | (with_reducible apply Blk.new; first | rfl | (simp; done)) | (with_reducible apply Blk.alloc) | (with_reducible apply Blk.set_) | (with_reducible apply Blk.past; focus assumption) | (with_reducible apply Blk.far; focus (first | (simp; done) | (simp; omega) | (dsimp only; omega))))) 3), (Blk.cell (t := 35) (cs := #[.int .i64 S.z, .int .i64 S.n, .int .i64 S.b, .slice J S.js.length cj, .slice T S.ts.length ct, .slice F S.fs.length cf]) (by repeat (first | (with_reducible assumption) | (with_reducible apply Blk.drew) | (with_reducible apply Blk.drewN) | (with_reducible apply Blk.new; first | rfl | (simp; done)) | (with_reducible apply Blk.alloc) | (with_reducible apply Blk.set_) | (with_reducible apply Blk.past; focus assumption) | (with_reducible apply Blk.far; focus (first | (simp; done) | (simp; omega) | (dsimp only; omega))))) 4), (Blk.cell (t := 35) (cs := #[.int .i64 S.z, .int .i64 S.n, .int .i64 S.b, .slice J S.js.length cj, .slice T S.ts.length ct, .slice F S.fs.length cf]) (by repeat (first | (with_reducible assumption) | (with_reducible apply Blk.drew) | (with_reducible apply Blk.drewN) | (with_reducible apply Blk.new; first | rfl | (simp; done)) | (with_reducible apply Blk.alloc) | (with_reducible apply Blk.set_) | (with_reducible apply Blk.past; focus assumption) | (with_reducible apply Blk.far; focus (first | (simp; done) | (simp; omega) | (dsimp only; omega))))) 5), (Blk.cell (t := 43) (cs := #[.int .i64 S.z, .int .i64 S.n, .int .i64 S.b, .slice Bj S.js.length S.js.length, .slice Bt S.ts.length S.ts.length, .slice Bf S.fs.length S.fs.length]) (by repeat (first | (with_reducible assumption) | (with_reducible apply Blk.drew) | (with_reducible apply Blk.drewN) | (with_reducible apply Blk.new; first | rfl | (simp; done)) | (with_reducible apply Blk.alloc) | (with_reducible apply Blk.set_) | (with_reducible apply Blk.past; focus assumption) | (with_reducible apply Blk.far; focus (first | (simp; done) | (simp; omega) | (dsimp only; omega))))) 0), (Blk.cell (t := 43) (cs := #[.int .i64 S.z, .int .i64 S.n, .int .i64 S.b, .slice Bj S.js.length S.js.length, .slice Bt S.ts.length S.ts.length, .slice Bf S.fs.length S.fs.length]) (by repeat (first | (with_reducible assumption) | (with_reducible apply Blk.drew) | (with_reducible apply Blk.drewN) | (with_reducible apply Blk.new; first | rfl | (simp; done)) | (with_reducible apply Blk.alloc) | (with_reducible apply Blk.set_) | (with_reducible apply Blk.past; focus assumption) | (with_reducible apply Blk.far; focus (first | (simp; done) | (simp; omega) | (dsimp only; omega))))) 1), (Blk.cell (t := 43) (cs := #[.int .i64 S.z, .int .i64 S.n, .int .i64 S.b, .slice Bj S.js.length S.js.length, .slice Bt S.ts.length S.ts.length, .slice Bf S.fs.length S.fs.length]) (by repeat (first | (with_reducible assumption) | (with_reducible apply Blk.drew) | (with_reducible apply Blk.drewN) | (with_reducible apply Blk.new; first | rfl | (simp; done)) | (with_reducible apply Blk.alloc) | (with_reducible apply Blk.set_) | (with_reducible apply Blk.past; focus assumption) | (with_reducible apply Blk.far; focus (first | (simp; done) | (simp; omega) | (dsimp only; omega))))) 2), (Blk.cell (t := 43) (cs := #[.int .i64 S.z, .int .i64 S.n, .int .i64 S.b, .slice Bj S.js.length S.js.length, .slice Bt S.ts.length S.ts.length, .slice Bf S.fs.length S.fs.length]) (by repeat (first | (with_reducible assumption) | (with_reducible apply Blk.drew) | (with_reducible apply Blk.drewN) | (with_reducible apply Blk.new; first | rfl | (simp; done)) | (with_reducible apply Blk.alloc) | (with_reducible apply Blk.set_) | (with_reducible apply Blk.past; focus assumption) | (with_reducible apply Blk.far; focus (first | (simp; done) | (simp; omega) | (dsimp only; omega))))) 3), (Blk.cell (t := 43) (cs := #[.int .i64 S.z, .int .i64 S.n, .int .i64 S.b, .slice Bj S.js.length S.js.length, .slice Bt S.ts.length S.ts.length, .slice Bf S.fs.length S.fs.length]) (by repeat (first | (with_reducible assumption) | (with_reducible apply Blk.drew) | (with_reducible apply Blk.drewN) | (with_reducible apply Blk.new; first | rfl | (simp; done)) | (with_reducible apply Blk.alloc) | (with_reducible apply Blk.set_) | (with_reducible apply Blk.past; focus assumption) | (with_reducible apply Blk.far; focus (first | (simp; done) | (simp; omega) | (dsimp only; omega))))) 4), (Blk.cell (t := 43) (cs := #[.int .i64 S.z, .int .i64 S.n, .int .i64 S.b, .slice Bj S.js.length S.js.length, .slice Bt S.ts.length S.ts.length, .slice Bf S.fs.length S.fs.length]) (by repeat (first | (with_reducible assumption) | (with_reducible apply Blk.drew) | (with_reducible apply Blk.drewN) | (with_reducible apply Blk.new; first | rfl | (simp; done)) | (with_reducible apply Blk.alloc) | (with_reducible apply Blk.set_) | (with_reducible apply Blk.past; focus assumption) | (with_reducible apply Blk.far; focus (first | (simp; done) | (simp; omega) | (dsimp only; omega))))) 5)⟩) (first | (go_at_call 10; refine calls_forget0 (W := w6) ?_ ?_; (focus (repeat (first | (with_reducible exact Below.refl _ _) | (with_reducible refine Below.trans ?_ (Below.mono (by assumption) (by first | omega | (simp; done) | (simp; omega) | (simp [*]; done)))) | (with_reducible refine Below.alloc ?_ (by first | omega | (simp; done) | (simp; omega) | (simp [*]; done)) _) | (with_reducible refine Below.setCell ?_ (by first | omega | (simp; done) | (simp; omega) | (simp [*]; done)) _) | (with_reducible refine Below.drew ?_) | (with_reducible refine below_drewN ?_)))); intro X7 hX7; have sX7 := hX7.size; refine (TS.out _ _ _ _ _ _ _ ((cells_below j_6 hX7 (by omega)).more (by omega)) ((cells_below t_6 hX7 (by omega)).more (by omega)) ((cells_below f_6 hX7 (by omega)).more (by omega))).mono ?_; rintro e w7 ⟨Cj, Ct, Cf, rfl, yj_7, yt_7, yf_7, hb7⟩; have s7 := hb7.size; have hT7 := hX7.trans (hb7.mono sX7); have b_7 := b_6.trans (hT7.mono (by omega)); have j_7 := cells_below j_6 hT7 (by omega); have t_7 := cells_below t_6 hT7 (by omega); have f_7 := cells_below f_6 hT7 (by omega); have u_7 := own_below u_6 hT7; have xj_7 := own_below xj_6 hT7; have xt_7 := own_below xt_6 hT7; have xf_7 := own_below xf_6 hT7; have g_7 := own_below g_6 hT7; have a_7 := Blk.past hT7 a_6; have x_7 := Blk.past hT7 x_6; have yj_in := own_in yj_7; have yt_in := own_in yt_7; have yf_in := own_in yf_7; clear j_6 t_6 f_6 u_6 xj_6 xt_6 xf_6 g_6 a_6 x_6 b_6 cell_a froz_a lt_a cell_x froz_x lt_x hX7 hT7 hb7; have cell_a := a_7.cell; have froz_a := a_7.frozen; have lt_a := a_7.lt; have cell_x := x_7.cell; have froz_x := x_7.frozen; have lt_x := x_7.lt) | (go_at_call 13; refine calls_forget0 (W := w7) ?_ ?_; (focus (repeat (first | (with_reducible exact Below.refl _ _) | (with_reducible refine Below.trans ?_ (Below.mono (by assumption) (by first | omega | (simp; done) | (simp; omega) | (simp [*]; done)))) | (with_reducible refine Below.alloc ?_ (by first | omega | (simp; done) | (simp; omega) | (simp [*]; done)) _) | (with_reducible refine Below.setCell ?_ (by first | omega | (simp; done) | (simp; omega) | (simp [*]; done)) _) | (with_reducible refine Below.drew ?_) | (with_reducible refine below_drewN ?_)))); intro X8 hX8; have sX8 := hX8.size; refine (EQ.out _ _ _ _ _ _ _ _ _ _ _ _ _ (Cells.of_own (own_below xj_7 hX8)) (Cells.of_own (own_below yj_7 hX8)) (Cells.of_own (own_below xt_7 hX8)) (Cells.of_own (own_below yt_7 hX8)) (Cells.of_own (own_below xf_7 hX8)) (Cells.of_own (own_below yf_7 hX8))).mono ?_; rintro e w8 ⟨rfl, hb8⟩; have s8 := hb8.size; have hT8 := hX8.trans (hb8.mono sX8); have b_8 := b_7.trans (hT8.mono (by omega)); have j_8 := cells_below j_7 hT8 (by omega); have t_8 := cells_below t_7 hT8 (by omega); have f_8 := cells_below f_7 hT8 (by omega); have u_8 := own_below u_7 hT8; have xj_8 := own_below xj_7 hT8; have xt_8 := own_below xt_7 hT8; have xf_8 := own_below xf_7 hT8; have g_8 := own_below g_7 hT8; have yj_8 := own_below yj_7 hT8; have yt_8 := own_below yt_7 hT8; have yf_8 := own_below yf_7 hT8; have a_8 := Blk.past hT8 a_7; have x_8 := Blk.past hT8 x_7; clear j_7 t_7 f_7 u_7 xj_7 xt_7 xf_7 g_7 yj_7 yt_7 yf_7 a_7 x_7 b_7 cell_a froz_a lt_a cell_x froz_x lt_x hX8 hT8 hb8; have cell_a := a_8.cell; have froz_a := a_8.frozen; have lt_a := a_8.lt; have cell_x := x_8.cell; have froz_x := x_8.frozen; have lt_x := x_8.lt))
  clear yj_8
  clear yt_8
  clear yf_8
  all_goals
    go_wp2_with fail
    refine calls_forget0 (W := w8) ?_ ?_
    (focus (repeat (first | (with_reducible exact Below.refl _ _) | (with_reducible refine Below.trans ?_ (Below.mono (by assumption) (by first | omega | (simp; done) | (simp; omega) | (simp [*]; done)))) | (with_reducible refine Below.alloc ?_ (by first | omega | (simp; done) | (simp; omega) | (simp [*]; done)) _) | (with_reducible refine Below.setCell ?_ (by first | omega | (simp; done) | (simp; omega) | (simp [*]; done)) _) | (with_reducible refine Below.drew ?_) | (with_reducible refine below_drewN ?_))))
    intro X9 hX9
    have sX9 := hX9.size
    refine (markSched_any _ _ _ _ _ _ _ _ _ _ _ _ _ _ _ _ _ _ _ _ (own_below xj_8 hX9) (own_below xt_8 hX9) (own_below xf_8 hX9) (by omega) (by omega) (by omega) (by omega) (by omega)).mono ?_
    rintro e w11 ⟨w9, w10, rfl, xj_m, xt_m, xf_m, hg9, hg10, hg11⟩
    have hT9 := below_grown hX9 hg9
    have s9 := hg9.size
    have s10 := hg10.size
    have s11 := hg11.size
    have b_9 := gr_below hT9 b_8 (by omega) (fun q hq => by have h1 := xj_in q hq; omega)
    have j_9 := gr_cells hT9 j_8 (by omega) (fun q hq => by have h1 := xj_in q hq; omega)
    have t_9 := gr_cells hT9 t_8 (by omega) (fun q hq => by have h1 := xj_in q hq; omega)
    have f_9 := gr_cells hT9 f_8 (by omega) (fun q hq => by have h1 := xj_in q hq; omega)
    have u_9 := gr_own hT9 u_8 (fun q p hq hp => by first | (have h1 := xj_in q hq; have h2 := u_in p hp; omega) | exact ne_xj_u q p hq hp)
    have g_9 := gr_own hT9 g_8 (fun q p hq hp => by first | (have h1 := xj_in q hq; have h2 := g_in p hp; omega) | exact ne_xj_g q p hq hp)
    have a_9 := gr_blk hT9 a_8 (fun q hq => by have h1 := xj_in q hq; omega)
    have x_9 := gr_blk hT9 x_8 (fun q hq => by have h1 := xj_in q hq; omega)
    clear j_8 t_8 f_8 u_8 g_8 a_8 x_8 b_8
    have b_10 := gr_below hg10 b_9 (by omega) (fun q hq => by have h1 := xt_in q hq; omega)
    have j_10 := gr_cells hg10 j_9 (by omega) (fun q hq => by have h1 := xt_in q hq; omega)
    have t_10 := gr_cells hg10 t_9 (by omega) (fun q hq => by have h1 := xt_in q hq; omega)
    have f_10 := gr_cells hg10 f_9 (by omega) (fun q hq => by have h1 := xt_in q hq; omega)
    have u_10 := gr_own hg10 u_9 (fun q p hq hp => by first | (have h1 := xt_in q hq; have h2 := u_in p hp; omega) | exact ne_xt_u q p hq hp)
    have g_10 := gr_own hg10 g_9 (fun q p hq hp => by first | (have h1 := xt_in q hq; have h2 := g_in p hp; omega) | exact ne_xt_g q p hq hp)
    have a_10 := gr_blk hg10 a_9 (fun q hq => by have h1 := xt_in q hq; omega)
    have x_10 := gr_blk hg10 x_9 (fun q hq => by have h1 := xt_in q hq; omega)
    clear j_9 t_9 f_9 u_9 g_9 a_9 x_9 b_9
    have b_11 := gr_below hg11 b_10 (by omega) (fun q hq => by have h1 := xf_in q hq; omega)
    have j_11 := gr_cells hg11 j_10 (by omega) (fun q hq => by have h1 := xf_in q hq; omega)
    have t_11 := gr_cells hg11 t_10 (by omega) (fun q hq => by have h1 := xf_in q hq; omega)
    have f_11 := gr_cells hg11 f_10 (by omega) (fun q hq => by have h1 := xf_in q hq; omega)
    have u_11 := gr_own hg11 u_10 (fun q p hq hp => by first | (have h1 := xf_in q hq; have h2 := u_in p hp; omega) | exact ne_xf_u q p hq hp)
    have g_11 := gr_own hg11 g_10 (fun q p hq hp => by first | (have h1 := xf_in q hq; have h2 := g_in p hp; omega) | exact ne_xf_g q p hq hp)
    have a_11 := gr_blk hg11 a_10 (fun q hq => by have h1 := xf_in q hq; omega)
    have x_11 := gr_blk hg11 x_10 (fun q hq => by have h1 := xf_in q hq; omega)
    clear j_10 t_10 f_10 u_10 g_10 a_10 x_10 b_10
    have xj_11 := xj_m
    have xt_11 := xt_m
    have xf_11 := xf_m
    clear xj_m xt_m xf_m xj_8 xt_8 xf_8 hX9 hT9 hg9 hg10 hg11 cell_a froz_a lt_a cell_x froz_x lt_x
    have cell_a := a_11.cell
    have froz_a := a_11.frozen
    have lt_a := a_11.lt
    have cell_x := x_11.cell
    have froz_x := x_11.frozen
    have lt_x := x_11.lt
    clear xj_11
    clear xt_11
    clear xf_11
    clear cell_x froz_x lt_x
    clear x_11
    go_wp2_with fail
    refine calls_forget0 (W := w11) ?_ ?_
    (focus (repeat (first | (with_reducible exact Below.refl _ _) | (with_reducible refine Below.trans ?_ (Below.mono (by assumption) (by first | omega | (simp; done) | (simp; omega) | (simp [*]; done)))) | (with_reducible refine Below.alloc ?_ (by first | omega | (simp; done) | (simp; omega) | (simp [*]; done)) _) | (with_reducible refine Below.setCell ?_ (by first | omega | (simp; done) | (simp; omega) | (simp [*]; done)) _) | (with_reducible refine Below.drew ?_) | (with_reducible refine below_drewN ?_))))
    intro X12 hX12
    have sX12 := hX12.size
    refine (eqStringS_same _ _ _ _ _ _ _ HN.out (Cells.of_own (own_below g_11 hX12)) (Cells.of_own (own_below u_11 hX12)) (by omega)).mono ?_
    rintro e w12 ⟨rfl, hb12⟩
    have s12 := hb12.size
    have hT12 := hX12.trans (hb12.mono sX12)
    have b_12 := b_11.trans (hT12.mono (by omega))
    have j_12 := cells_below j_11 hT12 (by omega)
    have t_12 := cells_below t_11 hT12 (by omega)
    have f_12 := cells_below f_11 hT12 (by omega)
    have u_12 := own_below u_11 hT12
    have g_12 := own_below g_11 hT12
    have a_12 := Blk.past hT12 a_11
    clear j_11 t_11 f_11 u_11 g_11 a_11 b_11 cell_a froz_a lt_a hX12 hT12 hb12
    have cell_a := a_12.cell
    have froz_a := a_12.frozen
    have lt_a := a_12.lt
    go_wp2_with fail
    refine calls_forget0 (W := w12) ?_ ?_
    (focus (repeat (first | (with_reducible exact Below.refl _ _) | (with_reducible refine Below.trans ?_ (Below.mono (by assumption) (by first | omega | (simp; done) | (simp; omega) | (simp [*]; done)))) | (with_reducible refine Below.alloc ?_ (by first | omega | (simp; done) | (simp; omega) | (simp [*]; done)) _) | (with_reducible refine Below.setCell ?_ (by first | omega | (simp; done) | (simp; omega) | (simp [*]; done)) _) | (with_reducible refine Below.drew ?_) | (with_reducible refine below_drewN ?_))))
    intro X13 hX13
    have sX13 := hX13.size
    refine (markStringS_any _ _ _ _ _ _ _ (own_below g_12 hX13) (by omega) (by omega) (by omega)).mono ?_
    rintro e w13 ⟨rfl, g_13, hg13⟩
    have s13 := hg13.size
    have hT13 := below_grown hX13 hg13
    have b_13 := gr_below hT13 b_12 (by omega) (fun q hq => by have h1 := g_in q hq; omega)
    have j_13 := gr_cells hT13 j_12 (by omega) (fun q hq => by have h1 := g_in q hq; omega)
    have t_13 := gr_cells hT13 t_12 (by omega) (fun q hq => by have h1 := g_in q hq; omega)
    have f_13 := gr_cells hT13 f_12 (by omega) (fun q hq => by have h1 := g_in q hq; omega)
    have u_13 := gr_own hT13 u_12 (fun q p hq hp => by first | (have h1 := g_in q hq; have h2 := u_in p hp; omega) | exact own_ne g_12 u_12 (by decide) q p hq hp | exact ne_g_u q p hq hp | exact (ne_u_g p q hp hq).symm)
    have a_13 := gr_blk hT13 a_12 (fun q hq => by have h1 := g_in q hq; omega)
    clear j_12 t_12 f_12 u_12 g_12 a_12 b_12 cell_a froz_a lt_a hX13 hT13 hg13
    have cell_a := a_13.cell
    have froz_a := a_13.frozen
    have lt_a := a_13.lt
    go_wp2_with fail
    refine calls_forget0 (W := w13) ?_ ?_
    (focus (repeat (first | (with_reducible exact Below.refl _ _) | (with_reducible refine Below.trans ?_ (Below.mono (by assumption) (by first | omega | (simp; done) | (simp; omega) | (simp [*]; done)))) | (with_reducible refine Below.alloc ?_ (by first | omega | (simp; done) | (simp; omega) | (simp [*]; done)) _) | (with_reducible refine Below.setCell ?_ (by first | omega | (simp; done) | (simp; omega) | (simp [*]; done)) _) | (with_reducible refine Below.drew ?_) | (with_reducible refine below_drewN ?_))))
    intro X14 hX14
    have sX14 := hX14.size
    refine (heldStringS_any _ _ _ _ _ (Cells.of_own (own_below g_13 hX14)) (by omega) (by omega) (by omega)).mono ?_
    rintro e w14 ⟨rfl, hb14⟩
    have s14 := hb14.size
    have hT14 := hX14.trans (hb14.mono sX14)
    have b_14 := b_13.trans (hT14.mono (by omega))
    have j_14 := cells_below j_13 hT14 (by omega)
    have t_14 := cells_below t_13 hT14 (by omega)
    have f_14 := cells_below f_13 hT14 (by omega)
    have u_14 := own_below u_13 hT14
    have g_14 := own_below g_13 hT14
    have a_14 := Blk.past hT14 a_13
    clear j_13 t_13 f_13 u_13 g_13 a_13 b_13 cell_a froz_a lt_a hX14 hT14 hb14
    have cell_a := a_14.cell
    have froz_a := a_14.frozen
    have lt_a := a_14.lt
    go_wp2_with fail
    refine calls_forget0 (W := w14) ?_ ?_
    (focus (repeat (first | (with_reducible exact Below.refl _ _) | (with_reducible refine Below.trans ?_ (Below.mono (by assumption) (by first | omega | (simp; done) | (simp; omega) | (simp [*]; done)))) | (with_reducible refine Below.alloc ?_ (by first | omega | (simp; done) | (simp; omega) | (simp [*]; done)) _) | (with_reducible refine Below.setCell ?_ (by first | omega | (simp; done) | (simp; omega) | (simp [*]; done)) _) | (with_reducible refine Below.drew ?_) | (with_reducible refine below_drewN ?_))))
    intro X15 hX15
    have sX15 := hX15.size
    refine (TS.out _ _ _ _ _ _ _ ((cells_below j_14 hX15 (by omega)).more (by omega)) ((cells_below t_14 hX15 (by omega)).more (by omega)) ((cells_below f_14 hX15 (by omega)).more (by omega))).mono ?_
    rintro e w15 ⟨Dj, Dt, Df, rfl, pj_15, pt_15, pf_15, hb15⟩
    have s15 := hb15.size
    have hT15 := hX15.trans (hb15.mono sX15)
    have b_15 := b_14.trans (hT15.mono (by omega))
    have j_15 := cells_below j_14 hT15 (by omega)
    have t_15 := cells_below t_14 hT15 (by omega)
    have f_15 := cells_below f_14 hT15 (by omega)
    have u_15 := own_below u_14 hT15
    have g_15 := own_below g_14 hT15
    have a_15 := Blk.past hT15 a_14
    have pj_in := own_in pj_15
    have pt_in := own_in pt_15
    have pf_in := own_in pf_15
    clear j_14 t_14 f_14 u_14 g_14 a_14 b_14 cell_a froz_a lt_a hX15 hT15 hb15
    have cell_a := a_15.cell
    have froz_a := a_15.frozen
    have lt_a := a_15.lt
    go_wp2_with fail
    refine calls_forget0 (W := w15) ?_ ?_
    (focus (repeat (first | (with_reducible exact Below.refl _ _) | (with_reducible refine Below.trans ?_ (Below.mono (by assumption) (by first | omega | (simp; done) | (simp; omega) | (simp [*]; done)))) | (with_reducible refine Below.alloc ?_ (by first | omega | (simp; done) | (simp; omega) | (simp [*]; done)) _) | (with_reducible refine Below.setCell ?_ (by first | omega | (simp; done) | (simp; omega) | (simp [*]; done)) _) | (with_reducible refine Below.drew ?_) | (with_reducible refine below_drewN ?_))))
    intro X16 hX16
    have sX16 := hX16.size
    refine (CI.out _ _ _ _ _ _ _ ⟨own_weak (own_below pj_15 hX16) (Nat.zero_le _), own_weak (own_below pt_15 hX16) (Nat.zero_le _), own_weak (own_below pf_15 hX16) (Nat.zero_le _)⟩ (HT.out.step (b_15.trans (hX16.mono (by omega))) HT.out)).mono ?_
    rintro e w16 ⟨Ah, ch, rfl, h_16, hb16⟩
    have s16 := hb16.size
    have hT16 := hX16.trans (hb16.mono sX16)
    have b_16 := b_15.trans (hT16.mono (by omega))
    have j_16 := cells_below j_15 hT16 (by omega)
    have t_16 := cells_below t_15 hT16 (by omega)
    have f_16 := cells_below f_15 hT16 (by omega)
    have u_16 := own_below u_15 hT16
    have g_16 := own_below g_15 hT16
    have pj_16 := own_below pj_15 hT16
    have pt_16 := own_below pt_15 hT16
    have pf_16 := own_below pf_15 hT16
    have a_16 := Blk.past hT16 a_15
    have h_in := own_in h_16
    clear j_15 t_15 f_15 u_15 g_15 pj_15 pt_15 pf_15 a_15 b_15 cell_a froz_a lt_a hX16 hT16 hb16
    have cell_a := a_16.cell
    have froz_a := a_16.frozen
    have lt_a := a_16.lt
    clear pj_16
    clear pt_16
    clear pf_16
    go_wp2_with fail
    refine calls_forget0 (W := w16) ?_ ?_
    (focus (repeat (first | (with_reducible exact Below.refl _ _) | (with_reducible refine Below.trans ?_ (Below.mono (by assumption) (by first | omega | (simp; done) | (simp; omega) | (simp [*]; done)))) | (with_reducible refine Below.alloc ?_ (by first | omega | (simp; done) | (simp; omega) | (simp [*]; done)) _) | (with_reducible refine Below.setCell ?_ (by first | omega | (simp; done) | (simp; omega) | (simp [*]; done)) _) | (with_reducible refine Below.drew ?_) | (with_reducible refine below_drewN ?_))))
    intro X17 hX17
    have sX17 := hX17.size
    refine (eqStringS_same _ _ _ _ _ _ _ HN.out (Cells.of_own (own_below h_16 hX17)) (Cells.of_own (own_below u_16 hX17)) (by omega)).mono ?_
    rintro e w17 ⟨rfl, hb17⟩
    have s17 := hb17.size
    have hT17 := hX17.trans (hb17.mono sX17)
    have b_17 := b_16.trans (hT17.mono (by omega))
    have j_17 := cells_below j_16 hT17 (by omega)
    have t_17 := cells_below t_16 hT17 (by omega)
    have f_17 := cells_below f_16 hT17 (by omega)
    have u_17 := own_below u_16 hT17
    have g_17 := own_below g_16 hT17
    have h_17 := own_below h_16 hT17
    have a_17 := Blk.past hT17 a_16
    clear j_16 t_16 f_16 u_16 g_16 h_16 a_16 b_16 cell_a froz_a lt_a hX17 hT17 hb17
    have cell_a := a_17.cell
    have froz_a := a_17.frozen
    have lt_a := a_17.lt
    go_wp2_with fail
    refine calls_forget0 (W := w17) ?_ ?_
    (focus (repeat (first | (with_reducible exact Below.refl _ _) | (with_reducible refine Below.trans ?_ (Below.mono (by assumption) (by first | omega | (simp; done) | (simp; omega) | (simp [*]; done)))) | (with_reducible refine Below.alloc ?_ (by first | omega | (simp; done) | (simp; omega) | (simp [*]; done)) _) | (with_reducible refine Below.setCell ?_ (by first | omega | (simp; done) | (simp; omega) | (simp [*]; done)) _) | (with_reducible refine Below.drew ?_) | (with_reducible refine below_drewN ?_))))
    intro X18 hX18
    have sX18 := hX18.size
    refine (heldStringS_any _ _ _ _ _ (Cells.of_own (own_below g_17 hX18)) (by omega) (by omega) (by omega)).mono ?_
    rintro e w18 ⟨rfl, hb18⟩
    have s18 := hb18.size
    have hT18 := hX18.trans (hb18.mono sX18)
    have b_18 := b_17.trans (hT18.mono (by omega))
    have j_18 := cells_below j_17 hT18 (by omega)
    have t_18 := cells_below t_17 hT18 (by omega)
    have f_18 := cells_below f_17 hT18 (by omega)
    have u_18 := own_below u_17 hT18
    have g_18 := own_below g_17 hT18
    have h_18 := own_below h_17 hT18
    have a_18 := Blk.past hT18 a_17
    clear j_17 t_17 f_17 u_17 g_17 h_17 a_17 b_17 cell_a froz_a lt_a hX18 hT18 hb18
    have cell_a := a_18.cell
    have froz_a := a_18.frozen
    have lt_a := a_18.lt
    go_wp2
    go_ret
    refine ⟨rfl, b_18.trans ?_⟩
    repeat (first | (with_reducible exact Below.refl _ _) | (with_reducible refine Below.trans ?_ (Below.mono (by assumption) (by first | omega | (simp; done) | (simp; omega) | (simp [*]; done)))) | (with_reducible refine Below.alloc ?_ (by first | omega | (simp; done) | (simp; omega) | (simp [*]; done)) _) | (with_reducible refine Below.setCell ?_ (by first | omega | (simp; done) | (simp; omega) | (simp [*]; done)) _) | (with_reducible refine Below.drew ?_) | (with_reducible refine below_drewN ?_))
theorem door_met (os : Os) (args : Array Value) : laidMetH Tryd.prog Rows.fnExactFormatSchedRow.laid ((World.doorLaid Tryd.prog 24 os).forCall (fun _ _ => 0) ⟨#[], args, []⟩).memory :=
  laidMetH_of_parts3 (fuel := 8) (laidMet_of_run' 8 (by kernel_rfl) (by kernel_rfl)) (by kernel_rfl) (by kernel_rfl)
set_option maxRecDepth 100000 in
theorem lifted (os : Os) (started : os.Started) (H : Type) (enc : TypeId × Value → H) :
    ReturnsInHanded {} Tryd.checked os 4 .any (fun w args => (Rows.fnExactFormatSchedSpec.pre enc Tryd.prog Tryd.f4 [] false w args ∧ laidMetH Tryd.prog Rows.fnExactFormatSchedRow.laid w) ∧ sizedMet enc Tryd.prog Tryd.f4 (OpenSpec.ofChange Rows.fnExactFormatSchedSpec) false w args)
      (Rows.fnExactFormatSchedSpec.post enc Tryd.prog Tryd.f4 false true false false) := by
  refine returnsInHanded_of_change_and (C := Tryd.checked) (X := fun w _ => laidMetH Tryd.prog Rows.fnExactFormatSchedRow.laid w) (fun _ _ _ hh h => h.of_heap hh) own started (by kernel_rfl) Tryd.func4
    (ChangeSpec.witness_shaped (enc := enc) (C := Tryd.checked) (os := os) (X := fun w _ => laidMetH Tryd.prog Rows.fnExactFormatSchedRow.laid w) false (World.doorLaid Tryd.prog 24 os) #[.agg #[.int .i64 0, .int .i64 0, .int .i64 0, .slice none 0 0, .slice none 0 0, .slice none 0 0]] 8 rfl (World.shaped_of_RefB (by kernel_rfl) (by kernel_rfl)) (by kernel_rfl) (by kernel_rfl) (by kernel_rfl) (door_met os _)) ?_
  intro W base args ds gs before hval0 hW _ _ hLaid _
  have hval : ∀ (j : Nat) t v, Tryd.f4.params[j]? = some t → args[j]? = some v → Value.okWide Tryd.prog W .any base t v := hval0
  have hW' := hW
  obtain ⟨p, q, hA0, hV, rfl, _, _⟩ := hW
  have hA : DataW.TrodAll enc Tryd.prog W 0 (fun _ => true) true Tryd.f4.params.toList args.toList ds p := hA0
  rw [Tryd.params4] at hA hval
  obtain ⟨v0, vs0, d0, ds0, p0, q0, hargs, rfl, rfl, h0, r0⟩ := trodAll_cons hA
  obtain ⟨rfl, rfl, rfl⟩ := trodAll_nil r0
  obtain rfl : args = #[v0] := by cases args; simp_all
  obtain ⟨rfl, rfl⟩ := trodVars_none hV
  obtain ⟨S0, J0, T0, F0, cj0, ct0, cf0, rfl, hj0, ht0, hf0, bj0, bt0, bf0, wf0⟩ := view_schedR (hval 0 35 v0 rfl rfl) h0 (fun x hx => hW'.lt x (by simp [hx]))
  refine (walk S0 J0 T0 F0 cj0 ct0 cf0 W hj0 ht0 hf0 bj0 bt0 bf0 wf0 (tab_of hLaid)).mono fun e W' ⟨he, hb⟩ => ?_
  subst he
  exact ⟨_, rfl, law_post rfl (by kernel_rfl) (by kernel_rfl) rfl Tryd.underlying4 hW' rfl rfl rfl hb⟩
theorem closed : joinedFacts Tryd.prog 4 Tryd.f4 Rows.fnExactFormatSchedSpec Rows.fnExactFormatSchedRow = true := by
  unfold joinedFacts
  rw [makeIs, mayIs, finalsIs]
  kernel_rfl
theorem over : Rows.fnExactFormatSchedRow.holds Tryd.pinned (OpenSpec.ofChange Rows.fnExactFormatSchedSpec) :=
  OpenClaim.holds_of_wide 4 Tryd.f4 rfl rfl rfl rfl rfl rfl rfl ⟨rfl, rfl, rfl, rfl, rfl⟩ rfl rfl rfl rfl rfl (by kernel_rfl) Tryd.func4 closed
    (of_decide_eq_true (by kernel_rfl)) (by unfold Func.isWrapper; first | (rw [if_pos (by decide +kernel)]; kernel_rfl) | (rw [if_neg (by decide +kernel)]; exact ⟨rfl, rfl⟩))
    (fun os started H enc _ => lifted os started H enc)
theorem proved : Rows.FnExactFormatSchedCardSaid :=
  Claim7.holds_tied_plain_at .later [] [.data, .data, .data] true Rows.fnExactFormatSchedCard.stood.harness false
    over (fun _ h => by cases h) (by kernel_rfl) (fun _ h => by cases h) fnExactFormatSched_row_tie rfl ⟨rfl, rfl⟩ (by kernel_rfl) rfl
    (fun f fn hf hfn => by
      obtain rfl : f = 4 := Option.some.inj ((show Tryd.prog.funcNamed Rows.fnExactFormatSchedRow.func = some 4 by kernel_rfl).symm.trans hf) |>.symm
      obtain rfl : fn = Tryd.f4 := (Option.some.inj (Tryd.func4.symm.trans hfn)).symm
      exact ⟨by kernel_rfl, fun j t ht => by
        rw [Tryd.params4] at ht
        have hm := Array.mem_of_getElem? ht
        simp at hm
        rcases hm with rfl <;> exact (show Tryd.prog.wantsStandIn _ = false by kernel_rfl)⟩)
    (by kernel_rfl)
#print axioms proved

end fmtSched
end Go.Proofs.YtknkpajedbckmaaDoor
