/- The law that DoAct of the program returns what the reference's returns, for all arguments. No conditions. -/
import Derived.Test.YtjngcnkipkibcaaDoAct
import Derived.Test.YtjngcnkipkibcaaConv
import Derived.Test.YtjngcnkipkibcaaSchedS
import Derived.Test.YtjngcnkipkibcaaSchedV
import Derived.Test.YtjngcnkipkibcaaHead
set_option linter.unusedVariables false
namespace Go.Proofs.Ytjngcnkipkibcaa
open Go.RowKit Go.ChangeShapes Go.WideShapes Go.ChangeAt

namespace exactDoAct
def CutS (R : SV) (cnt : Int) (W : World) (v6 v7 : Value) (wx : World) : Prop :=
  ∃ (b : Nat) (J : Option Addr) (cj : Nat) (T : Option Addr) (tcp : Nat) (F : Option Addr) (cf : Nat), v6 = .pointer (some ⟨b, 0, none⟩) ∧ v7 = .int .i64 cnt ∧ W.heap.size ≤ b ∧
    Blk wx b 36 #[.int .i64 R.z, .int .i64 R.n, .int .i64 R.b, .slice J R.js.length cj, .slice T R.ts.length tcp, .slice F R.fs.length cf] ∧ (wx.ownsRow W.heap.size 79 4 (.slice J R.js.length cj) R.js.length (ints (flatJ R.js)) ∧ wx.ownsRow W.heap.size 84 2 (.slice T R.ts.length tcp) R.ts.length (ints (flatT R.ts)) ∧ wx.ownsRow W.heap.size 3 1 (.slice F R.fs.length cf) R.fs.length (ints R.fs)) ∧ Below W.heap.size W wx
set_option maxRecDepth 100000 in
set_option maxHeartbeats 6400000 in
theorem walk (S : SV) (J T F : Option Addr) (cj ct cf : Nat) (k i d n : Int) (w : World) (hj : Cells w w.heap.size J (ints (flatJ S.js))) (ht : Cells w w.heap.size T (ints (flatT S.ts))) (hf : Cells w w.heap.size F (ints S.fs))
    (bj : S.js.length ≤ maxLen) (bt : S.ts.length ≤ maxLen) (bf : S.fs.length ≤ maxLen) :
    Calls Try.prog 3 #[.agg #[.int .i64 S.z, .int .i64 S.n, .int .i64 S.b, .slice J S.js.length cj, .slice T S.ts.length ct, .slice F S.fs.length cf], .agg #[.int .i64 k, .int .i64 i, .int .i64 d, .int .i64 n]] w fun e w' => e = .returned (.bool true) ∧ Below w.heap.size w w' := by
  unfold maxLen at bj bt bf
  by_cases hsz : S.js.length + S.ts.length + S.fs.length ≤ 1048576
  case neg =>
    go_enter Try.func3, Try.ntmps3
    have b_0 := (Below.refl w.heap.size w)
    have s_0 := b_0.size
    go_wp2_with fail
    refine calls_forget2 (W := w) (b0 := w.heap.size) (t0 := 28) (c0 := #[.int .i64 S.z, .int .i64 S.n, .int .i64 S.b, .slice J S.js.length cj, .slice T S.ts.length ct, .slice F S.fs.length cf]) (b1 := w.heap.size + 1) (t1 := 30) (c1 := #[.int .i64 k, .int .i64 i, .int .i64 d, .int .i64 n]) ?_ ?_ ?_ ?_
    (focus (apply Blk.cast; (case h => (repeat (with_reducible first | assumption | apply Blk.drew | apply Blk.drewN | (apply Blk.new; first | rfl | (simp; done)) | apply Blk.alloc | apply Blk.set_ | (apply Blk.past; focus assumption) | (apply Blk.far; focus (first | (simp; done) | (simp; omega) | (dsimp only; omega)))))); (case e => rfl)))
    (focus (apply Blk.cast; (case h => (repeat (with_reducible first | assumption | apply Blk.drew | apply Blk.drewN | (apply Blk.new; first | rfl | (simp; done)) | apply Blk.alloc | apply Blk.set_ | (apply Blk.past; focus assumption) | (apply Blk.far; focus (first | (simp; done) | (simp; omega) | (dsimp only; omega)))))); (case e => rfl)))
    (focus (repeat (first | (with_reducible first | exact Below.refl _ _ | refine Below.trans ?_ (Below.mono (by assumption) ?_) | refine Below.alloc ?_ ?_ _ | refine Below.setCell ?_ ?_ _ | refine Below.drew ?_ | refine below_drewN ?_) | omega | (· simp) | (· (simp; omega)) | (· simp [*]))))
    intro X1 a_n ac_n hX1
    have sX1 := hX1.size
    have a_lt := a_n.lt
    have ac_lt := ac_n.lt
    refine (szSched_no _ _ _ _ _ _ _ _ _ _ _ _ _ hsz bj bt bf).mono ?_
    rintro e w1 ⟨rfl, hb1⟩
    have s1 := hb1.size
    have hT1 := hX1.trans (hb1.mono sX1)
    have b_1 := b_0.trans (hT1.mono (by omega))
    have a_1 := Blk.past hb1 a_n
    have ac_1 := Blk.past hb1 ac_n
    clear b_0 a_n ac_n hX1 hT1 hb1
    have cell_a := a_1.cell
    have froz_a := a_1.frozen
    have lt_a := a_1.lt
    have cell_ac := ac_1.cell
    have froz_ac := ac_1.frozen
    have lt_ac := ac_1.lt
    go_wp2
    go_ret
    refine ⟨rfl, b_1.trans ?_⟩
    repeat (first | (with_reducible first | exact Below.refl _ _ | refine Below.trans ?_ (Below.mono (by assumption) ?_) | refine Below.alloc ?_ ?_ _ | refine Below.setCell ?_ ?_ _ | refine Below.drew ?_ | refine below_drewN ?_) | omega | (· simp) | (· (simp; omega)) | (· simp [*]))
  have CS := hid (fun J T F cj ct cf w h => sDoAct S k i d n J T F cj ct cf w h (by omega) (by omega) (by omega))
  have CI := hid (fun J T F cj ct cf w h => iDoAct S k i d n J T F cj ct cf w h (by omega) (by omega) (by omega))
  have TS := hid (fun J T F cj ct cf w h1 h2 h3 => toSched_any S.z S.n S.b J T F S.js.length cj S.ts.length ct cf (flatJ S.js) (flatT S.ts) S.fs w (flatJ_length _) (flatT_length _) h1 h2 h3 (by omega) (by omega) (by omega))
  have EQ := hid (fun J J' T T' F F' cj cj' ct ct' cf cf' w h1 h1' h2 h2' h3 h3' => eqSched_same S.z S.n S.b J J' T T' F F' S.js.length cj cj' S.ts.length ct ct' cf cf' (flatJ S.js) (flatT S.ts) S.fs w (flatJ_length _) (flatT_length _) h1 h1' h2 h2' h3 h3' (by omega) (by omega) (by omega))
  have hlen := lenDo S k i d n
  obtain ⟨R, hR⟩ : ∃ R, doS S k i d n = R := ⟨_, rfl⟩
  rw [hR] at CS CI hlen
  obtain ⟨l1, l2, l3⟩ := hlen
  have ER := hid (fun J J' T T' F F' cj cj' ct ct' cf cf' w h1 h1' h2 h2' h3 h3' => eqSched_same R.z R.n R.b J J' T T' F F' R.js.length cj cj' R.ts.length ct ct' cf cf' (flatJ R.js) (flatT R.ts) R.fs w (flatJ_length _) (flatT_length _) h1 h1' h2 h2' h3 h3' (by omega) (by omega) (by omega))
  clear hR
  obtain ⟨cnt, hcnt⟩ : ∃ x : Int, doI S k i d n = x := ⟨_, rfl⟩
  rw [hcnt] at CS CI
  clear hcnt
  go_enter Try.func3, Try.ntmps3
  have b_0 := (Below.refl w.heap.size w)
  have s_0 := b_0.size
  have j_0 := hj
  clear hj
  have t_0 := ht
  clear ht
  have f_0 := hf
  clear hf
  go_wp2_with fail
  refine calls_forget2 (W := w) (b0 := w.heap.size) (t0 := 28) (c0 := #[.int .i64 S.z, .int .i64 S.n, .int .i64 S.b, .slice J S.js.length cj, .slice T S.ts.length ct, .slice F S.fs.length cf]) (b1 := w.heap.size + 1) (t1 := 30) (c1 := #[.int .i64 k, .int .i64 i, .int .i64 d, .int .i64 n]) ?_ ?_ ?_ ?_
  (focus (apply Blk.cast; (case h => (repeat (with_reducible first | assumption | apply Blk.drew | apply Blk.drewN | (apply Blk.new; first | rfl | (simp; done)) | apply Blk.alloc | apply Blk.set_ | (apply Blk.past; focus assumption) | (apply Blk.far; focus (first | (simp; done) | (simp; omega) | (dsimp only; omega)))))); (case e => rfl)))
  (focus (apply Blk.cast; (case h => (repeat (with_reducible first | assumption | apply Blk.drew | apply Blk.drewN | (apply Blk.new; first | rfl | (simp; done)) | apply Blk.alloc | apply Blk.set_ | (apply Blk.past; focus assumption) | (apply Blk.far; focus (first | (simp; done) | (simp; omega) | (dsimp only; omega)))))); (case e => rfl)))
  (focus (repeat (first | (with_reducible first | exact Below.refl _ _ | refine Below.trans ?_ (Below.mono (by assumption) ?_) | refine Below.alloc ?_ ?_ _ | refine Below.setCell ?_ ?_ _ | refine Below.drew ?_ | refine below_drewN ?_) | omega | (· simp) | (· (simp; omega)) | (· simp [*]))))
  intro X1 a_n ac_n hX1
  have sX1 := hX1.size
  have a_lt := a_n.lt
  have ac_lt := ac_n.lt
  refine (szSched_ok _ _ _ _ _ _ _ _ _ _ _ _ _ hsz).mono ?_
  rintro e w1 ⟨rfl, hb1⟩
  have s1 := hb1.size
  have hT1 := hX1.trans (hb1.mono sX1)
  have b_1 := b_0.trans (hT1.mono (by omega))
  have j_1 := cells_below j_0 hT1 (by omega)
  have t_1 := cells_below t_0 hT1 (by omega)
  have f_1 := cells_below f_0 hT1 (by omega)
  have a_1 := Blk.past hb1 a_n
  have ac_1 := Blk.past hb1 ac_n
  clear j_0 t_0 f_0 b_0 a_n ac_n hX1 hT1 hb1
  have cell_a := a_1.cell
  have froz_a := a_1.frozen
  have lt_a := a_1.lt
  have cell_ac := ac_1.cell
  have froz_ac := ac_1.frozen
  have lt_ac := ac_1.lt
  go_upto_region 5 with fail
  go_cut [6, 7] (fun v6 v7 wx => CutS R cnt w1 v6 v7 wx)
  case first =>
    have gh_1 := hid (Below.refl w1.heap.size w1)
    have zb := b_1.size
    have zl_a := a_1.lt
    have zl_ac := ac_1.lt
    try clear s0
    try clear sX0
    try clear s1
    try clear sX1
    go_region_held3 (fun w' => w'.cell? ⟨w.heap.size, 0, none⟩ = some (.int .i64 S.z) ∧ w'.cell? ⟨w.heap.size, 1, none⟩ = some (.int .i64 S.n) ∧ w'.cell? ⟨w.heap.size, 2, none⟩ = some (.int .i64 S.b) ∧ w'.cell? ⟨w.heap.size, 3, none⟩ = some (.slice J S.js.length cj) ∧ w'.cell? ⟨w.heap.size, 4, none⟩ = some (.slice T S.ts.length ct) ∧ w'.cell? ⟨w.heap.size, 5, none⟩ = some (.slice F S.fs.length cf) ∧ w'.cell? ⟨w.heap.size + 1, 0, none⟩ = some (.int .i64 k) ∧ w'.cell? ⟨w.heap.size + 1, 1, none⟩ = some (.int .i64 i) ∧ w'.cell? ⟨w.heap.size + 1, 2, none⟩ = some (.int .i64 d) ∧ w'.cell? ⟨w.heap.size + 1, 3, none⟩ = some (.int .i64 n)) ((refine ⟨(Blk.cell (t := 28) (cs := #[.int .i64 S.z, .int .i64 S.n, .int .i64 S.b, .slice J S.js.length cj, .slice T S.ts.length ct, .slice F S.fs.length cf]) ?qa 0), (Blk.cell ?qa 1), (Blk.cell ?qa 2), (Blk.cell ?qa 3), (Blk.cell ?qa 4), (Blk.cell ?qa 5), (Blk.cell (t := 30) (cs := #[.int .i64 k, .int .i64 i, .int .i64 d, .int .i64 n]) ?qac 0), (Blk.cell ?qac 1), (Blk.cell ?qac 2), (Blk.cell ?qac 3)⟩; (case qa => (repeat (with_reducible first | assumption | apply Blk.drew | apply Blk.drewN | (apply Blk.new; first | rfl | (simp; done)) | apply Blk.alloc | apply Blk.set_ | (apply Blk.past; focus assumption) | (apply Blk.far; focus (first | (simp; done) | (simp; omega) | (dsimp only; omega)))))); (case qac => (repeat (with_reducible first | assumption | apply Blk.drew | apply Blk.drewN | (apply Blk.new; first | rfl | (simp; done)) | apply Blk.alloc | apply Blk.set_ | (apply Blk.past; focus assumption) | (apply Blk.far; focus (first | (simp; done) | (simp; omega) | (dsimp only; omega)))))))) (first | (go_at_call 7; refine calls_forget1 (W := w1) (b0 := w1.heap.size) (t0 := 36) (c0 := #[.int .i64 0, .int .i64 0, .int .i64 0, .slice none 0 0, .slice none 0 0, .slice none 0 0]) ?_ ?_ ?_; (focus (apply Blk.cast; (case h => (repeat (with_reducible first | assumption | apply Blk.drew | apply Blk.drewN | (apply Blk.new; first | rfl | (simp; done)) | apply Blk.alloc | apply Blk.set_ | (apply Blk.past; focus assumption) | (apply Blk.far; focus (first | (simp; done) | (simp; omega) | (dsimp only; omega)))))); (case e => rfl))); (focus (repeat (first | (with_reducible first | exact Below.refl _ _ | refine Below.trans ?_ (Below.mono (by assumption) ?_) | refine Below.alloc ?_ ?_ _ | refine Below.setCell ?_ ?_ _ | refine Below.drew ?_ | refine below_drewN ?_) | omega | (· simp) | (· (simp; omega)) | (· simp [*])))); intro X2 u_n hX2; have sX2 := hX2.size; have u_lt := u_n.lt; refine (TS.out _ _ _ _ _ _ _ ((cells_below j_1 hX2 (by omega)).more (by omega)) ((cells_below t_1 hX2 (by omega)).more (by omega)) ((cells_below f_1 hX2 (by omega)).more (by omega))).mono ?_; rintro e w2 ⟨Aj, At, Af, rfl, pj_2, pt_2, pf_2, hb2⟩; have s2 := hb2.size; have hT2 := hX2.trans (hb2.mono sX2); have b_2 := b_1.trans (hT2.mono (by omega)); have gh_2 := hid (gh_1.out.trans (hT2.mono (by omega))); have j_2 := cells_below j_1 hT2 (by omega); have t_2 := cells_below t_1 hT2 (by omega); have f_2 := cells_below f_1 hT2 (by omega); have a_2 := Blk.past hT2 a_1; have ac_2 := Blk.past hT2 ac_1; have u_2 := Blk.past hb2 u_n; have pj_in := own_in pj_2; have pt_in := own_in pt_2; have pf_in := own_in pf_2; clear gh_1 j_1 t_1 f_1 a_1 ac_1 b_1 cell_a froz_a lt_a cell_ac froz_ac lt_ac u_n hX2 hT2 hb2; have cell_a := a_2.cell; have froz_a := a_2.frozen; have lt_a := a_2.lt; have cell_ac := ac_2.cell; have froz_ac := ac_2.frozen; have lt_ac := ac_2.lt; have cell_u := u_2.cell; have froz_u := u_2.frozen; have lt_u := u_2.lt) | (go_at_call 7; refine calls_forget0 (W := w1) ?_ ?_; (focus (repeat (first | (with_reducible first | exact Below.refl _ _ | refine Below.trans ?_ (Below.mono (by assumption) ?_) | refine Below.alloc ?_ ?_ _ | refine Below.setCell ?_ ?_ _ | refine Below.drew ?_ | refine below_drewN ?_) | omega | (· simp) | (· (simp; omega)) | (· simp [*])))); intro X2 hX2; have sX2 := hX2.size; refine (TS.out _ _ _ _ _ _ _ ((cells_below j_1 hX2 (by omega)).more (by omega)) ((cells_below t_1 hX2 (by omega)).more (by omega)) ((cells_below f_1 hX2 (by omega)).more (by omega))).mono ?_; rintro e w2 ⟨Aj, At, Af, rfl, pj_2, pt_2, pf_2, hb2⟩; have s2 := hb2.size; have hT2 := hX2.trans (hb2.mono sX2); have b_2 := b_1.trans (hT2.mono (by omega)); have gh_2 := hid (gh_1.out.trans (hT2.mono (by omega))); have j_2 := cells_below j_1 hT2 (by omega); have t_2 := cells_below t_1 hT2 (by omega); have f_2 := cells_below f_1 hT2 (by omega); have a_2 := Blk.past hT2 a_1; have ac_2 := Blk.past hT2 ac_1; have pj_in := own_in pj_2; have pt_in := own_in pt_2; have pf_in := own_in pf_2; clear gh_1 j_1 t_1 f_1 a_1 ac_1 b_1 cell_a froz_a lt_a cell_ac froz_ac lt_ac hX2 hT2 hb2; have cell_a := a_2.cell; have froz_a := a_2.frozen; have lt_a := a_2.lt; have cell_ac := ac_2.cell; have froz_ac := ac_2.frozen; have lt_ac := ac_2.lt) | (go_at_call 8; refine calls_forget0 (W := w2) ?_ ?_; (focus (repeat (first | (with_reducible first | exact Below.refl _ _ | refine Below.trans ?_ (Below.mono (by assumption) ?_) | refine Below.alloc ?_ ?_ _ | refine Below.setCell ?_ ?_ _ | refine Below.drew ?_ | refine below_drewN ?_) | omega | (· simp) | (· (simp; omega)) | (· simp [*])))); intro X3 hX3; have sX3 := hX3.size; refine (toAct_any _ _ _ _ _).mono ?_; rintro e w3 ⟨rfl, hb3⟩; have s3 := hb3.size; have hT3 := hX3.trans (hb3.mono sX3); have b_3 := b_2.trans (hT3.mono (by omega)); have gh_3 := hid (gh_2.out.trans (hT3.mono (by omega))); have j_3 := cells_below j_2 hT3 (by omega); have t_3 := cells_below t_2 hT3 (by omega); have f_3 := cells_below f_2 hT3 (by omega); have pj_3 := own_below pj_2 hT3; have pt_3 := own_below pt_2 hT3; have pf_3 := own_below pf_2 hT3; have a_3 := Blk.past hT3 a_2; have ac_3 := Blk.past hT3 ac_2; have u_3 := Blk.past hT3 u_2; clear gh_2 j_2 t_2 f_2 pj_2 pt_2 pf_2 a_2 ac_2 u_2 b_2 cell_a froz_a lt_a cell_ac froz_ac lt_ac cell_u froz_u lt_u hX3 hT3 hb3; have cell_a := a_3.cell; have froz_a := a_3.frozen; have lt_a := a_3.lt; have cell_ac := ac_3.cell; have froz_ac := ac_3.frozen; have lt_ac := ac_3.lt; have cell_u := u_3.cell; have froz_u := u_3.frozen; have lt_u := u_3.lt) | (go_at_call 8; refine calls_forget1 (W := w2) (b0 := w2.heap.size) (t0 := 36) (c0 := #[.int .i64 0, .int .i64 0, .int .i64 0, .slice none 0 0, .slice none 0 0, .slice none 0 0]) ?_ ?_ ?_; (focus (apply Blk.cast; (case h => (repeat (with_reducible first | assumption | apply Blk.drew | apply Blk.drewN | (apply Blk.new; first | rfl | (simp; done)) | apply Blk.alloc | apply Blk.set_ | (apply Blk.past; focus assumption) | (apply Blk.far; focus (first | (simp; done) | (simp; omega) | (dsimp only; omega)))))); (case e => rfl))); (focus (repeat (first | (with_reducible first | exact Below.refl _ _ | refine Below.trans ?_ (Below.mono (by assumption) ?_) | refine Below.alloc ?_ ?_ _ | refine Below.setCell ?_ ?_ _ | refine Below.drew ?_ | refine below_drewN ?_) | omega | (· simp) | (· (simp; omega)) | (· simp [*])))); intro X3 u_n hX3; have sX3 := hX3.size; have u_lt := u_n.lt; refine (toAct_any _ _ _ _ _).mono ?_; rintro e w3 ⟨rfl, hb3⟩; have s3 := hb3.size; have hT3 := hX3.trans (hb3.mono sX3); have b_3 := b_2.trans (hT3.mono (by omega)); have gh_3 := hid (gh_2.out.trans (hT3.mono (by omega))); have j_3 := cells_below j_2 hT3 (by omega); have t_3 := cells_below t_2 hT3 (by omega); have f_3 := cells_below f_2 hT3 (by omega); have pj_3 := own_below pj_2 hT3; have pt_3 := own_below pt_2 hT3; have pf_3 := own_below pf_2 hT3; have a_3 := Blk.past hT3 a_2; have ac_3 := Blk.past hT3 ac_2; have u_3 := Blk.past hb3 u_n; clear gh_2 j_2 t_2 f_2 pj_2 pt_2 pf_2 a_2 ac_2 b_2 cell_a froz_a lt_a cell_ac froz_ac lt_ac u_n hX3 hT3 hb3; have cell_a := a_3.cell; have froz_a := a_3.frozen; have lt_a := a_3.lt; have cell_ac := ac_3.cell; have froz_ac := ac_3.frozen; have lt_ac := ac_3.lt; have cell_u := u_3.cell; have froz_u := u_3.frozen; have lt_u := u_3.lt) | (go_at_call 8; refine calls_forget0 (W := w2) ?_ ?_; (focus (repeat (first | (with_reducible first | exact Below.refl _ _ | refine Below.trans ?_ (Below.mono (by assumption) ?_) | refine Below.alloc ?_ ?_ _ | refine Below.setCell ?_ ?_ _ | refine Below.drew ?_ | refine below_drewN ?_) | omega | (· simp) | (· (simp; omega)) | (· simp [*])))); intro X3 hX3; have sX3 := hX3.size; refine (toAct_any _ _ _ _ _).mono ?_; rintro e w3 ⟨rfl, hb3⟩; have s3 := hb3.size; have hT3 := hX3.trans (hb3.mono sX3); have b_3 := b_2.trans (hT3.mono (by omega)); have gh_3 := hid (gh_2.out.trans (hT3.mono (by omega))); have j_3 := cells_below j_2 hT3 (by omega); have t_3 := cells_below t_2 hT3 (by omega); have f_3 := cells_below f_2 hT3 (by omega); have pj_3 := own_below pj_2 hT3; have pt_3 := own_below pt_2 hT3; have pf_3 := own_below pf_2 hT3; have a_3 := Blk.past hT3 a_2; have ac_3 := Blk.past hT3 ac_2; clear gh_2 j_2 t_2 f_2 pj_2 pt_2 pf_2 a_2 ac_2 b_2 cell_a froz_a lt_a cell_ac froz_ac lt_ac hX3 hT3 hb3; have cell_a := a_3.cell; have froz_a := a_3.frozen; have lt_a := a_3.lt; have cell_ac := ac_3.cell; have froz_ac := ac_3.frozen; have lt_ac := ac_3.lt) | (go_at_call 6; refine calls_forget0 (W := w3) ?_ ?_; (focus (repeat (first | (with_reducible first | exact Below.refl _ _ | refine Below.trans ?_ (Below.mono (by assumption) ?_) | refine Below.alloc ?_ ?_ _ | refine Below.setCell ?_ ?_ _ | refine Below.drew ?_ | refine below_drewN ?_) | omega | (· simp) | (· (simp; omega)) | (· simp [*])))); intro X4 hX4; have sX4 := hX4.size; refine (CS.out _ _ _ _ _ _ _ ⟨own_weak (own_below pj_3 hX4) (Nat.zero_le _), own_weak (own_below pt_3 hX4) (Nat.zero_le _), own_weak (own_below pf_3 hX4) (Nat.zero_le _)⟩).mono ?_; rintro e w4 ⟨Uj, uj', Ut, ut', Uf, uf', rfl, uj_4, ut_4, uf_4, hb4⟩; have s4 := hb4.size; have hT4 := hX4.trans (hb4.mono sX4); have b_4 := b_3.trans (hT4.mono (by omega)); have gh_4 := hid (gh_3.out.trans (hT4.mono (by omega))); have j_4 := cells_below j_3 hT4 (by omega); have t_4 := cells_below t_3 hT4 (by omega); have f_4 := cells_below f_3 hT4 (by omega); have pj_4 := own_below pj_3 hT4; have pt_4 := own_below pt_3 hT4; have pf_4 := own_below pf_3 hT4; have a_4 := Blk.past hT4 a_3; have ac_4 := Blk.past hT4 ac_3; have u_4 := Blk.past hT4 u_3; have uj_in := own_in uj_4; have ut_in := own_in ut_4; have uf_in := own_in uf_4; clear gh_3 j_3 t_3 f_3 pj_3 pt_3 pf_3 a_3 ac_3 u_3 b_3 cell_a froz_a lt_a cell_ac froz_ac lt_ac cell_u froz_u lt_u hX4 hT4 hb4; have cell_a := a_4.cell; have froz_a := a_4.frozen; have lt_a := a_4.lt; have cell_ac := ac_4.cell; have froz_ac := ac_4.frozen; have lt_ac := ac_4.lt; have cell_u := u_4.cell; have froz_u := u_4.frozen; have lt_u := u_4.lt) | (go_at_call 6; refine calls_forget0 (W := w3) ?_ ?_; (focus (repeat (first | (with_reducible first | exact Below.refl _ _ | refine Below.trans ?_ (Below.mono (by assumption) ?_) | refine Below.alloc ?_ ?_ _ | refine Below.setCell ?_ ?_ _ | refine Below.drew ?_ | refine below_drewN ?_) | omega | (· simp) | (· (simp; omega)) | (· simp [*])))); intro X4 hX4; have sX4 := hX4.size; refine (CS.out _ _ _ _ _ _ _ ⟨own_weak (own_below pj_3 hX4) (Nat.zero_le _), own_weak (own_below pt_3 hX4) (Nat.zero_le _), own_weak (own_below pf_3 hX4) (Nat.zero_le _)⟩).mono ?_; rintro e w4 ⟨Uj, uj', Ut, ut', Uf, uf', rfl, uj_4, ut_4, uf_4, hb4⟩; have s4 := hb4.size; have hT4 := hX4.trans (hb4.mono sX4); have b_4 := b_3.trans (hT4.mono (by omega)); have gh_4 := hid (gh_3.out.trans (hT4.mono (by omega))); have j_4 := cells_below j_3 hT4 (by omega); have t_4 := cells_below t_3 hT4 (by omega); have f_4 := cells_below f_3 hT4 (by omega); have pj_4 := own_below pj_3 hT4; have pt_4 := own_below pt_3 hT4; have pf_4 := own_below pf_3 hT4; have a_4 := Blk.past hT4 a_3; have ac_4 := Blk.past hT4 ac_3; have u_4 := Blk.past hT4 u_3; have uj_in := own_in uj_4; have ut_in := own_in ut_4; have uf_in := own_in uf_4; clear gh_3 j_3 t_3 f_3 pj_3 pt_3 pf_3 a_3 ac_3 u_3 b_3 cell_a froz_a lt_a cell_ac froz_ac lt_ac cell_u froz_u lt_u hX4 hT4 hb4; have cell_a := a_4.cell; have froz_a := a_4.frozen; have lt_a := a_4.lt; have cell_ac := ac_4.cell; have froz_ac := ac_4.frozen; have lt_ac := ac_4.lt; have cell_u := u_4.cell; have froz_u := u_4.frozen; have lt_u := u_4.lt) | (go_at_call 6; refine calls_forget1 (W := w3) (b0 := w3.heap.size) (t0 := 36) (c0 := #[.int .i64 0, .int .i64 0, .int .i64 0, .slice none 0 0, .slice none 0 0, .slice none 0 0]) ?_ ?_ ?_; (focus (apply Blk.cast; (case h => (repeat (with_reducible first | assumption | apply Blk.drew | apply Blk.drewN | (apply Blk.new; first | rfl | (simp; done)) | apply Blk.alloc | apply Blk.set_ | (apply Blk.past; focus assumption) | (apply Blk.far; focus (first | (simp; done) | (simp; omega) | (dsimp only; omega)))))); (case e => rfl))); (focus (repeat (first | (with_reducible first | exact Below.refl _ _ | refine Below.trans ?_ (Below.mono (by assumption) ?_) | refine Below.alloc ?_ ?_ _ | refine Below.setCell ?_ ?_ _ | refine Below.drew ?_ | refine below_drewN ?_) | omega | (· simp) | (· (simp; omega)) | (· simp [*])))); intro X4 u_n hX4; have sX4 := hX4.size; have u_lt := u_n.lt; refine (CS.out _ _ _ _ _ _ _ ⟨own_weak (own_below pj_3 hX4) (Nat.zero_le _), own_weak (own_below pt_3 hX4) (Nat.zero_le _), own_weak (own_below pf_3 hX4) (Nat.zero_le _)⟩).mono ?_; rintro e w4 ⟨Uj, uj', Ut, ut', Uf, uf', rfl, uj_4, ut_4, uf_4, hb4⟩; have s4 := hb4.size; have hT4 := hX4.trans (hb4.mono sX4); have b_4 := b_3.trans (hT4.mono (by omega)); have gh_4 := hid (gh_3.out.trans (hT4.mono (by omega))); have j_4 := cells_below j_3 hT4 (by omega); have t_4 := cells_below t_3 hT4 (by omega); have f_4 := cells_below f_3 hT4 (by omega); have pj_4 := own_below pj_3 hT4; have pt_4 := own_below pt_3 hT4; have pf_4 := own_below pf_3 hT4; have a_4 := Blk.past hT4 a_3; have ac_4 := Blk.past hT4 ac_3; have u_4 := Blk.past hb4 u_n; have uj_in := own_in uj_4; have ut_in := own_in ut_4; have uf_in := own_in uf_4; clear gh_3 j_3 t_3 f_3 pj_3 pt_3 pf_3 a_3 ac_3 b_3 cell_a froz_a lt_a cell_ac froz_ac lt_ac u_n hX4 hT4 hb4; have cell_a := a_4.cell; have froz_a := a_4.frozen; have lt_a := a_4.lt; have cell_ac := ac_4.cell; have froz_ac := ac_4.frozen; have lt_ac := ac_4.lt; have cell_u := u_4.cell; have froz_u := u_4.frozen; have lt_u := u_4.lt) | (go_at_call 6; refine calls_forget0 (W := w3) ?_ ?_; (focus (repeat (first | (with_reducible first | exact Below.refl _ _ | refine Below.trans ?_ (Below.mono (by assumption) ?_) | refine Below.alloc ?_ ?_ _ | refine Below.setCell ?_ ?_ _ | refine Below.drew ?_ | refine below_drewN ?_) | omega | (· simp) | (· (simp; omega)) | (· simp [*])))); intro X4 hX4; have sX4 := hX4.size; refine (CS.out _ _ _ _ _ _ _ ⟨own_weak (own_below pj_3 hX4) (Nat.zero_le _), own_weak (own_below pt_3 hX4) (Nat.zero_le _), own_weak (own_below pf_3 hX4) (Nat.zero_le _)⟩).mono ?_; rintro e w4 ⟨Uj, uj', Ut, ut', Uf, uf', rfl, uj_4, ut_4, uf_4, hb4⟩; have s4 := hb4.size; have hT4 := hX4.trans (hb4.mono sX4); have b_4 := b_3.trans (hT4.mono (by omega)); have gh_4 := hid (gh_3.out.trans (hT4.mono (by omega))); have j_4 := cells_below j_3 hT4 (by omega); have t_4 := cells_below t_3 hT4 (by omega); have f_4 := cells_below f_3 hT4 (by omega); have pj_4 := own_below pj_3 hT4; have pt_4 := own_below pt_3 hT4; have pf_4 := own_below pf_3 hT4; have a_4 := Blk.past hT4 a_3; have ac_4 := Blk.past hT4 ac_3; have uj_in := own_in uj_4; have ut_in := own_in ut_4; have uf_in := own_in uf_4; clear gh_3 j_3 t_3 f_3 pj_3 pt_3 pf_3 a_3 ac_3 b_3 cell_a froz_a lt_a cell_ac froz_ac lt_ac hX4 hT4 hb4; have cell_a := a_4.cell; have froz_a := a_4.frozen; have lt_a := a_4.lt; have cell_ac := ac_4.cell; have froz_ac := ac_4.frozen; have lt_ac := ac_4.lt))
    all_goals
      go_wp2_with fail
      go_meet
      first
      | exact ⟨w1.heap.size, Uj, uj', Ut, ut', Uf, uf', rfl, rfl, by first | exact Nat.le_refl _ | omega, by (apply Blk.cast; (case h => (repeat (with_reducible first | assumption | apply Blk.drew | apply Blk.drewN | (apply Blk.new; first | rfl | (simp; done)) | apply Blk.alloc | apply Blk.set_ | (apply Blk.past; focus assumption) | (apply Blk.far; focus (first | (simp; done) | (simp; omega) | (dsimp only; omega)))))); (case e => rfl)), ⟨own_weak (base := X4.heap.size) (by repeat (first | (with_reducible assumption) | (with_reducible apply World.ownsRow.drew) | (with_reducible apply own_drewN) | (with_reducible apply World.ownsRow.alloc) | (with_reducible refine own_set ?_ _ _ (by first | omega | (simp; omega) | (dsimp only; omega))))) (by omega), own_weak (base := X4.heap.size) (by repeat (first | (with_reducible assumption) | (with_reducible apply World.ownsRow.drew) | (with_reducible apply own_drewN) | (with_reducible apply World.ownsRow.alloc) | (with_reducible refine own_set ?_ _ _ (by first | omega | (simp; omega) | (dsimp only; omega))))) (by omega), own_weak (base := X4.heap.size) (by repeat (first | (with_reducible assumption) | (with_reducible apply World.ownsRow.drew) | (with_reducible apply own_drewN) | (with_reducible apply World.ownsRow.alloc) | (with_reducible refine own_set ?_ _ _ (by first | omega | (simp; omega) | (dsimp only; omega))))) (by omega)⟩, by have gq := gh_4.out; repeat (first | (with_reducible first | exact Below.refl _ _ | refine Below.trans ?_ (Below.mono (by assumption) ?_) | refine Below.alloc ?_ ?_ _ | refine Below.setCell ?_ ?_ _ | refine Below.drew ?_ | refine below_drewN ?_) | omega | (· simp) | (· (simp; omega)) | (· simp [*]))⟩
      | exact ⟨w2.heap.size, Uj, uj', Ut, ut', Uf, uf', rfl, rfl, by first | exact Nat.le_refl _ | omega, by (apply Blk.cast; (case h => (repeat (with_reducible first | assumption | apply Blk.drew | apply Blk.drewN | (apply Blk.new; first | rfl | (simp; done)) | apply Blk.alloc | apply Blk.set_ | (apply Blk.past; focus assumption) | (apply Blk.far; focus (first | (simp; done) | (simp; omega) | (dsimp only; omega)))))); (case e => rfl)), ⟨own_weak (base := X4.heap.size) (by repeat (first | (with_reducible assumption) | (with_reducible apply World.ownsRow.drew) | (with_reducible apply own_drewN) | (with_reducible apply World.ownsRow.alloc) | (with_reducible refine own_set ?_ _ _ (by first | omega | (simp; omega) | (dsimp only; omega))))) (by omega), own_weak (base := X4.heap.size) (by repeat (first | (with_reducible assumption) | (with_reducible apply World.ownsRow.drew) | (with_reducible apply own_drewN) | (with_reducible apply World.ownsRow.alloc) | (with_reducible refine own_set ?_ _ _ (by first | omega | (simp; omega) | (dsimp only; omega))))) (by omega), own_weak (base := X4.heap.size) (by repeat (first | (with_reducible assumption) | (with_reducible apply World.ownsRow.drew) | (with_reducible apply own_drewN) | (with_reducible apply World.ownsRow.alloc) | (with_reducible refine own_set ?_ _ _ (by first | omega | (simp; omega) | (dsimp only; omega))))) (by omega)⟩, by have gq := gh_4.out; repeat (first | (with_reducible first | exact Below.refl _ _ | refine Below.trans ?_ (Below.mono (by assumption) ?_) | refine Below.alloc ?_ ?_ _ | refine Below.setCell ?_ ?_ _ | refine Below.drew ?_ | refine below_drewN ?_) | omega | (· simp) | (· (simp; omega)) | (· simp [*]))⟩
      | exact ⟨w3.heap.size, Uj, uj', Ut, ut', Uf, uf', rfl, rfl, by first | exact Nat.le_refl _ | omega, by (apply Blk.cast; (case h => (repeat (with_reducible first | assumption | apply Blk.drew | apply Blk.drewN | (apply Blk.new; first | rfl | (simp; done)) | apply Blk.alloc | apply Blk.set_ | (apply Blk.past; focus assumption) | (apply Blk.far; focus (first | (simp; done) | (simp; omega) | (dsimp only; omega)))))); (case e => rfl)), ⟨own_weak (base := X4.heap.size) (by repeat (first | (with_reducible assumption) | (with_reducible apply World.ownsRow.drew) | (with_reducible apply own_drewN) | (with_reducible apply World.ownsRow.alloc) | (with_reducible refine own_set ?_ _ _ (by first | omega | (simp; omega) | (dsimp only; omega))))) (by omega), own_weak (base := X4.heap.size) (by repeat (first | (with_reducible assumption) | (with_reducible apply World.ownsRow.drew) | (with_reducible apply own_drewN) | (with_reducible apply World.ownsRow.alloc) | (with_reducible refine own_set ?_ _ _ (by first | omega | (simp; omega) | (dsimp only; omega))))) (by omega), own_weak (base := X4.heap.size) (by repeat (first | (with_reducible assumption) | (with_reducible apply World.ownsRow.drew) | (with_reducible apply own_drewN) | (with_reducible apply World.ownsRow.alloc) | (with_reducible refine own_set ?_ _ _ (by first | omega | (simp; omega) | (dsimp only; omega))))) (by omega)⟩, by have gq := gh_4.out; repeat (first | (with_reducible first | exact Below.refl _ _ | refine Below.trans ?_ (Below.mono (by assumption) ?_) | refine Below.alloc ?_ ?_ _ | refine Below.setCell ?_ ?_ _ | refine Below.drew ?_ | refine below_drewN ?_) | omega | (· simp) | (· (simp; omega)) | (· simp [*]))⟩
      | exact ⟨w4.heap.size, Uj, uj', Ut, ut', Uf, uf', rfl, rfl, by first | exact Nat.le_refl _ | omega, by (apply Blk.cast; (case h => (repeat (with_reducible first | assumption | apply Blk.drew | apply Blk.drewN | (apply Blk.new; first | rfl | (simp; done)) | apply Blk.alloc | apply Blk.set_ | (apply Blk.past; focus assumption) | (apply Blk.far; focus (first | (simp; done) | (simp; omega) | (dsimp only; omega)))))); (case e => rfl)), ⟨own_weak (base := X4.heap.size) (by repeat (first | (with_reducible assumption) | (with_reducible apply World.ownsRow.drew) | (with_reducible apply own_drewN) | (with_reducible apply World.ownsRow.alloc) | (with_reducible refine own_set ?_ _ _ (by first | omega | (simp; omega) | (dsimp only; omega))))) (by omega), own_weak (base := X4.heap.size) (by repeat (first | (with_reducible assumption) | (with_reducible apply World.ownsRow.drew) | (with_reducible apply own_drewN) | (with_reducible apply World.ownsRow.alloc) | (with_reducible refine own_set ?_ _ _ (by first | omega | (simp; omega) | (dsimp only; omega))))) (by omega), own_weak (base := X4.heap.size) (by repeat (first | (with_reducible assumption) | (with_reducible apply World.ownsRow.drew) | (with_reducible apply own_drewN) | (with_reducible apply World.ownsRow.alloc) | (with_reducible refine own_set ?_ _ _ (by first | omega | (simp; omega) | (dsimp only; omega))))) (by omega)⟩, by have gq := gh_4.out; repeat (first | (with_reducible first | exact Below.refl _ _ | refine Below.trans ?_ (Below.mono (by assumption) ?_) | refine Below.alloc ?_ ?_ _ | refine Below.setCell ?_ ?_ _ | refine Below.drew ?_ | refine below_drewN ?_) | omega | (· simp) | (· (simp; omega)) | (· simp [*]))⟩
  case rest =>
    obtain ⟨b_u, Uj, uj', Ut, ut', Uf, uf', rfl, rfl, u_ge, u_5, ⟨uj_5, ut_5, uf_5⟩, hb5⟩ := hcut
    obtain ⟨w5, rfl⟩ : ∃ z : World, z = wc := ⟨_, rfl⟩
    have s5 := hb5.size
    have b_5 := b_1.trans (hb5.mono (by omega))
    have j_5 := cells_below j_1 hb5 (by omega)
    have t_5 := cells_below t_1 hb5 (by omega)
    have f_5 := cells_below f_1 hb5 (by omega)
    have a_5 := Blk.past hb5 a_1
    have ac_5 := Blk.past hb5 ac_1
    clear j_1 t_1 f_1 a_1 ac_1 b_1 cell_a froz_a lt_a cell_ac froz_ac lt_ac hb5
    have u_lt := u_5.lt
    have uj_in := own_off uj_5 u_5 (by decide)
    have ut_in := own_off ut_5 u_5 (by decide)
    have uf_in := own_off uf_5 u_5 (by decide)
    have cell_a := a_5.cell
    have froz_a := a_5.frozen
    have lt_a := a_5.lt
    have cell_ac := ac_5.cell
    have froz_ac := ac_5.frozen
    have lt_ac := ac_5.lt
    have cell_u := u_5.cell
    have froz_u := u_5.frozen
    have lt_u := u_5.lt
    go_wp2_with fail
    refine calls_forget0 (W := w5) ?_ ?_
    (focus (repeat (first | (with_reducible first | exact Below.refl _ _ | refine Below.trans ?_ (Below.mono (by assumption) ?_) | refine Below.alloc ?_ ?_ _ | refine Below.setCell ?_ ?_ _ | refine Below.drew ?_ | refine below_drewN ?_) | omega | (· simp) | (· (simp; omega)) | (· simp [*]))))
    intro X6 hX6
    have sX6 := hX6.size
    refine (TS.out _ _ _ _ _ _ _ ((cells_below j_5 hX6 (by omega)).more (by omega)) ((cells_below t_5 hX6 (by omega)).more (by omega)) ((cells_below f_5 hX6 (by omega)).more (by omega))).mono ?_
    rintro e w6 ⟨Bj, Bt, Bf, rfl, xj_6, xt_6, xf_6, hb6⟩
    have s6 := hb6.size
    have hT6 := hX6.trans (hb6.mono sX6)
    have b_6 := b_5.trans (hT6.mono (by omega))
    have j_6 := cells_below j_5 hT6 (by omega)
    have t_6 := cells_below t_5 hT6 (by omega)
    have f_6 := cells_below f_5 hT6 (by omega)
    have uj_6 := own_below uj_5 hT6
    have ut_6 := own_below ut_5 hT6
    have uf_6 := own_below uf_5 hT6
    have a_6 := Blk.past hT6 a_5
    have ac_6 := Blk.past hT6 ac_5
    have u_6 := Blk.past hT6 u_5
    have xj_in := own_in xj_6
    have xt_in := own_in xt_6
    have xf_in := own_in xf_6
    clear j_5 t_5 f_5 uj_5 ut_5 uf_5 a_5 ac_5 u_5 b_5 cell_a froz_a lt_a cell_ac froz_ac lt_ac cell_u froz_u lt_u hX6 hT6 hb6
    have cell_a := a_6.cell
    have froz_a := a_6.frozen
    have lt_a := a_6.lt
    have cell_ac := ac_6.cell
    have froz_ac := ac_6.frozen
    have lt_ac := ac_6.lt
    have cell_u := u_6.cell
    have froz_u := u_6.frozen
    have lt_u := u_6.lt
    go_upto_region 7 with fail
    refine wp_forget1 (w0 := w6) (B := w6.heap.size) (b0 := w6.heap.size) (t0 := 36) (c0 := #[.int .i64 S.z, .int .i64 S.n, .int .i64 S.b, .slice Bj S.js.length S.js.length, .slice Bt S.ts.length S.ts.length, .slice Bf S.fs.length S.fs.length]) ?_ ?_ ?_
    (focus (apply Blk.cast; (case h => (repeat (with_reducible first | assumption | apply Blk.drew | apply Blk.drewN | (apply Blk.new; first | rfl | (simp; done)) | apply Blk.alloc | apply Blk.set_ | (apply Blk.past; focus assumption) | (apply Blk.far; focus (first | (simp; done) | (simp; omega) | (dsimp only; omega)))))); (case e => rfl)))
    (focus (repeat (first | (with_reducible first | exact Below.refl _ _ | refine Below.trans ?_ (Below.mono (by assumption) ?_) | refine Below.alloc ?_ ?_ _ | refine Below.setCell ?_ ?_ _ | refine Below.drew ?_ | refine below_drewN ?_) | omega | (· simp) | (· (simp; omega)) | (· simp [*]))))
    intro w7 x_7 hX7
    have sX7 := hX7.size
    have x_lt := x_7.lt
    have b_7 := b_6.trans (hX7.mono (by omega))
    have j_7 := cells_below j_6 hX7 (by omega)
    have t_7 := cells_below t_6 hX7 (by omega)
    have f_7 := cells_below f_6 hX7 (by omega)
    have uj_7 := own_below uj_6 hX7
    have ut_7 := own_below ut_6 hX7
    have uf_7 := own_below uf_6 hX7
    have xj_7 := own_below xj_6 hX7
    have xt_7 := own_below xt_6 hX7
    have xf_7 := own_below xf_6 hX7
    have a_7 := Blk.past hX7 a_6
    have ac_7 := Blk.past hX7 ac_6
    have u_7 := Blk.past hX7 u_6
    clear j_6 t_6 f_6 uj_6 ut_6 uf_6 xj_6 xt_6 xf_6 a_6 ac_6 u_6 b_6 cell_a froz_a lt_a cell_ac froz_ac lt_ac cell_u froz_u lt_u hX7
    have cell_a := a_7.cell
    have froz_a := a_7.frozen
    have lt_a := a_7.lt
    have cell_ac := ac_7.cell
    have froz_ac := ac_7.frozen
    have lt_ac := ac_7.lt
    have cell_u := u_7.cell
    have froz_u := u_7.frozen
    have lt_u := u_7.lt
    have cell_x := x_7.cell
    have froz_x := x_7.frozen
    have lt_x := x_7.lt
    go_cut [9, 10] (fun v9 v10 wx => CutS R cnt w7 v9 v10 wx)
    case first =>
      have gh_7 := hid (Below.refl w7.heap.size w7)
      have zb := b_7.size
      clear j_7 t_7 f_7 uj_7 ut_7 uf_7 a_7 u_7 cell_a froz_a lt_a cell_u froz_u lt_u uj_in ut_in uf_in
      have zl_ac := ac_7.lt
      have zl_x := x_7.lt
      try clear s0
      try clear sX0
      try clear s1
      try clear sX1
      try clear s2
      try clear sX2
      try clear s3
      try clear sX3
      try clear s4
      try clear sX4
      try clear s5
      try clear sX5
      try clear s6
      try clear sX6
      try clear s7
      try clear sX7
      go_region_held3 (fun w' => w'.cell? ⟨w.heap.size + 1, 0, none⟩ = some (.int .i64 k) ∧ w'.cell? ⟨w.heap.size + 1, 1, none⟩ = some (.int .i64 i) ∧ w'.cell? ⟨w.heap.size + 1, 2, none⟩ = some (.int .i64 d) ∧ w'.cell? ⟨w.heap.size + 1, 3, none⟩ = some (.int .i64 n) ∧ w'.cell? ⟨w6.heap.size, 0, none⟩ = some (.int .i64 S.z) ∧ w'.cell? ⟨w6.heap.size, 1, none⟩ = some (.int .i64 S.n) ∧ w'.cell? ⟨w6.heap.size, 2, none⟩ = some (.int .i64 S.b) ∧ w'.cell? ⟨w6.heap.size, 3, none⟩ = some (.slice Bj S.js.length S.js.length) ∧ w'.cell? ⟨w6.heap.size, 4, none⟩ = some (.slice Bt S.ts.length S.ts.length) ∧ w'.cell? ⟨w6.heap.size, 5, none⟩ = some (.slice Bf S.fs.length S.fs.length)) ((refine ⟨(Blk.cell (t := 30) (cs := #[.int .i64 k, .int .i64 i, .int .i64 d, .int .i64 n]) ?qac 0), (Blk.cell ?qac 1), (Blk.cell ?qac 2), (Blk.cell ?qac 3), (Blk.cell (t := 36) (cs := #[.int .i64 S.z, .int .i64 S.n, .int .i64 S.b, .slice Bj S.js.length S.js.length, .slice Bt S.ts.length S.ts.length, .slice Bf S.fs.length S.fs.length]) ?qx 0), (Blk.cell ?qx 1), (Blk.cell ?qx 2), (Blk.cell ?qx 3), (Blk.cell ?qx 4), (Blk.cell ?qx 5)⟩; (case qac => (repeat (with_reducible first | assumption | apply Blk.drew | apply Blk.drewN | (apply Blk.new; first | rfl | (simp; done)) | apply Blk.alloc | apply Blk.set_ | (apply Blk.past; focus assumption) | (apply Blk.far; focus (first | (simp; done) | (simp; omega) | (dsimp only; omega)))))); (case qx => (repeat (with_reducible first | assumption | apply Blk.drew | apply Blk.drewN | (apply Blk.new; first | rfl | (simp; done)) | apply Blk.alloc | apply Blk.set_ | (apply Blk.past; focus assumption) | (apply Blk.far; focus (first | (simp; done) | (simp; omega) | (dsimp only; omega)))))))) (first | (go_at_call 8; refine calls_forget1 (W := w7) (b0 := w7.heap.size) (t0 := 36) (c0 := #[.int .i64 0, .int .i64 0, .int .i64 0, .slice none 0 0, .slice none 0 0, .slice none 0 0]) ?_ ?_ ?_; (focus (apply Blk.cast; (case h => (repeat (with_reducible first | assumption | apply Blk.drew | apply Blk.drewN | (apply Blk.new; first | rfl | (simp; done)) | apply Blk.alloc | apply Blk.set_ | (apply Blk.past; focus assumption) | (apply Blk.far; focus (first | (simp; done) | (simp; omega) | (dsimp only; omega)))))); (case e => rfl))); (focus (repeat (first | (with_reducible first | exact Below.refl _ _ | refine Below.trans ?_ (Below.mono (by assumption) ?_) | refine Below.alloc ?_ ?_ _ | refine Below.setCell ?_ ?_ _ | refine Below.drew ?_ | refine below_drewN ?_) | omega | (· simp) | (· (simp; omega)) | (· simp [*])))); intro X8 g_n hX8; have sX8 := hX8.size; have g_lt := g_n.lt; refine (toAct_any _ _ _ _ _).mono ?_; rintro e w8 ⟨rfl, hb8⟩; have s8 := hb8.size; have hT8 := hX8.trans (hb8.mono sX8); have b_8 := b_7.trans (hT8.mono (by omega)); have gh_8 := hid (gh_7.out.trans (hT8.mono (by omega))); have xj_8 := own_below xj_7 hT8; have xt_8 := own_below xt_7 hT8; have xf_8 := own_below xf_7 hT8; have ac_8 := Blk.past hT8 ac_7; have x_8 := Blk.past hT8 x_7; have g_8 := Blk.past hb8 g_n; clear gh_7 xj_7 xt_7 xf_7 ac_7 x_7 b_7 cell_ac froz_ac lt_ac cell_x froz_x lt_x g_n hX8 hT8 hb8; have cell_ac := ac_8.cell; have froz_ac := ac_8.frozen; have lt_ac := ac_8.lt; have cell_x := x_8.cell; have froz_x := x_8.frozen; have lt_x := x_8.lt; have cell_g := g_8.cell; have froz_g := g_8.frozen; have lt_g := g_8.lt) | (go_at_call 8; refine calls_forget0 (W := w7) ?_ ?_; (focus (repeat (first | (with_reducible first | exact Below.refl _ _ | refine Below.trans ?_ (Below.mono (by assumption) ?_) | refine Below.alloc ?_ ?_ _ | refine Below.setCell ?_ ?_ _ | refine Below.drew ?_ | refine below_drewN ?_) | omega | (· simp) | (· (simp; omega)) | (· simp [*])))); intro X8 hX8; have sX8 := hX8.size; refine (toAct_any _ _ _ _ _).mono ?_; rintro e w8 ⟨rfl, hb8⟩; have s8 := hb8.size; have hT8 := hX8.trans (hb8.mono sX8); have b_8 := b_7.trans (hT8.mono (by omega)); have gh_8 := hid (gh_7.out.trans (hT8.mono (by omega))); have xj_8 := own_below xj_7 hT8; have xt_8 := own_below xt_7 hT8; have xf_8 := own_below xf_7 hT8; have ac_8 := Blk.past hT8 ac_7; have x_8 := Blk.past hT8 x_7; clear gh_7 xj_7 xt_7 xf_7 ac_7 x_7 b_7 cell_ac froz_ac lt_ac cell_x froz_x lt_x hX8 hT8 hb8; have cell_ac := ac_8.cell; have froz_ac := ac_8.frozen; have lt_ac := ac_8.lt; have cell_x := x_8.cell; have froz_x := x_8.frozen; have lt_x := x_8.lt) | (go_at_call 9; refine calls_forget0 (W := w8) ?_ ?_; (focus (repeat (first | (with_reducible first | exact Below.refl _ _ | refine Below.trans ?_ (Below.mono (by assumption) ?_) | refine Below.alloc ?_ ?_ _ | refine Below.setCell ?_ ?_ _ | refine Below.drew ?_ | refine below_drewN ?_) | omega | (· simp) | (· (simp; omega)) | (· simp [*])))); intro X9 hX9; have sX9 := hX9.size; refine (CI.out _ _ _ _ _ _ _ ⟨own_weak (own_below xj_8 hX9) (Nat.zero_le _), own_weak (own_below xt_8 hX9) (Nat.zero_le _), own_weak (own_below xf_8 hX9) (Nat.zero_le _)⟩).mono ?_; rintro e w9 ⟨Gj, gj', Gt, gt', Gf, gf', rfl, gj_9, gt_9, gf_9, hb9⟩; have s9 := hb9.size; have hT9 := hX9.trans (hb9.mono sX9); have b_9 := b_8.trans (hT9.mono (by omega)); have gh_9 := hid (gh_8.out.trans (hT9.mono (by omega))); have xj_9 := own_below xj_8 hT9; have xt_9 := own_below xt_8 hT9; have xf_9 := own_below xf_8 hT9; have ac_9 := Blk.past hT9 ac_8; have x_9 := Blk.past hT9 x_8; have g_9 := Blk.past hT9 g_8; have gj_in := own_in gj_9; have gt_in := own_in gt_9; have gf_in := own_in gf_9; clear gh_8 xj_8 xt_8 xf_8 ac_8 x_8 g_8 b_8 cell_ac froz_ac lt_ac cell_x froz_x lt_x cell_g froz_g lt_g hX9 hT9 hb9; have cell_ac := ac_9.cell; have froz_ac := ac_9.frozen; have lt_ac := ac_9.lt; have cell_x := x_9.cell; have froz_x := x_9.frozen; have lt_x := x_9.lt; have cell_g := g_9.cell; have froz_g := g_9.frozen; have lt_g := g_9.lt) | (go_at_call 9; refine calls_forget1 (W := w8) (b0 := w8.heap.size) (t0 := 36) (c0 := #[.int .i64 0, .int .i64 0, .int .i64 0, .slice none 0 0, .slice none 0 0, .slice none 0 0]) ?_ ?_ ?_; (focus (apply Blk.cast; (case h => (repeat (with_reducible first | assumption | apply Blk.drew | apply Blk.drewN | (apply Blk.new; first | rfl | (simp; done)) | apply Blk.alloc | apply Blk.set_ | (apply Blk.past; focus assumption) | (apply Blk.far; focus (first | (simp; done) | (simp; omega) | (dsimp only; omega)))))); (case e => rfl))); (focus (repeat (first | (with_reducible first | exact Below.refl _ _ | refine Below.trans ?_ (Below.mono (by assumption) ?_) | refine Below.alloc ?_ ?_ _ | refine Below.setCell ?_ ?_ _ | refine Below.drew ?_ | refine below_drewN ?_) | omega | (· simp) | (· (simp; omega)) | (· simp [*])))); intro X9 g_n hX9; have sX9 := hX9.size; have g_lt := g_n.lt; refine (CI.out _ _ _ _ _ _ _ ⟨own_weak (own_below xj_8 hX9) (Nat.zero_le _), own_weak (own_below xt_8 hX9) (Nat.zero_le _), own_weak (own_below xf_8 hX9) (Nat.zero_le _)⟩).mono ?_; rintro e w9 ⟨Gj, gj', Gt, gt', Gf, gf', rfl, gj_9, gt_9, gf_9, hb9⟩; have s9 := hb9.size; have hT9 := hX9.trans (hb9.mono sX9); have b_9 := b_8.trans (hT9.mono (by omega)); have gh_9 := hid (gh_8.out.trans (hT9.mono (by omega))); have xj_9 := own_below xj_8 hT9; have xt_9 := own_below xt_8 hT9; have xf_9 := own_below xf_8 hT9; have ac_9 := Blk.past hT9 ac_8; have x_9 := Blk.past hT9 x_8; have g_9 := Blk.past hb9 g_n; have gj_in := own_in gj_9; have gt_in := own_in gt_9; have gf_in := own_in gf_9; clear gh_8 xj_8 xt_8 xf_8 ac_8 x_8 b_8 cell_ac froz_ac lt_ac cell_x froz_x lt_x g_n hX9 hT9 hb9; have cell_ac := ac_9.cell; have froz_ac := ac_9.frozen; have lt_ac := ac_9.lt; have cell_x := x_9.cell; have froz_x := x_9.frozen; have lt_x := x_9.lt; have cell_g := g_9.cell; have froz_g := g_9.frozen; have lt_g := g_9.lt) | (go_at_call 9; refine calls_forget0 (W := w8) ?_ ?_; (focus (repeat (first | (with_reducible first | exact Below.refl _ _ | refine Below.trans ?_ (Below.mono (by assumption) ?_) | refine Below.alloc ?_ ?_ _ | refine Below.setCell ?_ ?_ _ | refine Below.drew ?_ | refine below_drewN ?_) | omega | (· simp) | (· (simp; omega)) | (· simp [*])))); intro X9 hX9; have sX9 := hX9.size; refine (CI.out _ _ _ _ _ _ _ ⟨own_weak (own_below xj_8 hX9) (Nat.zero_le _), own_weak (own_below xt_8 hX9) (Nat.zero_le _), own_weak (own_below xf_8 hX9) (Nat.zero_le _)⟩).mono ?_; rintro e w9 ⟨Gj, gj', Gt, gt', Gf, gf', rfl, gj_9, gt_9, gf_9, hb9⟩; have s9 := hb9.size; have hT9 := hX9.trans (hb9.mono sX9); have b_9 := b_8.trans (hT9.mono (by omega)); have gh_9 := hid (gh_8.out.trans (hT9.mono (by omega))); have xj_9 := own_below xj_8 hT9; have xt_9 := own_below xt_8 hT9; have xf_9 := own_below xf_8 hT9; have ac_9 := Blk.past hT9 ac_8; have x_9 := Blk.past hT9 x_8; have gj_in := own_in gj_9; have gt_in := own_in gt_9; have gf_in := own_in gf_9; clear gh_8 xj_8 xt_8 xf_8 ac_8 x_8 b_8 cell_ac froz_ac lt_ac cell_x froz_x lt_x hX9 hT9 hb9; have cell_ac := ac_9.cell; have froz_ac := ac_9.frozen; have lt_ac := ac_9.lt; have cell_x := x_9.cell; have froz_x := x_9.frozen; have lt_x := x_9.lt))
      all_goals
        go_wp2_with fail
        go_meet
        first
        | exact ⟨w7.heap.size, Gj, gj', Gt, gt', Gf, gf', rfl, rfl, by first | exact Nat.le_refl _ | omega, by (apply Blk.cast; (case h => (repeat (with_reducible first | assumption | apply Blk.drew | apply Blk.drewN | (apply Blk.new; first | rfl | (simp; done)) | apply Blk.alloc | apply Blk.set_ | (apply Blk.past; focus assumption) | (apply Blk.far; focus (first | (simp; done) | (simp; omega) | (dsimp only; omega)))))); (case e => rfl)), ⟨own_weak (base := X9.heap.size) (by repeat (first | (with_reducible assumption) | (with_reducible apply World.ownsRow.drew) | (with_reducible apply own_drewN) | (with_reducible apply World.ownsRow.alloc) | (with_reducible refine own_set ?_ _ _ (by first | omega | (simp; omega) | (dsimp only; omega))))) (by omega), own_weak (base := X9.heap.size) (by repeat (first | (with_reducible assumption) | (with_reducible apply World.ownsRow.drew) | (with_reducible apply own_drewN) | (with_reducible apply World.ownsRow.alloc) | (with_reducible refine own_set ?_ _ _ (by first | omega | (simp; omega) | (dsimp only; omega))))) (by omega), own_weak (base := X9.heap.size) (by repeat (first | (with_reducible assumption) | (with_reducible apply World.ownsRow.drew) | (with_reducible apply own_drewN) | (with_reducible apply World.ownsRow.alloc) | (with_reducible refine own_set ?_ _ _ (by first | omega | (simp; omega) | (dsimp only; omega))))) (by omega)⟩, by have gq := gh_9.out; repeat (first | (with_reducible first | exact Below.refl _ _ | refine Below.trans ?_ (Below.mono (by assumption) ?_) | refine Below.alloc ?_ ?_ _ | refine Below.setCell ?_ ?_ _ | refine Below.drew ?_ | refine below_drewN ?_) | omega | (· simp) | (· (simp; omega)) | (· simp [*]))⟩
        | exact ⟨w8.heap.size, Gj, gj', Gt, gt', Gf, gf', rfl, rfl, by first | exact Nat.le_refl _ | omega, by (apply Blk.cast; (case h => (repeat (with_reducible first | assumption | apply Blk.drew | apply Blk.drewN | (apply Blk.new; first | rfl | (simp; done)) | apply Blk.alloc | apply Blk.set_ | (apply Blk.past; focus assumption) | (apply Blk.far; focus (first | (simp; done) | (simp; omega) | (dsimp only; omega)))))); (case e => rfl)), ⟨own_weak (base := X9.heap.size) (by repeat (first | (with_reducible assumption) | (with_reducible apply World.ownsRow.drew) | (with_reducible apply own_drewN) | (with_reducible apply World.ownsRow.alloc) | (with_reducible refine own_set ?_ _ _ (by first | omega | (simp; omega) | (dsimp only; omega))))) (by omega), own_weak (base := X9.heap.size) (by repeat (first | (with_reducible assumption) | (with_reducible apply World.ownsRow.drew) | (with_reducible apply own_drewN) | (with_reducible apply World.ownsRow.alloc) | (with_reducible refine own_set ?_ _ _ (by first | omega | (simp; omega) | (dsimp only; omega))))) (by omega), own_weak (base := X9.heap.size) (by repeat (first | (with_reducible assumption) | (with_reducible apply World.ownsRow.drew) | (with_reducible apply own_drewN) | (with_reducible apply World.ownsRow.alloc) | (with_reducible refine own_set ?_ _ _ (by first | omega | (simp; omega) | (dsimp only; omega))))) (by omega)⟩, by have gq := gh_9.out; repeat (first | (with_reducible first | exact Below.refl _ _ | refine Below.trans ?_ (Below.mono (by assumption) ?_) | refine Below.alloc ?_ ?_ _ | refine Below.setCell ?_ ?_ _ | refine Below.drew ?_ | refine below_drewN ?_) | omega | (· simp) | (· (simp; omega)) | (· simp [*]))⟩
        | exact ⟨w9.heap.size, Gj, gj', Gt, gt', Gf, gf', rfl, rfl, by first | exact Nat.le_refl _ | omega, by (apply Blk.cast; (case h => (repeat (with_reducible first | assumption | apply Blk.drew | apply Blk.drewN | (apply Blk.new; first | rfl | (simp; done)) | apply Blk.alloc | apply Blk.set_ | (apply Blk.past; focus assumption) | (apply Blk.far; focus (first | (simp; done) | (simp; omega) | (dsimp only; omega)))))); (case e => rfl)), ⟨own_weak (base := X9.heap.size) (by repeat (first | (with_reducible assumption) | (with_reducible apply World.ownsRow.drew) | (with_reducible apply own_drewN) | (with_reducible apply World.ownsRow.alloc) | (with_reducible refine own_set ?_ _ _ (by first | omega | (simp; omega) | (dsimp only; omega))))) (by omega), own_weak (base := X9.heap.size) (by repeat (first | (with_reducible assumption) | (with_reducible apply World.ownsRow.drew) | (with_reducible apply own_drewN) | (with_reducible apply World.ownsRow.alloc) | (with_reducible refine own_set ?_ _ _ (by first | omega | (simp; omega) | (dsimp only; omega))))) (by omega), own_weak (base := X9.heap.size) (by repeat (first | (with_reducible assumption) | (with_reducible apply World.ownsRow.drew) | (with_reducible apply own_drewN) | (with_reducible apply World.ownsRow.alloc) | (with_reducible refine own_set ?_ _ _ (by first | omega | (simp; omega) | (dsimp only; omega))))) (by omega)⟩, by have gq := gh_9.out; repeat (first | (with_reducible first | exact Below.refl _ _ | refine Below.trans ?_ (Below.mono (by assumption) ?_) | refine Below.alloc ?_ ?_ _ | refine Below.setCell ?_ ?_ _ | refine Below.drew ?_ | refine below_drewN ?_) | omega | (· simp) | (· (simp; omega)) | (· simp [*]))⟩
    case rest =>
      obtain ⟨b_g, Gj, gj', Gt, gt', Gf, gf', rfl, rfl, g_ge, g_10, ⟨gj_10, gt_10, gf_10⟩, hb10⟩ := hcut
      obtain ⟨w10, rfl⟩ : ∃ z : World, z = wc := ⟨_, rfl⟩
      have s10 := hb10.size
      have b_10 := b_7.trans (hb10.mono (by omega))
      have j_10 := cells_below j_7 hb10 (by omega)
      have t_10 := cells_below t_7 hb10 (by omega)
      have f_10 := cells_below f_7 hb10 (by omega)
      have uj_10 := own_below uj_7 hb10
      have ut_10 := own_below ut_7 hb10
      have uf_10 := own_below uf_7 hb10
      have xj_10 := own_below xj_7 hb10
      have xt_10 := own_below xt_7 hb10
      have xf_10 := own_below xf_7 hb10
      have a_10 := Blk.past hb10 a_7
      have ac_10 := Blk.past hb10 ac_7
      have u_10 := Blk.past hb10 u_7
      have x_10 := Blk.past hb10 x_7
      clear j_7 t_7 f_7 uj_7 ut_7 uf_7 xj_7 xt_7 xf_7 a_7 ac_7 u_7 x_7 b_7 cell_a froz_a lt_a cell_ac froz_ac lt_ac cell_u froz_u lt_u cell_x froz_x lt_x hb10
      have g_lt := g_10.lt
      have gj_in := own_off gj_10 g_10 (by decide)
      have gt_in := own_off gt_10 g_10 (by decide)
      have gf_in := own_off gf_10 g_10 (by decide)
      have cell_a := a_10.cell
      have froz_a := a_10.frozen
      have lt_a := a_10.lt
      have cell_ac := ac_10.cell
      have froz_ac := ac_10.frozen
      have lt_ac := ac_10.lt
      have cell_u := u_10.cell
      have froz_u := u_10.frozen
      have lt_u := u_10.lt
      have cell_x := x_10.cell
      have froz_x := x_10.frozen
      have lt_x := x_10.lt
      have cell_g := g_10.cell
      have froz_g := g_10.frozen
      have lt_g := g_10.lt
      go_wp2_with fail
      refine calls_forget0 (W := w10) ?_ ?_
      (focus (repeat (first | (with_reducible first | exact Below.refl _ _ | refine Below.trans ?_ (Below.mono (by assumption) ?_) | refine Below.alloc ?_ ?_ _ | refine Below.setCell ?_ ?_ _ | refine Below.drew ?_ | refine below_drewN ?_) | omega | (· simp) | (· (simp; omega)) | (· simp [*]))))
      intro X11 hX11
      have sX11 := hX11.size
      refine (ER.out _ _ _ _ _ _ _ _ _ _ _ _ _ (Cells.of_own (own_below gj_10 hX11)) (Cells.of_own (own_below uj_10 hX11)) (Cells.of_own (own_below gt_10 hX11)) (Cells.of_own (own_below ut_10 hX11)) (Cells.of_own (own_below gf_10 hX11)) (Cells.of_own (own_below uf_10 hX11))).mono ?_
      rintro e w11 ⟨rfl, hb11⟩
      have s11 := hb11.size
      have hT11 := hX11.trans (hb11.mono sX11)
      have b_11 := b_10.trans (hT11.mono (by omega))
      have j_11 := cells_below j_10 hT11 (by omega)
      have t_11 := cells_below t_10 hT11 (by omega)
      have f_11 := cells_below f_10 hT11 (by omega)
      have uj_11 := own_below uj_10 hT11
      have ut_11 := own_below ut_10 hT11
      have uf_11 := own_below uf_10 hT11
      have xj_11 := own_below xj_10 hT11
      have xt_11 := own_below xt_10 hT11
      have xf_11 := own_below xf_10 hT11
      have gj_11 := own_below gj_10 hT11
      have gt_11 := own_below gt_10 hT11
      have gf_11 := own_below gf_10 hT11
      have a_11 := Blk.past hT11 a_10
      have ac_11 := Blk.past hT11 ac_10
      have u_11 := Blk.past hT11 u_10
      have x_11 := Blk.past hT11 x_10
      have g_11 := Blk.past hT11 g_10
      clear j_10 t_10 f_10 uj_10 ut_10 uf_10 xj_10 xt_10 xf_10 gj_10 gt_10 gf_10 a_10 ac_10 u_10 x_10 g_10 b_10 cell_a froz_a lt_a cell_ac froz_ac lt_ac cell_u froz_u lt_u cell_x froz_x lt_x cell_g froz_g lt_g hX11 hT11 hb11
      have cell_a := a_11.cell
      have froz_a := a_11.frozen
      have lt_a := a_11.lt
      have cell_ac := ac_11.cell
      have froz_ac := ac_11.frozen
      have lt_ac := ac_11.lt
      have cell_u := u_11.cell
      have froz_u := u_11.frozen
      have lt_u := u_11.lt
      have cell_x := x_11.cell
      have froz_x := x_11.frozen
      have lt_x := x_11.lt
      have cell_g := g_11.cell
      have froz_g := g_11.frozen
      have lt_g := g_11.lt
      go_wp2_with fail
      go_region_held3 (fun w' => w'.cell? ⟨w.heap.size, 0, none⟩ = some (.int .i64 S.z) ∧ w'.cell? ⟨w.heap.size, 1, none⟩ = some (.int .i64 S.n) ∧ w'.cell? ⟨w.heap.size, 2, none⟩ = some (.int .i64 S.b) ∧ w'.cell? ⟨w.heap.size, 3, none⟩ = some (.slice J S.js.length cj) ∧ w'.cell? ⟨w.heap.size, 4, none⟩ = some (.slice T S.ts.length ct) ∧ w'.cell? ⟨w.heap.size, 5, none⟩ = some (.slice F S.fs.length cf) ∧ w'.cell? ⟨w6.heap.size, 0, none⟩ = some (.int .i64 S.z) ∧ w'.cell? ⟨w6.heap.size, 1, none⟩ = some (.int .i64 S.n) ∧ w'.cell? ⟨w6.heap.size, 2, none⟩ = some (.int .i64 S.b) ∧ w'.cell? ⟨w6.heap.size, 3, none⟩ = some (.slice Bj S.js.length S.js.length) ∧ w'.cell? ⟨w6.heap.size, 4, none⟩ = some (.slice Bt S.ts.length S.ts.length) ∧ w'.cell? ⟨w6.heap.size, 5, none⟩ = some (.slice Bf S.fs.length S.fs.length)) ((refine ⟨(Blk.cell (t := 28) (cs := #[.int .i64 S.z, .int .i64 S.n, .int .i64 S.b, .slice J S.js.length cj, .slice T S.ts.length ct, .slice F S.fs.length cf]) ?qa 0), (Blk.cell ?qa 1), (Blk.cell ?qa 2), (Blk.cell ?qa 3), (Blk.cell ?qa 4), (Blk.cell ?qa 5), (Blk.cell (t := 36) (cs := #[.int .i64 S.z, .int .i64 S.n, .int .i64 S.b, .slice Bj S.js.length S.js.length, .slice Bt S.ts.length S.ts.length, .slice Bf S.fs.length S.fs.length]) ?qx 0), (Blk.cell ?qx 1), (Blk.cell ?qx 2), (Blk.cell ?qx 3), (Blk.cell ?qx 4), (Blk.cell ?qx 5)⟩; (case qa => (repeat (with_reducible first | assumption | apply Blk.drew | apply Blk.drewN | (apply Blk.new; first | rfl | (simp; done)) | apply Blk.alloc | apply Blk.set_ | (apply Blk.past; focus assumption) | (apply Blk.far; focus (first | (simp; done) | (simp; omega) | (dsimp only; omega)))))); (case qx => (repeat (with_reducible first | assumption | apply Blk.drew | apply Blk.drewN | (apply Blk.new; first | rfl | (simp; done)) | apply Blk.alloc | apply Blk.set_ | (apply Blk.past; focus assumption) | (apply Blk.far; focus (first | (simp; done) | (simp; omega) | (dsimp only; omega)))))))) (first | (go_at_call 7; refine calls_forget0 (W := w11) ?_ ?_; (focus (repeat (first | (with_reducible first | exact Below.refl _ _ | refine Below.trans ?_ (Below.mono (by assumption) ?_) | refine Below.alloc ?_ ?_ _ | refine Below.setCell ?_ ?_ _ | refine Below.drew ?_ | refine below_drewN ?_) | omega | (· simp) | (· (simp; omega)) | (· simp [*])))); intro X12 hX12; have sX12 := hX12.size; refine (TS.out _ _ _ _ _ _ _ ((cells_below j_11 hX12 (by omega)).more (by omega)) ((cells_below t_11 hX12 (by omega)).more (by omega)) ((cells_below f_11 hX12 (by omega)).more (by omega))).mono ?_; rintro e w12 ⟨Cj, Ct, Cf, rfl, yj_12, yt_12, yf_12, hb12⟩; have s12 := hb12.size; have hT12 := hX12.trans (hb12.mono sX12); have b_12 := b_11.trans (hT12.mono (by omega)); have j_12 := cells_below j_11 hT12 (by omega); have t_12 := cells_below t_11 hT12 (by omega); have f_12 := cells_below f_11 hT12 (by omega); have uj_12 := own_below uj_11 hT12; have ut_12 := own_below ut_11 hT12; have uf_12 := own_below uf_11 hT12; have xj_12 := own_below xj_11 hT12; have xt_12 := own_below xt_11 hT12; have xf_12 := own_below xf_11 hT12; have gj_12 := own_below gj_11 hT12; have gt_12 := own_below gt_11 hT12; have gf_12 := own_below gf_11 hT12; have a_12 := Blk.past hT12 a_11; have ac_12 := Blk.past hT12 ac_11; have u_12 := Blk.past hT12 u_11; have x_12 := Blk.past hT12 x_11; have g_12 := Blk.past hT12 g_11; have yj_in := own_in yj_12; have yt_in := own_in yt_12; have yf_in := own_in yf_12; clear j_11 t_11 f_11 uj_11 ut_11 uf_11 xj_11 xt_11 xf_11 gj_11 gt_11 gf_11 a_11 ac_11 u_11 x_11 g_11 b_11 cell_a froz_a lt_a cell_ac froz_ac lt_ac cell_u froz_u lt_u cell_x froz_x lt_x cell_g froz_g lt_g hX12 hT12 hb12; have cell_a := a_12.cell; have froz_a := a_12.frozen; have lt_a := a_12.lt; have cell_ac := ac_12.cell; have froz_ac := ac_12.frozen; have lt_ac := ac_12.lt; have cell_u := u_12.cell; have froz_u := u_12.frozen; have lt_u := u_12.lt; have cell_x := x_12.cell; have froz_x := x_12.frozen; have lt_x := x_12.lt; have cell_g := g_12.cell; have froz_g := g_12.frozen; have lt_g := g_12.lt) | (go_at_call 10; refine calls_forget0 (W := w12) ?_ ?_; (focus (repeat (first | (with_reducible first | exact Below.refl _ _ | refine Below.trans ?_ (Below.mono (by assumption) ?_) | refine Below.alloc ?_ ?_ _ | refine Below.setCell ?_ ?_ _ | refine Below.drew ?_ | refine below_drewN ?_) | omega | (· simp) | (· (simp; omega)) | (· simp [*])))); intro X13 hX13; have sX13 := hX13.size; refine (EQ.out _ _ _ _ _ _ _ _ _ _ _ _ _ (Cells.of_own (own_below xj_12 hX13)) (Cells.of_own (own_below yj_12 hX13)) (Cells.of_own (own_below xt_12 hX13)) (Cells.of_own (own_below yt_12 hX13)) (Cells.of_own (own_below xf_12 hX13)) (Cells.of_own (own_below yf_12 hX13))).mono ?_; rintro e w13 ⟨rfl, hb13⟩; have s13 := hb13.size; have hT13 := hX13.trans (hb13.mono sX13); have b_13 := b_12.trans (hT13.mono (by omega)); have j_13 := cells_below j_12 hT13 (by omega); have t_13 := cells_below t_12 hT13 (by omega); have f_13 := cells_below f_12 hT13 (by omega); have uj_13 := own_below uj_12 hT13; have ut_13 := own_below ut_12 hT13; have uf_13 := own_below uf_12 hT13; have xj_13 := own_below xj_12 hT13; have xt_13 := own_below xt_12 hT13; have xf_13 := own_below xf_12 hT13; have gj_13 := own_below gj_12 hT13; have gt_13 := own_below gt_12 hT13; have gf_13 := own_below gf_12 hT13; have yj_13 := own_below yj_12 hT13; have yt_13 := own_below yt_12 hT13; have yf_13 := own_below yf_12 hT13; have a_13 := Blk.past hT13 a_12; have ac_13 := Blk.past hT13 ac_12; have u_13 := Blk.past hT13 u_12; have x_13 := Blk.past hT13 x_12; have g_13 := Blk.past hT13 g_12; clear j_12 t_12 f_12 uj_12 ut_12 uf_12 xj_12 xt_12 xf_12 gj_12 gt_12 gf_12 yj_12 yt_12 yf_12 a_12 ac_12 u_12 x_12 g_12 b_12 cell_a froz_a lt_a cell_ac froz_ac lt_ac cell_u froz_u lt_u cell_x froz_x lt_x cell_g froz_g lt_g hX13 hT13 hb13; have cell_a := a_13.cell; have froz_a := a_13.frozen; have lt_a := a_13.lt; have cell_ac := ac_13.cell; have froz_ac := ac_13.frozen; have lt_ac := ac_13.lt; have cell_u := u_13.cell; have froz_u := u_13.frozen; have lt_u := u_13.lt; have cell_x := x_13.cell; have froz_x := x_13.frozen; have lt_x := x_13.lt; have cell_g := g_13.cell; have froz_g := g_13.frozen; have lt_g := g_13.lt))
      clear yj_13
      clear yt_13
      clear yf_13
      all_goals
        go_wp2_with fail
        refine calls_forget0 (W := w13) ?_ ?_
        (focus (repeat (first | (with_reducible first | exact Below.refl _ _ | refine Below.trans ?_ (Below.mono (by assumption) ?_) | refine Below.alloc ?_ ?_ _ | refine Below.setCell ?_ ?_ _ | refine Below.drew ?_ | refine below_drewN ?_) | omega | (· simp) | (· (simp; omega)) | (· simp [*]))))
        intro X14 hX14
        have sX14 := hX14.size
        refine (markSched_any _ _ _ _ _ _ _ _ _ _ _ _ _ _ _ _ _ _ _ _ (own_below xj_13 hX14) (own_below xt_13 hX14) (own_below xf_13 hX14) (by omega) (by omega) (by omega) (by omega) (by omega)).mono ?_
        rintro e w16 ⟨w14, w15, rfl, xj_m, xt_m, xf_m, hg14, hg15, hg16⟩
        have hT14 := below_grown hX14 hg14
        have s14 := hg14.size
        have s15 := hg15.size
        have s16 := hg16.size
        have b_14 := gr_below hT14 b_13 (by omega) (fun q hq => by have h1 := xj_in q hq; omega)
        have j_14 := gr_cells hT14 j_13 (by omega) (fun q hq => by have h1 := xj_in q hq; omega)
        have t_14 := gr_cells hT14 t_13 (by omega) (fun q hq => by have h1 := xj_in q hq; omega)
        have f_14 := gr_cells hT14 f_13 (by omega) (fun q hq => by have h1 := xj_in q hq; omega)
        have uj_14 := gr_own hT14 uj_13 (fun q p hq hp => by first | (have h1 := xj_in q hq; have h2 := uj_in p hp; omega) | exact ne_xj_uj q p hq hp)
        have ut_14 := gr_own hT14 ut_13 (fun q p hq hp => by first | (have h1 := xj_in q hq; have h2 := ut_in p hp; omega) | exact ne_xj_ut q p hq hp)
        have uf_14 := gr_own hT14 uf_13 (fun q p hq hp => by first | (have h1 := xj_in q hq; have h2 := uf_in p hp; omega) | exact ne_xj_uf q p hq hp)
        have gj_14 := gr_own hT14 gj_13 (fun q p hq hp => by first | (have h1 := xj_in q hq; have h2 := gj_in p hp; omega) | exact ne_xj_gj q p hq hp)
        have gt_14 := gr_own hT14 gt_13 (fun q p hq hp => by first | (have h1 := xj_in q hq; have h2 := gt_in p hp; omega) | exact ne_xj_gt q p hq hp)
        have gf_14 := gr_own hT14 gf_13 (fun q p hq hp => by first | (have h1 := xj_in q hq; have h2 := gf_in p hp; omega) | exact ne_xj_gf q p hq hp)
        have a_14 := gr_blk hT14 a_13 (fun q hq => by have h1 := xj_in q hq; omega)
        have ac_14 := gr_blk hT14 ac_13 (fun q hq => by have h1 := xj_in q hq; omega)
        have u_14 := gr_blk hT14 u_13 (fun q hq => by have h1 := xj_in q hq; omega)
        have x_14 := gr_blk hT14 x_13 (fun q hq => by have h1 := xj_in q hq; omega)
        have g_14 := gr_blk hT14 g_13 (fun q hq => by have h1 := xj_in q hq; omega)
        clear j_13 t_13 f_13 uj_13 ut_13 uf_13 gj_13 gt_13 gf_13 a_13 ac_13 u_13 x_13 g_13 b_13
        have b_15 := gr_below hg15 b_14 (by omega) (fun q hq => by have h1 := xt_in q hq; omega)
        have j_15 := gr_cells hg15 j_14 (by omega) (fun q hq => by have h1 := xt_in q hq; omega)
        have t_15 := gr_cells hg15 t_14 (by omega) (fun q hq => by have h1 := xt_in q hq; omega)
        have f_15 := gr_cells hg15 f_14 (by omega) (fun q hq => by have h1 := xt_in q hq; omega)
        have uj_15 := gr_own hg15 uj_14 (fun q p hq hp => by first | (have h1 := xt_in q hq; have h2 := uj_in p hp; omega) | exact ne_xt_uj q p hq hp)
        have ut_15 := gr_own hg15 ut_14 (fun q p hq hp => by first | (have h1 := xt_in q hq; have h2 := ut_in p hp; omega) | exact ne_xt_ut q p hq hp)
        have uf_15 := gr_own hg15 uf_14 (fun q p hq hp => by first | (have h1 := xt_in q hq; have h2 := uf_in p hp; omega) | exact ne_xt_uf q p hq hp)
        have gj_15 := gr_own hg15 gj_14 (fun q p hq hp => by first | (have h1 := xt_in q hq; have h2 := gj_in p hp; omega) | exact ne_xt_gj q p hq hp)
        have gt_15 := gr_own hg15 gt_14 (fun q p hq hp => by first | (have h1 := xt_in q hq; have h2 := gt_in p hp; omega) | exact ne_xt_gt q p hq hp)
        have gf_15 := gr_own hg15 gf_14 (fun q p hq hp => by first | (have h1 := xt_in q hq; have h2 := gf_in p hp; omega) | exact ne_xt_gf q p hq hp)
        have a_15 := gr_blk hg15 a_14 (fun q hq => by have h1 := xt_in q hq; omega)
        have ac_15 := gr_blk hg15 ac_14 (fun q hq => by have h1 := xt_in q hq; omega)
        have u_15 := gr_blk hg15 u_14 (fun q hq => by have h1 := xt_in q hq; omega)
        have x_15 := gr_blk hg15 x_14 (fun q hq => by have h1 := xt_in q hq; omega)
        have g_15 := gr_blk hg15 g_14 (fun q hq => by have h1 := xt_in q hq; omega)
        clear j_14 t_14 f_14 uj_14 ut_14 uf_14 gj_14 gt_14 gf_14 a_14 ac_14 u_14 x_14 g_14 b_14
        have b_16 := gr_below hg16 b_15 (by omega) (fun q hq => by have h1 := xf_in q hq; omega)
        have j_16 := gr_cells hg16 j_15 (by omega) (fun q hq => by have h1 := xf_in q hq; omega)
        have t_16 := gr_cells hg16 t_15 (by omega) (fun q hq => by have h1 := xf_in q hq; omega)
        have f_16 := gr_cells hg16 f_15 (by omega) (fun q hq => by have h1 := xf_in q hq; omega)
        have uj_16 := gr_own hg16 uj_15 (fun q p hq hp => by first | (have h1 := xf_in q hq; have h2 := uj_in p hp; omega) | exact ne_xf_uj q p hq hp)
        have ut_16 := gr_own hg16 ut_15 (fun q p hq hp => by first | (have h1 := xf_in q hq; have h2 := ut_in p hp; omega) | exact ne_xf_ut q p hq hp)
        have uf_16 := gr_own hg16 uf_15 (fun q p hq hp => by first | (have h1 := xf_in q hq; have h2 := uf_in p hp; omega) | exact ne_xf_uf q p hq hp)
        have gj_16 := gr_own hg16 gj_15 (fun q p hq hp => by first | (have h1 := xf_in q hq; have h2 := gj_in p hp; omega) | exact ne_xf_gj q p hq hp)
        have gt_16 := gr_own hg16 gt_15 (fun q p hq hp => by first | (have h1 := xf_in q hq; have h2 := gt_in p hp; omega) | exact ne_xf_gt q p hq hp)
        have gf_16 := gr_own hg16 gf_15 (fun q p hq hp => by first | (have h1 := xf_in q hq; have h2 := gf_in p hp; omega) | exact ne_xf_gf q p hq hp)
        have a_16 := gr_blk hg16 a_15 (fun q hq => by have h1 := xf_in q hq; omega)
        have ac_16 := gr_blk hg16 ac_15 (fun q hq => by have h1 := xf_in q hq; omega)
        have u_16 := gr_blk hg16 u_15 (fun q hq => by have h1 := xf_in q hq; omega)
        have x_16 := gr_blk hg16 x_15 (fun q hq => by have h1 := xf_in q hq; omega)
        have g_16 := gr_blk hg16 g_15 (fun q hq => by have h1 := xf_in q hq; omega)
        clear j_15 t_15 f_15 uj_15 ut_15 uf_15 gj_15 gt_15 gf_15 a_15 ac_15 u_15 x_15 g_15 b_15
        have xj_16 := xj_m
        have xt_16 := xt_m
        have xf_16 := xf_m
        clear xj_m xt_m xf_m xj_13 xt_13 xf_13 hX14 hT14 hg14 hg15 hg16 cell_a froz_a lt_a cell_ac froz_ac lt_ac cell_u froz_u lt_u cell_x froz_x lt_x cell_g froz_g lt_g
        have cell_a := a_16.cell
        have froz_a := a_16.frozen
        have lt_a := a_16.lt
        have cell_ac := ac_16.cell
        have froz_ac := ac_16.frozen
        have lt_ac := ac_16.lt
        have cell_u := u_16.cell
        have froz_u := u_16.frozen
        have lt_u := u_16.lt
        have cell_x := x_16.cell
        have froz_x := x_16.frozen
        have lt_x := x_16.lt
        have cell_g := g_16.cell
        have froz_g := g_16.frozen
        have lt_g := g_16.lt
        clear xj_16
        clear xt_16
        clear xf_16
        clear cell_x froz_x lt_x
        clear x_16
        go_wp2_with fail
        refine calls_forget0 (W := w16) ?_ ?_
        (focus (repeat (first | (with_reducible first | exact Below.refl _ _ | refine Below.trans ?_ (Below.mono (by assumption) ?_) | refine Below.alloc ?_ ?_ _ | refine Below.setCell ?_ ?_ _ | refine Below.drew ?_ | refine below_drewN ?_) | omega | (· simp) | (· (simp; omega)) | (· simp [*]))))
        intro X17 hX17
        have sX17 := hX17.size
        refine (ER.out _ _ _ _ _ _ _ _ _ _ _ _ _ (Cells.of_own (own_below gj_16 hX17)) (Cells.of_own (own_below uj_16 hX17)) (Cells.of_own (own_below gt_16 hX17)) (Cells.of_own (own_below ut_16 hX17)) (Cells.of_own (own_below gf_16 hX17)) (Cells.of_own (own_below uf_16 hX17))).mono ?_
        rintro e w17 ⟨rfl, hb17⟩
        have s17 := hb17.size
        have hT17 := hX17.trans (hb17.mono sX17)
        have b_17 := b_16.trans (hT17.mono (by omega))
        have j_17 := cells_below j_16 hT17 (by omega)
        have t_17 := cells_below t_16 hT17 (by omega)
        have f_17 := cells_below f_16 hT17 (by omega)
        have uj_17 := own_below uj_16 hT17
        have ut_17 := own_below ut_16 hT17
        have uf_17 := own_below uf_16 hT17
        have gj_17 := own_below gj_16 hT17
        have gt_17 := own_below gt_16 hT17
        have gf_17 := own_below gf_16 hT17
        have a_17 := Blk.past hT17 a_16
        have ac_17 := Blk.past hT17 ac_16
        have u_17 := Blk.past hT17 u_16
        have g_17 := Blk.past hT17 g_16
        clear j_16 t_16 f_16 uj_16 ut_16 uf_16 gj_16 gt_16 gf_16 a_16 ac_16 u_16 g_16 b_16 cell_a froz_a lt_a cell_ac froz_ac lt_ac cell_u froz_u lt_u cell_g froz_g lt_g hX17 hT17 hb17
        have cell_a := a_17.cell
        have froz_a := a_17.frozen
        have lt_a := a_17.lt
        have cell_ac := ac_17.cell
        have froz_ac := ac_17.frozen
        have lt_ac := ac_17.lt
        have cell_u := u_17.cell
        have froz_u := u_17.frozen
        have lt_u := u_17.lt
        have cell_g := g_17.cell
        have froz_g := g_17.frozen
        have lt_g := g_17.lt
        go_wp2_with fail
        refine calls_forget0 (W := w17) ?_ ?_
        (focus (repeat (first | (with_reducible first | exact Below.refl _ _ | refine Below.trans ?_ (Below.mono (by assumption) ?_) | refine Below.alloc ?_ ?_ _ | refine Below.setCell ?_ ?_ _ | refine Below.drew ?_ | refine below_drewN ?_) | omega | (· simp) | (· (simp; omega)) | (· simp [*]))))
        intro X18 hX18
        have sX18 := hX18.size
        refine (markSched_any _ _ _ _ _ _ _ _ _ _ _ _ _ _ _ _ _ _ _ _ (own_below gj_17 hX18) (own_below gt_17 hX18) (own_below gf_17 hX18) (by omega) (by omega) (by omega) (by omega) (by omega)).mono ?_
        rintro e w20 ⟨w18, w19, rfl, gj_m, gt_m, gf_m, hg18, hg19, hg20⟩
        have hT18 := below_grown hX18 hg18
        have s18 := hg18.size
        have s19 := hg19.size
        have s20 := hg20.size
        have b_18 := gr_below hT18 b_17 (by omega) (fun q hq => by have h1 := gj_in q hq; omega)
        have j_18 := gr_cells hT18 j_17 (by omega) (fun q hq => by have h1 := gj_in q hq; omega)
        have t_18 := gr_cells hT18 t_17 (by omega) (fun q hq => by have h1 := gj_in q hq; omega)
        have f_18 := gr_cells hT18 f_17 (by omega) (fun q hq => by have h1 := gj_in q hq; omega)
        have uj_18 := gr_own hT18 uj_17 (fun q p hq hp => by first | (have h1 := gj_in q hq; have h2 := uj_in p hp; omega) | exact ne_gj_uj q p hq hp)
        have ut_18 := gr_own hT18 ut_17 (fun q p hq hp => by first | (have h1 := gj_in q hq; have h2 := ut_in p hp; omega) | exact ne_gj_ut q p hq hp)
        have uf_18 := gr_own hT18 uf_17 (fun q p hq hp => by first | (have h1 := gj_in q hq; have h2 := uf_in p hp; omega) | exact ne_gj_uf q p hq hp)
        have a_18 := gr_blk hT18 a_17 (fun q hq => by have h1 := gj_in q hq; omega)
        have ac_18 := gr_blk hT18 ac_17 (fun q hq => by have h1 := gj_in q hq; omega)
        have u_18 := gr_blk hT18 u_17 (fun q hq => by have h1 := gj_in q hq; omega)
        have g_18 := gr_blk hT18 g_17 (fun q hq => by have h1 := gj_in q hq; omega)
        clear j_17 t_17 f_17 uj_17 ut_17 uf_17 a_17 ac_17 u_17 g_17 b_17
        have b_19 := gr_below hg19 b_18 (by omega) (fun q hq => by have h1 := gt_in q hq; omega)
        have j_19 := gr_cells hg19 j_18 (by omega) (fun q hq => by have h1 := gt_in q hq; omega)
        have t_19 := gr_cells hg19 t_18 (by omega) (fun q hq => by have h1 := gt_in q hq; omega)
        have f_19 := gr_cells hg19 f_18 (by omega) (fun q hq => by have h1 := gt_in q hq; omega)
        have uj_19 := gr_own hg19 uj_18 (fun q p hq hp => by first | (have h1 := gt_in q hq; have h2 := uj_in p hp; omega) | exact ne_gt_uj q p hq hp)
        have ut_19 := gr_own hg19 ut_18 (fun q p hq hp => by first | (have h1 := gt_in q hq; have h2 := ut_in p hp; omega) | exact ne_gt_ut q p hq hp)
        have uf_19 := gr_own hg19 uf_18 (fun q p hq hp => by first | (have h1 := gt_in q hq; have h2 := uf_in p hp; omega) | exact ne_gt_uf q p hq hp)
        have a_19 := gr_blk hg19 a_18 (fun q hq => by have h1 := gt_in q hq; omega)
        have ac_19 := gr_blk hg19 ac_18 (fun q hq => by have h1 := gt_in q hq; omega)
        have u_19 := gr_blk hg19 u_18 (fun q hq => by have h1 := gt_in q hq; omega)
        have g_19 := gr_blk hg19 g_18 (fun q hq => by have h1 := gt_in q hq; omega)
        clear j_18 t_18 f_18 uj_18 ut_18 uf_18 a_18 ac_18 u_18 g_18 b_18
        have b_20 := gr_below hg20 b_19 (by omega) (fun q hq => by have h1 := gf_in q hq; omega)
        have j_20 := gr_cells hg20 j_19 (by omega) (fun q hq => by have h1 := gf_in q hq; omega)
        have t_20 := gr_cells hg20 t_19 (by omega) (fun q hq => by have h1 := gf_in q hq; omega)
        have f_20 := gr_cells hg20 f_19 (by omega) (fun q hq => by have h1 := gf_in q hq; omega)
        have uj_20 := gr_own hg20 uj_19 (fun q p hq hp => by first | (have h1 := gf_in q hq; have h2 := uj_in p hp; omega) | exact ne_gf_uj q p hq hp)
        have ut_20 := gr_own hg20 ut_19 (fun q p hq hp => by first | (have h1 := gf_in q hq; have h2 := ut_in p hp; omega) | exact ne_gf_ut q p hq hp)
        have uf_20 := gr_own hg20 uf_19 (fun q p hq hp => by first | (have h1 := gf_in q hq; have h2 := uf_in p hp; omega) | exact ne_gf_uf q p hq hp)
        have a_20 := gr_blk hg20 a_19 (fun q hq => by have h1 := gf_in q hq; omega)
        have ac_20 := gr_blk hg20 ac_19 (fun q hq => by have h1 := gf_in q hq; omega)
        have u_20 := gr_blk hg20 u_19 (fun q hq => by have h1 := gf_in q hq; omega)
        have g_20 := gr_blk hg20 g_19 (fun q hq => by have h1 := gf_in q hq; omega)
        clear j_19 t_19 f_19 uj_19 ut_19 uf_19 a_19 ac_19 u_19 g_19 b_19
        have gj_20 := gj_m
        have gt_20 := gt_m
        have gf_20 := gf_m
        clear gj_m gt_m gf_m gj_17 gt_17 gf_17 hX18 hT18 hg18 hg19 hg20 cell_a froz_a lt_a cell_ac froz_ac lt_ac cell_u froz_u lt_u cell_g froz_g lt_g
        have cell_a := a_20.cell
        have froz_a := a_20.frozen
        have lt_a := a_20.lt
        have cell_ac := ac_20.cell
        have froz_ac := ac_20.frozen
        have lt_ac := ac_20.lt
        have cell_u := u_20.cell
        have froz_u := u_20.frozen
        have lt_u := u_20.lt
        have cell_g := g_20.cell
        have froz_g := g_20.frozen
        have lt_g := g_20.lt
        go_wp2_with fail
        refine calls_forget0 (W := w20) ?_ ?_
        (focus (repeat (first | (with_reducible first | exact Below.refl _ _ | refine Below.trans ?_ (Below.mono (by assumption) ?_) | refine Below.alloc ?_ ?_ _ | refine Below.setCell ?_ ?_ _ | refine Below.drew ?_ | refine below_drewN ?_) | omega | (· simp) | (· (simp; omega)) | (· simp [*]))))
        intro X21 hX21
        have sX21 := hX21.size
        refine (heldSched_any _ _ _ _ _ _ _ _ _ _ _ _ _ _ (Cells.of_own (own_below gj_20 hX21)) (Cells.of_own (own_below gt_20 hX21)) (Cells.of_own (own_below gf_20 hX21)) (by omega) (by omega) (by omega) (by omega) (by omega)).mono ?_
        rintro e w21 ⟨rfl, hb21⟩
        have s21 := hb21.size
        have hT21 := hX21.trans (hb21.mono sX21)
        have b_21 := b_20.trans (hT21.mono (by omega))
        have j_21 := cells_below j_20 hT21 (by omega)
        have t_21 := cells_below t_20 hT21 (by omega)
        have f_21 := cells_below f_20 hT21 (by omega)
        have uj_21 := own_below uj_20 hT21
        have ut_21 := own_below ut_20 hT21
        have uf_21 := own_below uf_20 hT21
        have gj_21 := own_below gj_20 hT21
        have gt_21 := own_below gt_20 hT21
        have gf_21 := own_below gf_20 hT21
        have a_21 := Blk.past hT21 a_20
        have ac_21 := Blk.past hT21 ac_20
        have u_21 := Blk.past hT21 u_20
        have g_21 := Blk.past hT21 g_20
        clear j_20 t_20 f_20 uj_20 ut_20 uf_20 gj_20 gt_20 gf_20 a_20 ac_20 u_20 g_20 b_20 cell_a froz_a lt_a cell_ac froz_ac lt_ac cell_u froz_u lt_u cell_g froz_g lt_g hX21 hT21 hb21
        have cell_a := a_21.cell
        have froz_a := a_21.frozen
        have lt_a := a_21.lt
        have cell_ac := ac_21.cell
        have froz_ac := ac_21.frozen
        have lt_ac := ac_21.lt
        have cell_u := u_21.cell
        have froz_u := u_21.frozen
        have lt_u := u_21.lt
        have cell_g := g_21.cell
        have froz_g := g_21.frozen
        have lt_g := g_21.lt
        go_upto_region 24 with fail
        obtain ⟨m0, hm0⟩ : ∃ x : Int, 1048576 - (S.js.length : Int) - S.ts.length - S.fs.length = x := ⟨_, rfl⟩
        obtain ⟨m1, hm1⟩ : ∃ x : Int, 1 + (S.js.length : Int) * 4 + S.ts.length * 2 + S.fs.length = x := ⟨_, rfl⟩
        obtain ⟨m2, hm2⟩ : ∃ x : Int, 1 + (R.js.length : Int) * 4 + R.ts.length * 2 + R.fs.length = x := ⟨_, rfl⟩
        rw [hm0, hm1, hm2]
        have HM2 := hid hm2
        clear hm0 hm1 hm2
        go_cut [14, 15] (fun v14 v15 wx => CutS R cnt w21 v14 v15 wx)
        case first =>
          have gh_21 := hid (Below.refl w21.heap.size w21)
          have zb := b_21.size
          clear uj_21 ut_21 uf_21 gj_21 gt_21 gf_21 u_21 g_21 cell_u froz_u lt_u cell_g froz_g lt_g uj_in ut_in uf_in gj_in gt_in gf_in
          have zl_a := a_21.lt
          have zl_ac := ac_21.lt
          try clear s0
          try clear sX0
          try clear s1
          try clear sX1
          try clear s2
          try clear sX2
          try clear s3
          try clear sX3
          try clear s4
          try clear sX4
          try clear s5
          try clear sX5
          try clear s6
          try clear sX6
          try clear s7
          try clear sX7
          try clear s8
          try clear sX8
          try clear s9
          try clear sX9
          try clear s10
          try clear sX10
          try clear s11
          try clear sX11
          try clear s12
          try clear sX12
          try clear s13
          try clear sX13
          try clear s14
          try clear sX14
          try clear s15
          try clear sX15
          try clear s16
          try clear sX16
          try clear s17
          try clear sX17
          try clear s18
          try clear sX18
          try clear s19
          try clear sX19
          try clear s20
          try clear sX20
          try clear s21
          try clear sX21
          go_region_held3 (fun w' => w'.cell? ⟨w.heap.size, 0, none⟩ = some (.int .i64 S.z) ∧ w'.cell? ⟨w.heap.size, 1, none⟩ = some (.int .i64 S.n) ∧ w'.cell? ⟨w.heap.size, 2, none⟩ = some (.int .i64 S.b) ∧ w'.cell? ⟨w.heap.size, 3, none⟩ = some (.slice J S.js.length cj) ∧ w'.cell? ⟨w.heap.size, 4, none⟩ = some (.slice T S.ts.length ct) ∧ w'.cell? ⟨w.heap.size, 5, none⟩ = some (.slice F S.fs.length cf) ∧ w'.cell? ⟨w.heap.size + 1, 0, none⟩ = some (.int .i64 k) ∧ w'.cell? ⟨w.heap.size + 1, 1, none⟩ = some (.int .i64 i) ∧ w'.cell? ⟨w.heap.size + 1, 2, none⟩ = some (.int .i64 d) ∧ w'.cell? ⟨w.heap.size + 1, 3, none⟩ = some (.int .i64 n)) ((refine ⟨(Blk.cell (t := 28) (cs := #[.int .i64 S.z, .int .i64 S.n, .int .i64 S.b, .slice J S.js.length cj, .slice T S.ts.length ct, .slice F S.fs.length cf]) ?qa 0), (Blk.cell ?qa 1), (Blk.cell ?qa 2), (Blk.cell ?qa 3), (Blk.cell ?qa 4), (Blk.cell ?qa 5), (Blk.cell (t := 30) (cs := #[.int .i64 k, .int .i64 i, .int .i64 d, .int .i64 n]) ?qac 0), (Blk.cell ?qac 1), (Blk.cell ?qac 2), (Blk.cell ?qac 3)⟩; (case qa => (repeat (with_reducible first | assumption | apply Blk.drew | apply Blk.drewN | (apply Blk.new; first | rfl | (simp; done)) | apply Blk.alloc | apply Blk.set_ | (apply Blk.past; focus assumption) | (apply Blk.far; focus (first | (simp; done) | (simp; omega) | (dsimp only; omega)))))); (case qac => (repeat (with_reducible first | assumption | apply Blk.drew | apply Blk.drewN | (apply Blk.new; first | rfl | (simp; done)) | apply Blk.alloc | apply Blk.set_ | (apply Blk.past; focus assumption) | (apply Blk.far; focus (first | (simp; done) | (simp; omega) | (dsimp only; omega)))))))) (first | (go_at_call 7; refine calls_forget1 (W := w21) (b0 := w21.heap.size) (t0 := 36) (c0 := #[.int .i64 0, .int .i64 0, .int .i64 0, .slice none 0 0, .slice none 0 0, .slice none 0 0]) ?_ ?_ ?_; (focus (apply Blk.cast; (case h => (repeat (with_reducible first | assumption | apply Blk.drew | apply Blk.drewN | (apply Blk.new; first | rfl | (simp; done)) | apply Blk.alloc | apply Blk.set_ | (apply Blk.past; focus assumption) | (apply Blk.far; focus (first | (simp; done) | (simp; omega) | (dsimp only; omega)))))); (case e => rfl))); (focus (repeat (first | (with_reducible first | exact Below.refl _ _ | refine Below.trans ?_ (Below.mono (by assumption) ?_) | refine Below.alloc ?_ ?_ _ | refine Below.setCell ?_ ?_ _ | refine Below.drew ?_ | refine below_drewN ?_) | omega | (· simp) | (· (simp; omega)) | (· simp [*])))); intro X22 h_n hX22; have sX22 := hX22.size; have h_lt := h_n.lt; refine (TS.out _ _ _ _ _ _ _ ((cells_below j_21 hX22 (by omega)).more (by omega)) ((cells_below t_21 hX22 (by omega)).more (by omega)) ((cells_below f_21 hX22 (by omega)).more (by omega))).mono ?_; rintro e w22 ⟨Dj, Dt, Df, rfl, pj_22, pt_22, pf_22, hb22⟩; have s22 := hb22.size; have hT22 := hX22.trans (hb22.mono sX22); have b_22 := b_21.trans (hT22.mono (by omega)); have gh_22 := hid (gh_21.out.trans (hT22.mono (by omega))); have j_22 := cells_below j_21 hT22 (by omega); have t_22 := cells_below t_21 hT22 (by omega); have f_22 := cells_below f_21 hT22 (by omega); have a_22 := Blk.past hT22 a_21; have ac_22 := Blk.past hT22 ac_21; have h_22 := Blk.past hb22 h_n; have pj_in := own_in pj_22; have pt_in := own_in pt_22; have pf_in := own_in pf_22; clear gh_21 j_21 t_21 f_21 a_21 ac_21 b_21 cell_a froz_a lt_a cell_ac froz_ac lt_ac h_n hX22 hT22 hb22; have cell_a := a_22.cell; have froz_a := a_22.frozen; have lt_a := a_22.lt; have cell_ac := ac_22.cell; have froz_ac := ac_22.frozen; have lt_ac := ac_22.lt; have cell_h := h_22.cell; have froz_h := h_22.frozen; have lt_h := h_22.lt) | (go_at_call 7; refine calls_forget0 (W := w21) ?_ ?_; (focus (repeat (first | (with_reducible first | exact Below.refl _ _ | refine Below.trans ?_ (Below.mono (by assumption) ?_) | refine Below.alloc ?_ ?_ _ | refine Below.setCell ?_ ?_ _ | refine Below.drew ?_ | refine below_drewN ?_) | omega | (· simp) | (· (simp; omega)) | (· simp [*])))); intro X22 hX22; have sX22 := hX22.size; refine (TS.out _ _ _ _ _ _ _ ((cells_below j_21 hX22 (by omega)).more (by omega)) ((cells_below t_21 hX22 (by omega)).more (by omega)) ((cells_below f_21 hX22 (by omega)).more (by omega))).mono ?_; rintro e w22 ⟨Dj, Dt, Df, rfl, pj_22, pt_22, pf_22, hb22⟩; have s22 := hb22.size; have hT22 := hX22.trans (hb22.mono sX22); have b_22 := b_21.trans (hT22.mono (by omega)); have gh_22 := hid (gh_21.out.trans (hT22.mono (by omega))); have j_22 := cells_below j_21 hT22 (by omega); have t_22 := cells_below t_21 hT22 (by omega); have f_22 := cells_below f_21 hT22 (by omega); have a_22 := Blk.past hT22 a_21; have ac_22 := Blk.past hT22 ac_21; have pj_in := own_in pj_22; have pt_in := own_in pt_22; have pf_in := own_in pf_22; clear gh_21 j_21 t_21 f_21 a_21 ac_21 b_21 cell_a froz_a lt_a cell_ac froz_ac lt_ac hX22 hT22 hb22; have cell_a := a_22.cell; have froz_a := a_22.frozen; have lt_a := a_22.lt; have cell_ac := ac_22.cell; have froz_ac := ac_22.frozen; have lt_ac := ac_22.lt) | (go_at_call 8; refine calls_forget0 (W := w22) ?_ ?_; (focus (repeat (first | (with_reducible first | exact Below.refl _ _ | refine Below.trans ?_ (Below.mono (by assumption) ?_) | refine Below.alloc ?_ ?_ _ | refine Below.setCell ?_ ?_ _ | refine Below.drew ?_ | refine below_drewN ?_) | omega | (· simp) | (· (simp; omega)) | (· simp [*])))); intro X23 hX23; have sX23 := hX23.size; refine (toAct_any _ _ _ _ _).mono ?_; rintro e w23 ⟨rfl, hb23⟩; have s23 := hb23.size; have hT23 := hX23.trans (hb23.mono sX23); have b_23 := b_22.trans (hT23.mono (by omega)); have gh_23 := hid (gh_22.out.trans (hT23.mono (by omega))); have j_23 := cells_below j_22 hT23 (by omega); have t_23 := cells_below t_22 hT23 (by omega); have f_23 := cells_below f_22 hT23 (by omega); have pj_23 := own_below pj_22 hT23; have pt_23 := own_below pt_22 hT23; have pf_23 := own_below pf_22 hT23; have a_23 := Blk.past hT23 a_22; have ac_23 := Blk.past hT23 ac_22; have h_23 := Blk.past hT23 h_22; clear gh_22 j_22 t_22 f_22 pj_22 pt_22 pf_22 a_22 ac_22 h_22 b_22 cell_a froz_a lt_a cell_ac froz_ac lt_ac cell_h froz_h lt_h hX23 hT23 hb23; have cell_a := a_23.cell; have froz_a := a_23.frozen; have lt_a := a_23.lt; have cell_ac := ac_23.cell; have froz_ac := ac_23.frozen; have lt_ac := ac_23.lt; have cell_h := h_23.cell; have froz_h := h_23.frozen; have lt_h := h_23.lt) | (go_at_call 8; refine calls_forget1 (W := w22) (b0 := w22.heap.size) (t0 := 36) (c0 := #[.int .i64 0, .int .i64 0, .int .i64 0, .slice none 0 0, .slice none 0 0, .slice none 0 0]) ?_ ?_ ?_; (focus (apply Blk.cast; (case h => (repeat (with_reducible first | assumption | apply Blk.drew | apply Blk.drewN | (apply Blk.new; first | rfl | (simp; done)) | apply Blk.alloc | apply Blk.set_ | (apply Blk.past; focus assumption) | (apply Blk.far; focus (first | (simp; done) | (simp; omega) | (dsimp only; omega)))))); (case e => rfl))); (focus (repeat (first | (with_reducible first | exact Below.refl _ _ | refine Below.trans ?_ (Below.mono (by assumption) ?_) | refine Below.alloc ?_ ?_ _ | refine Below.setCell ?_ ?_ _ | refine Below.drew ?_ | refine below_drewN ?_) | omega | (· simp) | (· (simp; omega)) | (· simp [*])))); intro X23 h_n hX23; have sX23 := hX23.size; have h_lt := h_n.lt; refine (toAct_any _ _ _ _ _).mono ?_; rintro e w23 ⟨rfl, hb23⟩; have s23 := hb23.size; have hT23 := hX23.trans (hb23.mono sX23); have b_23 := b_22.trans (hT23.mono (by omega)); have gh_23 := hid (gh_22.out.trans (hT23.mono (by omega))); have j_23 := cells_below j_22 hT23 (by omega); have t_23 := cells_below t_22 hT23 (by omega); have f_23 := cells_below f_22 hT23 (by omega); have pj_23 := own_below pj_22 hT23; have pt_23 := own_below pt_22 hT23; have pf_23 := own_below pf_22 hT23; have a_23 := Blk.past hT23 a_22; have ac_23 := Blk.past hT23 ac_22; have h_23 := Blk.past hb23 h_n; clear gh_22 j_22 t_22 f_22 pj_22 pt_22 pf_22 a_22 ac_22 b_22 cell_a froz_a lt_a cell_ac froz_ac lt_ac h_n hX23 hT23 hb23; have cell_a := a_23.cell; have froz_a := a_23.frozen; have lt_a := a_23.lt; have cell_ac := ac_23.cell; have froz_ac := ac_23.frozen; have lt_ac := ac_23.lt; have cell_h := h_23.cell; have froz_h := h_23.frozen; have lt_h := h_23.lt) | (go_at_call 8; refine calls_forget0 (W := w22) ?_ ?_; (focus (repeat (first | (with_reducible first | exact Below.refl _ _ | refine Below.trans ?_ (Below.mono (by assumption) ?_) | refine Below.alloc ?_ ?_ _ | refine Below.setCell ?_ ?_ _ | refine Below.drew ?_ | refine below_drewN ?_) | omega | (· simp) | (· (simp; omega)) | (· simp [*])))); intro X23 hX23; have sX23 := hX23.size; refine (toAct_any _ _ _ _ _).mono ?_; rintro e w23 ⟨rfl, hb23⟩; have s23 := hb23.size; have hT23 := hX23.trans (hb23.mono sX23); have b_23 := b_22.trans (hT23.mono (by omega)); have gh_23 := hid (gh_22.out.trans (hT23.mono (by omega))); have j_23 := cells_below j_22 hT23 (by omega); have t_23 := cells_below t_22 hT23 (by omega); have f_23 := cells_below f_22 hT23 (by omega); have pj_23 := own_below pj_22 hT23; have pt_23 := own_below pt_22 hT23; have pf_23 := own_below pf_22 hT23; have a_23 := Blk.past hT23 a_22; have ac_23 := Blk.past hT23 ac_22; clear gh_22 j_22 t_22 f_22 pj_22 pt_22 pf_22 a_22 ac_22 b_22 cell_a froz_a lt_a cell_ac froz_ac lt_ac hX23 hT23 hb23; have cell_a := a_23.cell; have froz_a := a_23.frozen; have lt_a := a_23.lt; have cell_ac := ac_23.cell; have froz_ac := ac_23.frozen; have lt_ac := ac_23.lt) | (go_at_call 9; refine calls_forget0 (W := w23) ?_ ?_; (focus (repeat (first | (with_reducible first | exact Below.refl _ _ | refine Below.trans ?_ (Below.mono (by assumption) ?_) | refine Below.alloc ?_ ?_ _ | refine Below.setCell ?_ ?_ _ | refine Below.drew ?_ | refine below_drewN ?_) | omega | (· simp) | (· (simp; omega)) | (· simp [*])))); intro X24 hX24; have sX24 := hX24.size; refine (CI.out _ _ _ _ _ _ _ ⟨own_weak (own_below pj_23 hX24) (Nat.zero_le _), own_weak (own_below pt_23 hX24) (Nat.zero_le _), own_weak (own_below pf_23 hX24) (Nat.zero_le _)⟩).mono ?_; rintro e w24 ⟨Hj, hj', Ht, ht', Hf, hf', rfl, hj_24, ht_24, hf_24, hb24⟩; have s24 := hb24.size; have hT24 := hX24.trans (hb24.mono sX24); have b_24 := b_23.trans (hT24.mono (by omega)); have gh_24 := hid (gh_23.out.trans (hT24.mono (by omega))); have j_24 := cells_below j_23 hT24 (by omega); have t_24 := cells_below t_23 hT24 (by omega); have f_24 := cells_below f_23 hT24 (by omega); have pj_24 := own_below pj_23 hT24; have pt_24 := own_below pt_23 hT24; have pf_24 := own_below pf_23 hT24; have a_24 := Blk.past hT24 a_23; have ac_24 := Blk.past hT24 ac_23; have h_24 := Blk.past hT24 h_23; have hj_in := own_in hj_24; have ht_in := own_in ht_24; have hf_in := own_in hf_24; clear gh_23 j_23 t_23 f_23 pj_23 pt_23 pf_23 a_23 ac_23 h_23 b_23 cell_a froz_a lt_a cell_ac froz_ac lt_ac cell_h froz_h lt_h hX24 hT24 hb24; have cell_a := a_24.cell; have froz_a := a_24.frozen; have lt_a := a_24.lt; have cell_ac := ac_24.cell; have froz_ac := ac_24.frozen; have lt_ac := ac_24.lt; have cell_h := h_24.cell; have froz_h := h_24.frozen; have lt_h := h_24.lt) | (go_at_call 9; refine calls_forget0 (W := w23) ?_ ?_; (focus (repeat (first | (with_reducible first | exact Below.refl _ _ | refine Below.trans ?_ (Below.mono (by assumption) ?_) | refine Below.alloc ?_ ?_ _ | refine Below.setCell ?_ ?_ _ | refine Below.drew ?_ | refine below_drewN ?_) | omega | (· simp) | (· (simp; omega)) | (· simp [*])))); intro X24 hX24; have sX24 := hX24.size; refine (CI.out _ _ _ _ _ _ _ ⟨own_weak (own_below pj_23 hX24) (Nat.zero_le _), own_weak (own_below pt_23 hX24) (Nat.zero_le _), own_weak (own_below pf_23 hX24) (Nat.zero_le _)⟩).mono ?_; rintro e w24 ⟨Hj, hj', Ht, ht', Hf, hf', rfl, hj_24, ht_24, hf_24, hb24⟩; have s24 := hb24.size; have hT24 := hX24.trans (hb24.mono sX24); have b_24 := b_23.trans (hT24.mono (by omega)); have gh_24 := hid (gh_23.out.trans (hT24.mono (by omega))); have j_24 := cells_below j_23 hT24 (by omega); have t_24 := cells_below t_23 hT24 (by omega); have f_24 := cells_below f_23 hT24 (by omega); have pj_24 := own_below pj_23 hT24; have pt_24 := own_below pt_23 hT24; have pf_24 := own_below pf_23 hT24; have a_24 := Blk.past hT24 a_23; have ac_24 := Blk.past hT24 ac_23; have h_24 := Blk.past hT24 h_23; have hj_in := own_in hj_24; have ht_in := own_in ht_24; have hf_in := own_in hf_24; clear gh_23 j_23 t_23 f_23 pj_23 pt_23 pf_23 a_23 ac_23 h_23 b_23 cell_a froz_a lt_a cell_ac froz_ac lt_ac cell_h froz_h lt_h hX24 hT24 hb24; have cell_a := a_24.cell; have froz_a := a_24.frozen; have lt_a := a_24.lt; have cell_ac := ac_24.cell; have froz_ac := ac_24.frozen; have lt_ac := ac_24.lt; have cell_h := h_24.cell; have froz_h := h_24.frozen; have lt_h := h_24.lt) | (go_at_call 9; refine calls_forget1 (W := w23) (b0 := w23.heap.size) (t0 := 36) (c0 := #[.int .i64 0, .int .i64 0, .int .i64 0, .slice none 0 0, .slice none 0 0, .slice none 0 0]) ?_ ?_ ?_; (focus (apply Blk.cast; (case h => (repeat (with_reducible first | assumption | apply Blk.drew | apply Blk.drewN | (apply Blk.new; first | rfl | (simp; done)) | apply Blk.alloc | apply Blk.set_ | (apply Blk.past; focus assumption) | (apply Blk.far; focus (first | (simp; done) | (simp; omega) | (dsimp only; omega)))))); (case e => rfl))); (focus (repeat (first | (with_reducible first | exact Below.refl _ _ | refine Below.trans ?_ (Below.mono (by assumption) ?_) | refine Below.alloc ?_ ?_ _ | refine Below.setCell ?_ ?_ _ | refine Below.drew ?_ | refine below_drewN ?_) | omega | (· simp) | (· (simp; omega)) | (· simp [*])))); intro X24 h_n hX24; have sX24 := hX24.size; have h_lt := h_n.lt; refine (CI.out _ _ _ _ _ _ _ ⟨own_weak (own_below pj_23 hX24) (Nat.zero_le _), own_weak (own_below pt_23 hX24) (Nat.zero_le _), own_weak (own_below pf_23 hX24) (Nat.zero_le _)⟩).mono ?_; rintro e w24 ⟨Hj, hj', Ht, ht', Hf, hf', rfl, hj_24, ht_24, hf_24, hb24⟩; have s24 := hb24.size; have hT24 := hX24.trans (hb24.mono sX24); have b_24 := b_23.trans (hT24.mono (by omega)); have gh_24 := hid (gh_23.out.trans (hT24.mono (by omega))); have j_24 := cells_below j_23 hT24 (by omega); have t_24 := cells_below t_23 hT24 (by omega); have f_24 := cells_below f_23 hT24 (by omega); have pj_24 := own_below pj_23 hT24; have pt_24 := own_below pt_23 hT24; have pf_24 := own_below pf_23 hT24; have a_24 := Blk.past hT24 a_23; have ac_24 := Blk.past hT24 ac_23; have h_24 := Blk.past hb24 h_n; have hj_in := own_in hj_24; have ht_in := own_in ht_24; have hf_in := own_in hf_24; clear gh_23 j_23 t_23 f_23 pj_23 pt_23 pf_23 a_23 ac_23 b_23 cell_a froz_a lt_a cell_ac froz_ac lt_ac h_n hX24 hT24 hb24; have cell_a := a_24.cell; have froz_a := a_24.frozen; have lt_a := a_24.lt; have cell_ac := ac_24.cell; have froz_ac := ac_24.frozen; have lt_ac := ac_24.lt; have cell_h := h_24.cell; have froz_h := h_24.frozen; have lt_h := h_24.lt) | (go_at_call 9; refine calls_forget0 (W := w23) ?_ ?_; (focus (repeat (first | (with_reducible first | exact Below.refl _ _ | refine Below.trans ?_ (Below.mono (by assumption) ?_) | refine Below.alloc ?_ ?_ _ | refine Below.setCell ?_ ?_ _ | refine Below.drew ?_ | refine below_drewN ?_) | omega | (· simp) | (· (simp; omega)) | (· simp [*])))); intro X24 hX24; have sX24 := hX24.size; refine (CI.out _ _ _ _ _ _ _ ⟨own_weak (own_below pj_23 hX24) (Nat.zero_le _), own_weak (own_below pt_23 hX24) (Nat.zero_le _), own_weak (own_below pf_23 hX24) (Nat.zero_le _)⟩).mono ?_; rintro e w24 ⟨Hj, hj', Ht, ht', Hf, hf', rfl, hj_24, ht_24, hf_24, hb24⟩; have s24 := hb24.size; have hT24 := hX24.trans (hb24.mono sX24); have b_24 := b_23.trans (hT24.mono (by omega)); have gh_24 := hid (gh_23.out.trans (hT24.mono (by omega))); have j_24 := cells_below j_23 hT24 (by omega); have t_24 := cells_below t_23 hT24 (by omega); have f_24 := cells_below f_23 hT24 (by omega); have pj_24 := own_below pj_23 hT24; have pt_24 := own_below pt_23 hT24; have pf_24 := own_below pf_23 hT24; have a_24 := Blk.past hT24 a_23; have ac_24 := Blk.past hT24 ac_23; have hj_in := own_in hj_24; have ht_in := own_in ht_24; have hf_in := own_in hf_24; clear gh_23 j_23 t_23 f_23 pj_23 pt_23 pf_23 a_23 ac_23 b_23 cell_a froz_a lt_a cell_ac froz_ac lt_ac hX24 hT24 hb24; have cell_a := a_24.cell; have froz_a := a_24.frozen; have lt_a := a_24.lt; have cell_ac := ac_24.cell; have froz_ac := ac_24.frozen; have lt_ac := ac_24.lt))
          all_goals
            go_wp2_with fail
            go_meet
            first
            | exact ⟨w21.heap.size, Hj, hj', Ht, ht', Hf, hf', rfl, rfl, by first | exact Nat.le_refl _ | omega, by (apply Blk.cast; (case h => (repeat (with_reducible first | assumption | apply Blk.drew | apply Blk.drewN | (apply Blk.new; first | rfl | (simp; done)) | apply Blk.alloc | apply Blk.set_ | (apply Blk.past; focus assumption) | (apply Blk.far; focus (first | (simp; done) | (simp; omega) | (dsimp only; omega)))))); (case e => rfl)), ⟨own_weak (base := X24.heap.size) (by repeat (first | (with_reducible assumption) | (with_reducible apply World.ownsRow.drew) | (with_reducible apply own_drewN) | (with_reducible apply World.ownsRow.alloc) | (with_reducible refine own_set ?_ _ _ (by first | omega | (simp; omega) | (dsimp only; omega))))) (by omega), own_weak (base := X24.heap.size) (by repeat (first | (with_reducible assumption) | (with_reducible apply World.ownsRow.drew) | (with_reducible apply own_drewN) | (with_reducible apply World.ownsRow.alloc) | (with_reducible refine own_set ?_ _ _ (by first | omega | (simp; omega) | (dsimp only; omega))))) (by omega), own_weak (base := X24.heap.size) (by repeat (first | (with_reducible assumption) | (with_reducible apply World.ownsRow.drew) | (with_reducible apply own_drewN) | (with_reducible apply World.ownsRow.alloc) | (with_reducible refine own_set ?_ _ _ (by first | omega | (simp; omega) | (dsimp only; omega))))) (by omega)⟩, by have gq := gh_24.out; repeat (first | (with_reducible first | exact Below.refl _ _ | refine Below.trans ?_ (Below.mono (by assumption) ?_) | refine Below.alloc ?_ ?_ _ | refine Below.setCell ?_ ?_ _ | refine Below.drew ?_ | refine below_drewN ?_) | omega | (· simp) | (· (simp; omega)) | (· simp [*]))⟩
            | exact ⟨w22.heap.size, Hj, hj', Ht, ht', Hf, hf', rfl, rfl, by first | exact Nat.le_refl _ | omega, by (apply Blk.cast; (case h => (repeat (with_reducible first | assumption | apply Blk.drew | apply Blk.drewN | (apply Blk.new; first | rfl | (simp; done)) | apply Blk.alloc | apply Blk.set_ | (apply Blk.past; focus assumption) | (apply Blk.far; focus (first | (simp; done) | (simp; omega) | (dsimp only; omega)))))); (case e => rfl)), ⟨own_weak (base := X24.heap.size) (by repeat (first | (with_reducible assumption) | (with_reducible apply World.ownsRow.drew) | (with_reducible apply own_drewN) | (with_reducible apply World.ownsRow.alloc) | (with_reducible refine own_set ?_ _ _ (by first | omega | (simp; omega) | (dsimp only; omega))))) (by omega), own_weak (base := X24.heap.size) (by repeat (first | (with_reducible assumption) | (with_reducible apply World.ownsRow.drew) | (with_reducible apply own_drewN) | (with_reducible apply World.ownsRow.alloc) | (with_reducible refine own_set ?_ _ _ (by first | omega | (simp; omega) | (dsimp only; omega))))) (by omega), own_weak (base := X24.heap.size) (by repeat (first | (with_reducible assumption) | (with_reducible apply World.ownsRow.drew) | (with_reducible apply own_drewN) | (with_reducible apply World.ownsRow.alloc) | (with_reducible refine own_set ?_ _ _ (by first | omega | (simp; omega) | (dsimp only; omega))))) (by omega)⟩, by have gq := gh_24.out; repeat (first | (with_reducible first | exact Below.refl _ _ | refine Below.trans ?_ (Below.mono (by assumption) ?_) | refine Below.alloc ?_ ?_ _ | refine Below.setCell ?_ ?_ _ | refine Below.drew ?_ | refine below_drewN ?_) | omega | (· simp) | (· (simp; omega)) | (· simp [*]))⟩
            | exact ⟨w23.heap.size, Hj, hj', Ht, ht', Hf, hf', rfl, rfl, by first | exact Nat.le_refl _ | omega, by (apply Blk.cast; (case h => (repeat (with_reducible first | assumption | apply Blk.drew | apply Blk.drewN | (apply Blk.new; first | rfl | (simp; done)) | apply Blk.alloc | apply Blk.set_ | (apply Blk.past; focus assumption) | (apply Blk.far; focus (first | (simp; done) | (simp; omega) | (dsimp only; omega)))))); (case e => rfl)), ⟨own_weak (base := X24.heap.size) (by repeat (first | (with_reducible assumption) | (with_reducible apply World.ownsRow.drew) | (with_reducible apply own_drewN) | (with_reducible apply World.ownsRow.alloc) | (with_reducible refine own_set ?_ _ _ (by first | omega | (simp; omega) | (dsimp only; omega))))) (by omega), own_weak (base := X24.heap.size) (by repeat (first | (with_reducible assumption) | (with_reducible apply World.ownsRow.drew) | (with_reducible apply own_drewN) | (with_reducible apply World.ownsRow.alloc) | (with_reducible refine own_set ?_ _ _ (by first | omega | (simp; omega) | (dsimp only; omega))))) (by omega), own_weak (base := X24.heap.size) (by repeat (first | (with_reducible assumption) | (with_reducible apply World.ownsRow.drew) | (with_reducible apply own_drewN) | (with_reducible apply World.ownsRow.alloc) | (with_reducible refine own_set ?_ _ _ (by first | omega | (simp; omega) | (dsimp only; omega))))) (by omega)⟩, by have gq := gh_24.out; repeat (first | (with_reducible first | exact Below.refl _ _ | refine Below.trans ?_ (Below.mono (by assumption) ?_) | refine Below.alloc ?_ ?_ _ | refine Below.setCell ?_ ?_ _ | refine Below.drew ?_ | refine below_drewN ?_) | omega | (· simp) | (· (simp; omega)) | (· simp [*]))⟩
            | exact ⟨w24.heap.size, Hj, hj', Ht, ht', Hf, hf', rfl, rfl, by first | exact Nat.le_refl _ | omega, by (apply Blk.cast; (case h => (repeat (with_reducible first | assumption | apply Blk.drew | apply Blk.drewN | (apply Blk.new; first | rfl | (simp; done)) | apply Blk.alloc | apply Blk.set_ | (apply Blk.past; focus assumption) | (apply Blk.far; focus (first | (simp; done) | (simp; omega) | (dsimp only; omega)))))); (case e => rfl)), ⟨own_weak (base := X24.heap.size) (by repeat (first | (with_reducible assumption) | (with_reducible apply World.ownsRow.drew) | (with_reducible apply own_drewN) | (with_reducible apply World.ownsRow.alloc) | (with_reducible refine own_set ?_ _ _ (by first | omega | (simp; omega) | (dsimp only; omega))))) (by omega), own_weak (base := X24.heap.size) (by repeat (first | (with_reducible assumption) | (with_reducible apply World.ownsRow.drew) | (with_reducible apply own_drewN) | (with_reducible apply World.ownsRow.alloc) | (with_reducible refine own_set ?_ _ _ (by first | omega | (simp; omega) | (dsimp only; omega))))) (by omega), own_weak (base := X24.heap.size) (by repeat (first | (with_reducible assumption) | (with_reducible apply World.ownsRow.drew) | (with_reducible apply own_drewN) | (with_reducible apply World.ownsRow.alloc) | (with_reducible refine own_set ?_ _ _ (by first | omega | (simp; omega) | (dsimp only; omega))))) (by omega)⟩, by have gq := gh_24.out; repeat (first | (with_reducible first | exact Below.refl _ _ | refine Below.trans ?_ (Below.mono (by assumption) ?_) | refine Below.alloc ?_ ?_ _ | refine Below.setCell ?_ ?_ _ | refine Below.drew ?_ | refine below_drewN ?_) | omega | (· simp) | (· (simp; omega)) | (· simp [*]))⟩
        case rest =>
          obtain ⟨b_h, Hj, hj', Ht, ht', Hf, hf', rfl, rfl, h_ge, h_25, ⟨hj_25, ht_25, hf_25⟩, hb25⟩ := hcut
          obtain ⟨w25, rfl⟩ : ∃ z : World, z = wc := ⟨_, rfl⟩
          have s25 := hb25.size
          have b_25 := b_21.trans (hb25.mono (by omega))
          have j_25 := cells_below j_21 hb25 (by omega)
          have t_25 := cells_below t_21 hb25 (by omega)
          have f_25 := cells_below f_21 hb25 (by omega)
          have uj_25 := own_below uj_21 hb25
          have ut_25 := own_below ut_21 hb25
          have uf_25 := own_below uf_21 hb25
          have gj_25 := own_below gj_21 hb25
          have gt_25 := own_below gt_21 hb25
          have gf_25 := own_below gf_21 hb25
          have a_25 := Blk.past hb25 a_21
          have ac_25 := Blk.past hb25 ac_21
          have u_25 := Blk.past hb25 u_21
          have g_25 := Blk.past hb25 g_21
          clear j_21 t_21 f_21 uj_21 ut_21 uf_21 gj_21 gt_21 gf_21 a_21 ac_21 u_21 g_21 b_21 cell_a froz_a lt_a cell_ac froz_ac lt_ac cell_u froz_u lt_u cell_g froz_g lt_g hb25
          have h_lt := h_25.lt
          have hj_in := own_off hj_25 h_25 (by decide)
          have ht_in := own_off ht_25 h_25 (by decide)
          have hf_in := own_off hf_25 h_25 (by decide)
          have cell_a := a_25.cell
          have froz_a := a_25.frozen
          have lt_a := a_25.lt
          have cell_ac := ac_25.cell
          have froz_ac := ac_25.frozen
          have lt_ac := ac_25.lt
          have cell_u := u_25.cell
          have froz_u := u_25.frozen
          have lt_u := u_25.lt
          have cell_g := g_25.cell
          have froz_g := g_25.frozen
          have lt_g := g_25.lt
          have cell_h := h_25.cell
          have froz_h := h_25.frozen
          have lt_h := h_25.lt
          have hm2 := HM2.out
          subst hm2
          go_wp2_with fail
          refine calls_forget0 (W := w25) ?_ ?_
          (focus (repeat (first | (with_reducible first | exact Below.refl _ _ | refine Below.trans ?_ (Below.mono (by assumption) ?_) | refine Below.alloc ?_ ?_ _ | refine Below.setCell ?_ ?_ _ | refine Below.drew ?_ | refine below_drewN ?_) | omega | (· simp) | (· (simp; omega)) | (· simp [*]))))
          intro X26 hX26
          have sX26 := hX26.size
          refine (ER.out _ _ _ _ _ _ _ _ _ _ _ _ _ (Cells.of_own (own_below hj_25 hX26)) (Cells.of_own (own_below uj_25 hX26)) (Cells.of_own (own_below ht_25 hX26)) (Cells.of_own (own_below ut_25 hX26)) (Cells.of_own (own_below hf_25 hX26)) (Cells.of_own (own_below uf_25 hX26))).mono ?_
          rintro e w26 ⟨rfl, hb26⟩
          have s26 := hb26.size
          have hT26 := hX26.trans (hb26.mono sX26)
          have b_26 := b_25.trans (hT26.mono (by omega))
          have j_26 := cells_below j_25 hT26 (by omega)
          have t_26 := cells_below t_25 hT26 (by omega)
          have f_26 := cells_below f_25 hT26 (by omega)
          have uj_26 := own_below uj_25 hT26
          have ut_26 := own_below ut_25 hT26
          have uf_26 := own_below uf_25 hT26
          have gj_26 := own_below gj_25 hT26
          have gt_26 := own_below gt_25 hT26
          have gf_26 := own_below gf_25 hT26
          have hj_26 := own_below hj_25 hT26
          have ht_26 := own_below ht_25 hT26
          have hf_26 := own_below hf_25 hT26
          have a_26 := Blk.past hT26 a_25
          have ac_26 := Blk.past hT26 ac_25
          have u_26 := Blk.past hT26 u_25
          have g_26 := Blk.past hT26 g_25
          have h_26 := Blk.past hT26 h_25
          clear j_25 t_25 f_25 uj_25 ut_25 uf_25 gj_25 gt_25 gf_25 hj_25 ht_25 hf_25 a_25 ac_25 u_25 g_25 h_25 b_25 cell_a froz_a lt_a cell_ac froz_ac lt_ac cell_u froz_u lt_u cell_g froz_g lt_g cell_h froz_h lt_h hX26 hT26 hb26
          have cell_a := a_26.cell
          have froz_a := a_26.frozen
          have lt_a := a_26.lt
          have cell_ac := ac_26.cell
          have froz_ac := ac_26.frozen
          have lt_ac := ac_26.lt
          have cell_u := u_26.cell
          have froz_u := u_26.frozen
          have lt_u := u_26.lt
          have cell_g := g_26.cell
          have froz_g := g_26.frozen
          have lt_g := g_26.lt
          have cell_h := h_26.cell
          have froz_h := h_26.frozen
          have lt_h := h_26.lt
          go_wp2_with fail
          refine calls_forget0 (W := w26) ?_ ?_
          (focus (repeat (first | (with_reducible first | exact Below.refl _ _ | refine Below.trans ?_ (Below.mono (by assumption) ?_) | refine Below.alloc ?_ ?_ _ | refine Below.setCell ?_ ?_ _ | refine Below.drew ?_ | refine below_drewN ?_) | omega | (· simp) | (· (simp; omega)) | (· simp [*]))))
          intro X27 hX27
          have sX27 := hX27.size
          refine (heldSched_any _ _ _ _ _ _ _ _ _ _ _ _ _ _ (Cells.of_own (own_below gj_26 hX27)) (Cells.of_own (own_below gt_26 hX27)) (Cells.of_own (own_below gf_26 hX27)) (by omega) (by omega) (by omega) (by omega) (by omega)).mono ?_
          rintro e w27 ⟨rfl, hb27⟩
          have s27 := hb27.size
          have hT27 := hX27.trans (hb27.mono sX27)
          have b_27 := b_26.trans (hT27.mono (by omega))
          have j_27 := cells_below j_26 hT27 (by omega)
          have t_27 := cells_below t_26 hT27 (by omega)
          have f_27 := cells_below f_26 hT27 (by omega)
          have uj_27 := own_below uj_26 hT27
          have ut_27 := own_below ut_26 hT27
          have uf_27 := own_below uf_26 hT27
          have gj_27 := own_below gj_26 hT27
          have gt_27 := own_below gt_26 hT27
          have gf_27 := own_below gf_26 hT27
          have hj_27 := own_below hj_26 hT27
          have ht_27 := own_below ht_26 hT27
          have hf_27 := own_below hf_26 hT27
          have a_27 := Blk.past hT27 a_26
          have ac_27 := Blk.past hT27 ac_26
          have u_27 := Blk.past hT27 u_26
          have g_27 := Blk.past hT27 g_26
          have h_27 := Blk.past hT27 h_26
          clear j_26 t_26 f_26 uj_26 ut_26 uf_26 gj_26 gt_26 gf_26 hj_26 ht_26 hf_26 a_26 ac_26 u_26 g_26 h_26 b_26 cell_a froz_a lt_a cell_ac froz_ac lt_ac cell_u froz_u lt_u cell_g froz_g lt_g cell_h froz_h lt_h hX27 hT27 hb27
          have cell_a := a_27.cell
          have froz_a := a_27.frozen
          have lt_a := a_27.lt
          have cell_ac := ac_27.cell
          have froz_ac := ac_27.frozen
          have lt_ac := ac_27.lt
          have cell_u := u_27.cell
          have froz_u := u_27.frozen
          have lt_u := u_27.lt
          have cell_g := g_27.cell
          have froz_g := g_27.frozen
          have lt_g := g_27.lt
          have cell_h := h_27.cell
          have froz_h := h_27.frozen
          have lt_h := h_27.lt
          go_wp2
          go_ret
          refine ⟨rfl, b_27.trans ?_⟩
          repeat (first | (with_reducible first | exact Below.refl _ _ | refine Below.trans ?_ (Below.mono (by assumption) ?_) | refine Below.alloc ?_ ?_ _ | refine Below.setCell ?_ ?_ _ | refine Below.drew ?_ | refine below_drewN ?_) | omega | (· simp) | (· (simp; omega)) | (· simp [*]))
set_option maxRecDepth 100000 in
theorem lifted (os : Os) (started : os.Started) (H : Type) (enc : TypeId × Value → H) :
    ReturnsInHanded {} Try.checked os 3 .any (Rows.fnExactDoActSpec.pre6 enc Try.prog Try.f3 Rows.fnExactDoActRow.domain false) (Rows.fnExactDoActSpec.post enc Try.prog Try.f3 false true false false) := by
  refine returnsInHanded_of_change (C := Try.checked) own started (by kernel_rfl) Try.func3
    (ChangeSpec.witness6 (enc := enc) (C := Try.checked) false ⟨#[], #[.agg #[.int .i64 0, .int .i64 0, .int .i64 0, .slice none 0 0, .slice none 0 0, .slice none 0 0], .agg #[.int .i64 0, .int .i64 0, .int .i64 0, .int .i64 0]], []⟩ 8 (by kernel_rfl) (by kernel_rfl) (by kernel_rfl) (by kernel_rfl)) ?_
  intro W base args ds gs before hval0 hW _ _
  have hval : ∀ (j : Nat) t v, Try.f3.params[j]? = some t → args[j]? = some v → Value.okWide Try.prog W .any base t v := hval0
  have hW' := hW
  obtain ⟨p, q, hA0, hV, rfl, _, _⟩ := hW
  have hA : DataW.TrodAll enc Try.prog W 0 (fun _ => true) true Try.f3.params.toList args.toList ds p := hA0
  rw [Try.params3] at hA hval
  obtain ⟨v0, vs0, d0, ds0, p0, q0, hargs, rfl, rfl, h0, r0⟩ := trodAll_cons hA
  obtain ⟨v1, vs1, d1, ds1, p1, q1, rfl, rfl, rfl, h1, r1⟩ := trodAll_cons r0
  obtain ⟨rfl, rfl, rfl⟩ := trodAll_nil r1
  obtain rfl : args = #[v0, v1] := by cases args; simp_all
  obtain ⟨rfl, rfl⟩ := trodVars_none hV
  obtain ⟨S0, J0, T0, F0, cj0, ct0, cf0, rfl, hj0, ht0, hf0, bj0, bt0, bf0⟩ := view_sched (hval 0 28 v0 rfl rfl) h0 (fun x hx => hW'.lt x (by simp [hx]))
  obtain ⟨c1a, c1b, c1c, c1d, y1a, y1b, y1c, y1d, _, rfl, hd1, _, hy1a, hy1b, hy1c, hy1d⟩ := Joins.open_agg4 Try.underlying30 (by kernel_rfl) (by kernel_rfl : Try.prog.cellsOf 30 = 4) (hval 1 30 v1 rfl rfl) h1
  obtain ⟨a1a, e1a, _, wa1a⟩ := DataW.trod_int Try.underlying3 hy1a
  obtain rfl : c1a = .int .i64 a1a := by simpa using e1a
  obtain ⟨a1b, e1b, _, wa1b⟩ := DataW.trod_int Try.underlying3 hy1b
  obtain rfl : c1b = .int .i64 a1b := by simpa using e1b
  obtain ⟨a1c, e1c, _, wa1c⟩ := DataW.trod_int Try.underlying3 hy1c
  obtain rfl : c1c = .int .i64 a1c := by simpa using e1c
  obtain ⟨a1d, e1d, _, wa1d⟩ := DataW.trod_int Try.underlying3 hy1d
  obtain rfl : c1d = .int .i64 a1d := by simpa using e1d
  refine (walk S0 J0 T0 F0 cj0 ct0 cf0 a1a a1b a1c a1d W hj0 ht0 hf0 bj0 bt0 bf0).mono fun e W' ⟨he, hb⟩ => ?_
  subst he
  exact ⟨_, rfl, law_post rfl (by kernel_rfl) (by kernel_rfl) rfl Try.underlying4 hW' rfl rfl rfl hb⟩
theorem closed : joinedFacts Try.prog 3 Try.f3 Rows.fnExactDoActSpec Rows.fnExactDoActRow = true := by
  unfold joinedFacts
  rw [makeIs, mayIs, finalsIs]
  kernel_rfl
theorem over : Rows.fnExactDoActRow.holds Try.pinned (OpenSpec.ofChange Rows.fnExactDoActSpec) :=
  OpenClaim.holds_of_wide 3 Try.f3 rfl rfl rfl rfl rfl rfl rfl ⟨rfl, rfl, rfl, rfl, rfl⟩ rfl rfl rfl rfl rfl (by kernel_rfl) Try.func3 closed
    (of_decide_eq_true (by kernel_rfl)) (by unfold Func.isWrapper; first | (rw [if_pos (by decide +kernel)]; kernel_rfl) | (rw [if_neg (by decide +kernel)]; exact ⟨rfl, rfl⟩))
    (fun os started H enc _ => lifted os started H enc)
theorem proved : Rows.FnExactDoActSaid := over
#print axioms proved

end exactDoAct
end Go.Proofs.Ytjngcnkipkibcaa
