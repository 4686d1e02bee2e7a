/- The law that RunActs of the program returns what the reference's returns, for all arguments. No conditions. -/
import Derived.Test.YtjngcnkipkibcaaRunActsM
import Derived.Test.YtjngcnkipkibcaaActS
import Derived.Test.YtjngcnkipkibcaaSchedS
import Derived.Test.YtjngcnkipkibcaaStructs
import Derived.Test.YtjngcnkipkibcaaHead
set_option linter.unusedVariables false
namespace Go.Proofs.Ytjngcnkipkibcaa
open Go.RowKit Go.ChangeShapes Go.WideShapes Go.ChangeAt

theorem raS_len (z : Int) (xs : List Int) (n : Nat) : (raS z xs n).js.length ≤ 60 ∧ (raS z xs n).ts.length ≤ 24000 ∧ (raS z xs n).fs.length ≤ 24000 ∧ (raL z xs n).length ≤ 60 := by
  unfold raS raL
  cases h : raB z n
  · exact ⟨Nat.zero_le _, Nat.zero_le _, Nat.zero_le _, Nat.zero_le _⟩
  · unfold raB at h
    simp only [Bool.and_eq_true, decide_eq_true_eq] at h
    have h1 := stTo_len z xs n
    have h2 := codesTo_length z xs n
    simp only [if_true]
    omega
namespace exactRunActs
set_option maxRecDepth 100000 in
set_option maxHeartbeats 6400000 in
theorem walk (z : Int) (A : Option Addr) (c n : Nat) (xs : List Int) (w : World) (hl : xs.length = n * 4) (hx : Cells w w.heap.size A (ints xs)) (hn : n ≤ maxLen) :
    Calls Try.prog 4 #[.int .i64 z, .slice A n c] w fun e w' => e = .returned (.bool true) ∧ Below w.heap.size w w' := by
  unfold maxLen at hn
  by_cases h1 : n ≤ 1048576
  · have hd : decide ((1048576 : Int) - (n : Int) < 0) = false := by simp; omega
    have HD := hid hd
    clear hd
    have hlen := raS_len z xs n
    have CS := hid (fun A c w hc => sRunActs z A c n xs w hc hl)
    have CI := hid (fun A c w hc => iRunActs z A c n xs w hc hl)
    unfold GivesRun at CS CI
    obtain ⟨R, hR⟩ : ∃ R, raS z xs n = R := ⟨_, rfl⟩
    obtain ⟨L, hL⟩ : ∃ L, raL z xs n = L := ⟨_, rfl⟩
    rw [hR, hL] at CS CI hlen
    clear hR hL
    obtain ⟨l1, l2, l3, l4⟩ := hlen
    have ER := hid (fun J J' T T' F F' cj cj' ct ct' cf cf' w h1 h1' h2 h2' h3 h3' => eqSched_same R.z R.n R.b J J' T T' F F' R.js.length cj cj' R.ts.length ct ct' cf cf' (flatJ R.js) (flatT R.ts) R.fs w (flatJ_length _) (flatT_length _) h1 h1' h2 h2' h3 h3' (by omega) (by omega) (by omega))
    have TA := hid (fun A c w hc => toActS_any A c n xs w hl hc h1)
    have EA := hid (fun A B c d w ha hc => eqActS_same A B c d n xs w hl ha hc (by omega))
    go_enter Try.func4, Try.ntmps4
    have b_0 := (Below.refl w.heap.size w)
    have s_0 := b_0.size
    have x_0 := hx
    clear hx
    go_wp2_with fail
    refine calls_forget0 (W := w) ?_ ?_
    (focus (repeat (first | (with_reducible first | exact Below.refl _ _ | refine Below.trans ?_ (Below.mono (by assumption) ?_) | refine Below.alloc ?_ ?_ _ | refine Below.setCell ?_ ?_ _ | refine Below.drew ?_ | refine below_drewN ?_) | omega | (· simp) | (· (simp; omega)) | (· simp [*]))))
    intro X1 hX1
    have sX1 := hX1.size
    refine (szActS_any _ _ _ _ _ hn (by omega) (by omega)).mono ?_
    rintro e w' ⟨rfl, rfl⟩
    have b_1 := b_0.trans (hX1.mono (by omega))
    have x_1 := cells_below x_0 hX1 (by omega)
    clear x_0 b_0 hX1
    rw [HD.out, pick_no]
    go_wp2_with fail
    refine calls_forget0 (W := X1) ?_ ?_
    (focus (repeat (first | (with_reducible first | exact Below.refl _ _ | refine Below.trans ?_ (Below.mono (by assumption) ?_) | refine Below.alloc ?_ ?_ _ | refine Below.setCell ?_ ?_ _ | refine Below.drew ?_ | refine below_drewN ?_) | omega | (· simp) | (· (simp; omega)) | (· simp [*]))))
    intro X2 hX2
    have sX2 := hX2.size
    refine (TA.out _ _ _ ((cells_below x_1 hX2 (by omega)).more (by omega))).mono ?_
    rintro e w2 ⟨rfl, m_2, hb2⟩
    have s2 := hb2.size
    have hT2 := hX2.trans (hb2.mono sX2)
    have b_2 := b_1.trans (hT2.mono (by omega))
    have x_2 := cells_below x_1 hT2 (by omega)
    have m_in := own_in m_2
    clear x_1 b_1 hX2 hT2 hb2
    go_wp2_with fail
    refine calls_forget0 (W := w2) ?_ ?_
    (focus (repeat (first | (with_reducible first | exact Below.refl _ _ | refine Below.trans ?_ (Below.mono (by assumption) ?_) | refine Below.alloc ?_ ?_ _ | refine Below.setCell ?_ ?_ _ | refine Below.drew ?_ | refine below_drewN ?_) | omega | (· simp) | (· (simp; omega)) | (· simp [*]))))
    intro X3 hX3
    have sX3 := hX3.size
    refine (CS.out _ _ _ (Cells.of_own (own_below m_2 hX3))).mono ?_
    rintro e w3 ⟨Uj, uj', Ut, ut', Uf, uf', Uc, uc', ne_uf_uc, rfl, uj_3, ut_3, uf_3, uc_3, hb3⟩
    have s3 := hb3.size
    have hT3 := hX3.trans (hb3.mono sX3)
    have b_3 := b_2.trans (hT3.mono (by omega))
    have x_3 := cells_below x_2 hT3 (by omega)
    have m_3 := own_below m_2 hT3
    have uj_in := own_in uj_3
    have ut_in := own_in ut_3
    have uf_in := own_in uf_3
    have uc_in := own_in uc_3
    clear x_2 m_2 b_2 hX3 hT3 hb3
    clear m_3
    go_upto_region 6 with fail
    refine wp_forget1 (w0 := w3) (B := w3.heap.size) (b0 := w3.heap.size) (t0 := 36) (c0 := #[.int .i64 R.z, .int .i64 R.n, .int .i64 R.b, .slice Uj R.js.length uj', .slice Ut R.ts.length ut', .slice Uf R.fs.length uf']) ?_ ?_ ?_
    (focus (apply Blk.cast; (case h => (repeat (with_reducible first | assumption | apply Blk.drew | apply Blk.drewN | (apply Blk.new; first | rfl | (simp; done)) | apply Blk.alloc | apply Blk.set_ | (apply Blk.past; focus assumption) | (apply Blk.far; focus (first | (simp; done) | (simp; omega) | (dsimp only; omega)))))); (case e => rfl)))
    (focus (repeat (first | (with_reducible first | exact Below.refl _ _ | refine Below.trans ?_ (Below.mono (by assumption) ?_) | refine Below.alloc ?_ ?_ _ | refine Below.setCell ?_ ?_ _ | refine Below.drew ?_ | refine below_drewN ?_) | omega | (· simp) | (· (simp; omega)) | (· simp [*]))))
    intro w4 u_4 hX4
    have sX4 := hX4.size
    have u_lt := u_4.lt
    have b_4 := b_3.trans (hX4.mono (by omega))
    have x_4 := cells_below x_3 hX4 (by omega)
    have uj_4 := own_below uj_3 hX4
    have ut_4 := own_below ut_3 hX4
    have uf_4 := own_below uf_3 hX4
    have uc_4 := own_below uc_3 hX4
    clear x_3 uj_3 ut_3 uf_3 uc_3 b_3 hX4
    have cell_u := u_4.cell
    have froz_u := u_4.frozen
    have lt_u := u_4.lt
    go_wp2_with fail
    refine calls_forget0 (W := w4) ?_ ?_
    (focus (repeat (first | (with_reducible first | exact Below.refl _ _ | refine Below.trans ?_ (Below.mono (by assumption) ?_) | refine Below.alloc ?_ ?_ _ | refine Below.setCell ?_ ?_ _ | refine Below.drew ?_ | refine below_drewN ?_) | omega | (· simp) | (· (simp; omega)) | (· simp [*]))))
    intro X5 hX5
    have sX5 := hX5.size
    refine (TA.out _ _ _ ((cells_below x_4 hX5 (by omega)).more (by omega))).mono ?_
    rintro e w5 ⟨rfl, y_5, hb5⟩
    have s5 := hb5.size
    have hT5 := hX5.trans (hb5.mono sX5)
    have b_5 := b_4.trans (hT5.mono (by omega))
    have x_5 := cells_below x_4 hT5 (by omega)
    have uj_5 := own_below uj_4 hT5
    have ut_5 := own_below ut_4 hT5
    have uf_5 := own_below uf_4 hT5
    have uc_5 := own_below uc_4 hT5
    have u_5 := Blk.past hT5 u_4
    have y_in := own_in y_5
    clear x_4 uj_4 ut_4 uf_4 uc_4 u_4 b_4 cell_u froz_u lt_u hX5 hT5 hb5
    have cell_u := u_5.cell
    have froz_u := u_5.frozen
    have lt_u := u_5.lt
    go_wp2_with fail
    refine calls_forget0 (W := w5) ?_ ?_
    (focus (repeat (first | (with_reducible first | exact Below.refl _ _ | refine Below.trans ?_ (Below.mono (by assumption) ?_) | refine Below.alloc ?_ ?_ _ | refine Below.setCell ?_ ?_ _ | refine Below.drew ?_ | refine below_drewN ?_) | omega | (· simp) | (· (simp; omega)) | (· simp [*]))))
    intro X6 hX6
    have sX6 := hX6.size
    refine (CI.out _ _ _ (Cells.of_own (own_below y_5 hX6))).mono ?_
    rintro e w6 ⟨Gj, gj', Gt, gt', Gf, gf', Gc, gc', ne_gf_gc, rfl, gj_6, gt_6, gf_6, gc_6, hb6⟩
    have s6 := hb6.size
    have hT6 := hX6.trans (hb6.mono sX6)
    have b_6 := b_5.trans (hT6.mono (by omega))
    have x_6 := cells_below x_5 hT6 (by omega)
    have uj_6 := own_below uj_5 hT6
    have ut_6 := own_below ut_5 hT6
    have uf_6 := own_below uf_5 hT6
    have uc_6 := own_below uc_5 hT6
    have y_6 := own_below y_5 hT6
    have u_6 := Blk.past hT6 u_5
    have gj_in := own_in gj_6
    have gt_in := own_in gt_6
    have gf_in := own_in gf_6
    have gc_in := own_in gc_6
    clear x_5 uj_5 ut_5 uf_5 uc_5 y_5 u_5 b_5 cell_u froz_u lt_u hX6 hT6 hb6
    have cell_u := u_6.cell
    have froz_u := u_6.frozen
    have lt_u := u_6.lt
    go_upto_region 8 with fail
    refine wp_forget1 (w0 := w6) (B := w6.heap.size) (b0 := w6.heap.size) (t0 := 36) (c0 := #[.int .i64 R.z, .int .i64 R.n, .int .i64 R.b, .slice Gj R.js.length gj', .slice Gt R.ts.length gt', .slice Gf R.fs.length gf']) ?_ ?_ ?_
    (focus (apply Blk.cast; (case h => (repeat (with_reducible first | assumption | apply Blk.drew | apply Blk.drewN | (apply Blk.new; first | rfl | (simp; done)) | apply Blk.alloc | apply Blk.set_ | (apply Blk.past; focus assumption) | (apply Blk.far; focus (first | (simp; done) | (simp; omega) | (dsimp only; omega)))))); (case e => rfl)))
    (focus (repeat (first | (with_reducible first | exact Below.refl _ _ | refine Below.trans ?_ (Below.mono (by assumption) ?_) | refine Below.alloc ?_ ?_ _ | refine Below.setCell ?_ ?_ _ | refine Below.drew ?_ | refine below_drewN ?_) | omega | (· simp) | (· (simp; omega)) | (· simp [*]))))
    intro w7 g_7 hX7
    have sX7 := hX7.size
    have g_lt := g_7.lt
    have b_7 := b_6.trans (hX7.mono (by omega))
    have x_7 := cells_below x_6 hX7 (by omega)
    have uj_7 := own_below uj_6 hX7
    have ut_7 := own_below ut_6 hX7
    have uf_7 := own_below uf_6 hX7
    have uc_7 := own_below uc_6 hX7
    have y_7 := own_below y_6 hX7
    have gj_7 := own_below gj_6 hX7
    have gt_7 := own_below gt_6 hX7
    have gf_7 := own_below gf_6 hX7
    have gc_7 := own_below gc_6 hX7
    have u_7 := Blk.past hX7 u_6
    clear x_6 uj_6 ut_6 uf_6 uc_6 y_6 gj_6 gt_6 gf_6 gc_6 u_6 b_6 cell_u froz_u lt_u hX7
    have cell_u := u_7.cell
    have froz_u := u_7.frozen
    have lt_u := u_7.lt
    have cell_g := g_7.cell
    have froz_g := g_7.frozen
    have lt_g := g_7.lt
    go_wp2_with fail
    refine calls_forget0 (W := w7) ?_ ?_
    (focus (repeat (first | (with_reducible first | exact Below.refl _ _ | refine Below.trans ?_ (Below.mono (by assumption) ?_) | refine Below.alloc ?_ ?_ _ | refine Below.setCell ?_ ?_ _ | refine Below.drew ?_ | refine below_drewN ?_) | omega | (· simp) | (· (simp; omega)) | (· simp [*]))))
    intro X8 hX8
    have sX8 := hX8.size
    refine (ER.out _ _ _ _ _ _ _ _ _ _ _ _ _ (Cells.of_own (own_below gj_7 hX8)) (Cells.of_own (own_below uj_7 hX8)) (Cells.of_own (own_below gt_7 hX8)) (Cells.of_own (own_below ut_7 hX8)) (Cells.of_own (own_below gf_7 hX8)) (Cells.of_own (own_below uf_7 hX8))).mono ?_
    rintro e w8 ⟨rfl, hb8⟩
    have s8 := hb8.size
    have hT8 := hX8.trans (hb8.mono sX8)
    have b_8 := b_7.trans (hT8.mono (by omega))
    have x_8 := cells_below x_7 hT8 (by omega)
    have uj_8 := own_below uj_7 hT8
    have ut_8 := own_below ut_7 hT8
    have uf_8 := own_below uf_7 hT8
    have uc_8 := own_below uc_7 hT8
    have y_8 := own_below y_7 hT8
    have gj_8 := own_below gj_7 hT8
    have gt_8 := own_below gt_7 hT8
    have gf_8 := own_below gf_7 hT8
    have gc_8 := own_below gc_7 hT8
    have u_8 := Blk.past hT8 u_7
    have g_8 := Blk.past hT8 g_7
    clear x_7 uj_7 ut_7 uf_7 uc_7 y_7 gj_7 gt_7 gf_7 gc_7 u_7 g_7 b_7 cell_u froz_u lt_u cell_g froz_g lt_g hX8 hT8 hb8
    have cell_u := u_8.cell
    have froz_u := u_8.frozen
    have lt_u := u_8.lt
    have cell_g := g_8.cell
    have froz_g := g_8.frozen
    have lt_g := g_8.lt
    go_wp2_with fail
    refine calls_forget0 (W := w8) ?_ ?_
    (focus (repeat (first | (with_reducible first | exact Below.refl _ _ | refine Below.trans ?_ (Below.mono (by assumption) ?_) | refine Below.alloc ?_ ?_ _ | refine Below.setCell ?_ ?_ _ | refine Below.drew ?_ | refine below_drewN ?_) | omega | (· simp) | (· (simp; omega)) | (· simp [*]))))
    intro X9 hX9
    have sX9 := hX9.size
    refine (eqIntS_same _ _ _ _ _ _ (Cells.of_own (own_below gc_8 hX9)) (Cells.of_own (own_below uc_8 hX9)) (by omega)).mono ?_
    rintro e w9 ⟨rfl, hb9⟩
    have s9 := hb9.size
    have hT9 := hX9.trans (hb9.mono sX9)
    have b_9 := b_8.trans (hT9.mono (by omega))
    have x_9 := cells_below x_8 hT9 (by omega)
    have uj_9 := own_below uj_8 hT9
    have ut_9 := own_below ut_8 hT9
    have uf_9 := own_below uf_8 hT9
    have uc_9 := own_below uc_8 hT9
    have y_9 := own_below y_8 hT9
    have gj_9 := own_below gj_8 hT9
    have gt_9 := own_below gt_8 hT9
    have gf_9 := own_below gf_8 hT9
    have gc_9 := own_below gc_8 hT9
    have u_9 := Blk.past hT9 u_8
    have g_9 := Blk.past hT9 g_8
    clear x_8 uj_8 ut_8 uf_8 uc_8 y_8 gj_8 gt_8 gf_8 gc_8 u_8 g_8 b_8 cell_u froz_u lt_u cell_g froz_g lt_g hX9 hT9 hb9
    have cell_u := u_9.cell
    have froz_u := u_9.frozen
    have lt_u := u_9.lt
    have cell_g := g_9.cell
    have froz_g := g_9.frozen
    have lt_g := g_9.lt
    go_wp2_with fail
    refine calls_forget0 (W := w9) ?_ ?_
    (focus (repeat (first | (with_reducible first | exact Below.refl _ _ | refine Below.trans ?_ (Below.mono (by assumption) ?_) | refine Below.alloc ?_ ?_ _ | refine Below.setCell ?_ ?_ _ | refine Below.drew ?_ | refine below_drewN ?_) | omega | (· simp) | (· (simp; omega)) | (· simp [*]))))
    intro X10 hX10
    have sX10 := hX10.size
    refine (TA.out _ _ _ ((cells_below x_9 hX10 (by omega)).more (by omega))).mono ?_
    rintro e w10 ⟨rfl, v_10, hb10⟩
    have s10 := hb10.size
    have hT10 := hX10.trans (hb10.mono sX10)
    have b_10 := b_9.trans (hT10.mono (by omega))
    have x_10 := cells_below x_9 hT10 (by omega)
    have uj_10 := own_below uj_9 hT10
    have ut_10 := own_below ut_9 hT10
    have uf_10 := own_below uf_9 hT10
    have uc_10 := own_below uc_9 hT10
    have y_10 := own_below y_9 hT10
    have gj_10 := own_below gj_9 hT10
    have gt_10 := own_below gt_9 hT10
    have gf_10 := own_below gf_9 hT10
    have gc_10 := own_below gc_9 hT10
    have u_10 := Blk.past hT10 u_9
    have g_10 := Blk.past hT10 g_9
    have v_in := own_in v_10
    clear x_9 uj_9 ut_9 uf_9 uc_9 y_9 gj_9 gt_9 gf_9 gc_9 u_9 g_9 b_9 cell_u froz_u lt_u cell_g froz_g lt_g hX10 hT10 hb10
    have cell_u := u_10.cell
    have froz_u := u_10.frozen
    have lt_u := u_10.lt
    have cell_g := g_10.cell
    have froz_g := g_10.frozen
    have lt_g := g_10.lt
    go_wp2_with fail
    refine calls_forget0 (W := w10) ?_ ?_
    (focus (repeat (first | (with_reducible first | exact Below.refl _ _ | refine Below.trans ?_ (Below.mono (by assumption) ?_) | refine Below.alloc ?_ ?_ _ | refine Below.setCell ?_ ?_ _ | refine Below.drew ?_ | refine below_drewN ?_) | omega | (· simp) | (· (simp; omega)) | (· simp [*]))))
    intro X11 hX11
    have sX11 := hX11.size
    refine (EA.out _ _ _ _ _ (Cells.of_own (own_below y_10 hX11)) (Cells.of_own (own_below v_10 hX11))).mono ?_
    rintro e w11 ⟨rfl, hb11⟩
    have s11 := hb11.size
    have hT11 := hX11.trans (hb11.mono sX11)
    have b_11 := b_10.trans (hT11.mono (by omega))
    have x_11 := cells_below x_10 hT11 (by omega)
    have uj_11 := own_below uj_10 hT11
    have ut_11 := own_below ut_10 hT11
    have uf_11 := own_below uf_10 hT11
    have uc_11 := own_below uc_10 hT11
    have y_11 := own_below y_10 hT11
    have gj_11 := own_below gj_10 hT11
    have gt_11 := own_below gt_10 hT11
    have gf_11 := own_below gf_10 hT11
    have gc_11 := own_below gc_10 hT11
    have v_11 := own_below v_10 hT11
    have u_11 := Blk.past hT11 u_10
    have g_11 := Blk.past hT11 g_10
    clear x_10 uj_10 ut_10 uf_10 uc_10 y_10 gj_10 gt_10 gf_10 gc_10 v_10 u_10 g_10 b_10 cell_u froz_u lt_u cell_g froz_g lt_g hX11 hT11 hb11
    have cell_u := u_11.cell
    have froz_u := u_11.frozen
    have lt_u := u_11.lt
    have cell_g := g_11.cell
    have froz_g := g_11.frozen
    have lt_g := g_11.lt
    clear v_11
    go_wp2_with fail
    refine calls_forget0 (W := w11) ?_ ?_
    (focus (repeat (first | (with_reducible first | exact Below.refl _ _ | refine Below.trans ?_ (Below.mono (by assumption) ?_) | refine Below.alloc ?_ ?_ _ | refine Below.setCell ?_ ?_ _ | refine Below.drew ?_ | refine below_drewN ?_) | omega | (· simp) | (· (simp; omega)) | (· simp [*]))))
    intro X12 hX12
    have sX12 := hX12.size
    refine (markActS_any _ _ _ _ _ _ _ (own_below y_11 hX12) (by omega) (by omega) (by omega)).mono ?_
    rintro e w12 ⟨rfl, y_12, hg12⟩
    have s12 := hg12.size
    have hT12 := below_grown hX12 hg12
    have b_12 := gr_below hT12 b_11 (by omega) (fun q hq => by have h1 := y_in q hq; omega)
    have x_12 := gr_cells hT12 x_11 (by omega) (fun q hq => by have h1 := y_in q hq; omega)
    have uj_12 := gr_own hT12 uj_11 (fun q p hq hp => by first | (have h1 := y_in q hq; have h2 := uj_in p hp; omega) | exact own_ne y_11 uj_11 (by decide) q p hq hp | exact ne_y_uj q p hq hp | exact (ne_uj_y p q hp hq).symm)
    have ut_12 := gr_own hT12 ut_11 (fun q p hq hp => by first | (have h1 := y_in q hq; have h2 := ut_in p hp; omega) | exact own_ne y_11 ut_11 (by decide) q p hq hp | exact ne_y_ut q p hq hp | exact (ne_ut_y p q hp hq).symm)
    have uf_12 := gr_own hT12 uf_11 (fun q p hq hp => by first | (have h1 := y_in q hq; have h2 := uf_in p hp; omega) | exact own_ne y_11 uf_11 (by decide) q p hq hp | exact ne_y_uf q p hq hp | exact (ne_uf_y p q hp hq).symm)
    have uc_12 := gr_own hT12 uc_11 (fun q p hq hp => by first | (have h1 := y_in q hq; have h2 := uc_in p hp; omega) | exact own_ne y_11 uc_11 (by decide) q p hq hp | exact ne_y_uc q p hq hp | exact (ne_uc_y p q hp hq).symm)
    have gj_12 := gr_own hT12 gj_11 (fun q p hq hp => by first | (have h1 := y_in q hq; have h2 := gj_in p hp; omega) | exact own_ne y_11 gj_11 (by decide) q p hq hp | exact ne_y_gj q p hq hp | exact (ne_gj_y p q hp hq).symm)
    have gt_12 := gr_own hT12 gt_11 (fun q p hq hp => by first | (have h1 := y_in q hq; have h2 := gt_in p hp; omega) | exact own_ne y_11 gt_11 (by decide) q p hq hp | exact ne_y_gt q p hq hp | exact (ne_gt_y p q hp hq).symm)
    have gf_12 := gr_own hT12 gf_11 (fun q p hq hp => by first | (have h1 := y_in q hq; have h2 := gf_in p hp; omega) | exact own_ne y_11 gf_11 (by decide) q p hq hp | exact ne_y_gf q p hq hp | exact (ne_gf_y p q hp hq).symm)
    have gc_12 := gr_own hT12 gc_11 (fun q p hq hp => by first | (have h1 := y_in q hq; have h2 := gc_in p hp; omega) | exact own_ne y_11 gc_11 (by decide) q p hq hp | exact ne_y_gc q p hq hp | exact (ne_gc_y p q hp hq).symm)
    have u_12 := gr_blk hT12 u_11 (fun q hq => by have h1 := y_in q hq; omega)
    have g_12 := gr_blk hT12 g_11 (fun q hq => by have h1 := y_in q hq; omega)
    clear x_11 uj_11 ut_11 uf_11 uc_11 y_11 gj_11 gt_11 gf_11 gc_11 u_11 g_11 b_11 cell_u froz_u lt_u cell_g froz_g lt_g hX12 hT12 hg12
    have cell_u := u_12.cell
    have froz_u := u_12.frozen
    have lt_u := u_12.lt
    have cell_g := g_12.cell
    have froz_g := g_12.frozen
    have lt_g := g_12.lt
    go_wp2_with fail
    refine calls_forget0 (W := w12) ?_ ?_
    (focus (repeat (first | (with_reducible first | exact Below.refl _ _ | refine Below.trans ?_ (Below.mono (by assumption) ?_) | refine Below.alloc ?_ ?_ _ | refine Below.setCell ?_ ?_ _ | refine Below.drew ?_ | refine below_drewN ?_) | omega | (· simp) | (· (simp; omega)) | (· simp [*]))))
    intro X13 hX13
    have sX13 := hX13.size
    refine (ER.out _ _ _ _ _ _ _ _ _ _ _ _ _ (Cells.of_own (own_below gj_12 hX13)) (Cells.of_own (own_below uj_12 hX13)) (Cells.of_own (own_below gt_12 hX13)) (Cells.of_own (own_below ut_12 hX13)) (Cells.of_own (own_below gf_12 hX13)) (Cells.of_own (own_below uf_12 hX13))).mono ?_
    rintro e w13 ⟨rfl, hb13⟩
    have s13 := hb13.size
    have hT13 := hX13.trans (hb13.mono sX13)
    have b_13 := b_12.trans (hT13.mono (by omega))
    have x_13 := cells_below x_12 hT13 (by omega)
    have uj_13 := own_below uj_12 hT13
    have ut_13 := own_below ut_12 hT13
    have uf_13 := own_below uf_12 hT13
    have uc_13 := own_below uc_12 hT13
    have y_13 := own_below y_12 hT13
    have gj_13 := own_below gj_12 hT13
    have gt_13 := own_below gt_12 hT13
    have gf_13 := own_below gf_12 hT13
    have gc_13 := own_below gc_12 hT13
    have u_13 := Blk.past hT13 u_12
    have g_13 := Blk.past hT13 g_12
    clear x_12 uj_12 ut_12 uf_12 uc_12 y_12 gj_12 gt_12 gf_12 gc_12 u_12 g_12 b_12 cell_u froz_u lt_u cell_g froz_g lt_g hX13 hT13 hb13
    have cell_u := u_13.cell
    have froz_u := u_13.frozen
    have lt_u := u_13.lt
    have cell_g := g_13.cell
    have froz_g := g_13.frozen
    have lt_g := g_13.lt
    go_wp2_with fail
    refine calls_forget0 (W := w13) ?_ ?_
    (focus (repeat (first | (with_reducible first | exact Below.refl _ _ | refine Below.trans ?_ (Below.mono (by assumption) ?_) | refine Below.alloc ?_ ?_ _ | refine Below.setCell ?_ ?_ _ | refine Below.drew ?_ | refine below_drewN ?_) | omega | (· simp) | (· (simp; omega)) | (· simp [*]))))
    intro X14 hX14
    have sX14 := hX14.size
    refine (eqIntS_same _ _ _ _ _ _ (Cells.of_own (own_below gc_13 hX14)) (Cells.of_own (own_below uc_13 hX14)) (by omega)).mono ?_
    rintro e w14 ⟨rfl, hb14⟩
    have s14 := hb14.size
    have hT14 := hX14.trans (hb14.mono sX14)
    have b_14 := b_13.trans (hT14.mono (by omega))
    have x_14 := cells_below x_13 hT14 (by omega)
    have uj_14 := own_below uj_13 hT14
    have ut_14 := own_below ut_13 hT14
    have uf_14 := own_below uf_13 hT14
    have uc_14 := own_below uc_13 hT14
    have y_14 := own_below y_13 hT14
    have gj_14 := own_below gj_13 hT14
    have gt_14 := own_below gt_13 hT14
    have gf_14 := own_below gf_13 hT14
    have gc_14 := own_below gc_13 hT14
    have u_14 := Blk.past hT14 u_13
    have g_14 := Blk.past hT14 g_13
    clear x_13 uj_13 ut_13 uf_13 uc_13 y_13 gj_13 gt_13 gf_13 gc_13 u_13 g_13 b_13 cell_u froz_u lt_u cell_g froz_g lt_g hX14 hT14 hb14
    have cell_u := u_14.cell
    have froz_u := u_14.frozen
    have lt_u := u_14.lt
    have cell_g := g_14.cell
    have froz_g := g_14.frozen
    have lt_g := g_14.lt
    clear y_14
    have ne_gj_gc := own_ne gj_14 gc_14 (by decide)
    have ne_gt_gc := own_ne gt_14 gc_14 (by decide)
    go_wp2_with fail
    refine calls_forget0 (W := w14) ?_ ?_
    (focus (repeat (first | (with_reducible first | exact Below.refl _ _ | refine Below.trans ?_ (Below.mono (by assumption) ?_) | refine Below.alloc ?_ ?_ _ | refine Below.setCell ?_ ?_ _ | refine Below.drew ?_ | refine below_drewN ?_) | omega | (· simp) | (· (simp; omega)) | (· simp [*]))))
    intro X15 hX15
    have sX15 := hX15.size
    refine (markSched_any _ _ _ _ _ _ _ _ _ _ _ _ _ _ _ _ _ _ _ _ (own_below gj_14 hX15) (own_below gt_14 hX15) (own_below gf_14 hX15) (by omega) (by omega) (by omega) (by omega) (by omega)).mono ?_
    rintro e w17 ⟨w15, w16, rfl, gj_m, gt_m, gf_m, hg15, hg16, hg17⟩
    have hT15 := below_grown hX15 hg15
    have s15 := hg15.size
    have s16 := hg16.size
    have s17 := hg17.size
    have b_15 := gr_below hT15 b_14 (by omega) (fun q hq => by have h1 := gj_in q hq; omega)
    have x_15 := gr_cells hT15 x_14 (by omega) (fun q hq => by have h1 := gj_in q hq; omega)
    have uj_15 := gr_own hT15 uj_14 (fun q p hq hp => by first | (have h1 := gj_in q hq; have h2 := uj_in p hp; omega) | exact ne_gj_uj q p hq hp)
    have ut_15 := gr_own hT15 ut_14 (fun q p hq hp => by first | (have h1 := gj_in q hq; have h2 := ut_in p hp; omega) | exact ne_gj_ut q p hq hp)
    have uf_15 := gr_own hT15 uf_14 (fun q p hq hp => by first | (have h1 := gj_in q hq; have h2 := uf_in p hp; omega) | exact ne_gj_uf q p hq hp)
    have uc_15 := gr_own hT15 uc_14 (fun q p hq hp => by first | (have h1 := gj_in q hq; have h2 := uc_in p hp; omega) | exact ne_gj_uc q p hq hp)
    have gc_15 := gr_own hT15 gc_14 (fun q p hq hp => by first | (have h1 := gj_in q hq; have h2 := gc_in p hp; omega) | exact ne_gj_gc q p hq hp)
    have u_15 := gr_blk hT15 u_14 (fun q hq => by have h1 := gj_in q hq; omega)
    have g_15 := gr_blk hT15 g_14 (fun q hq => by have h1 := gj_in q hq; omega)
    clear x_14 uj_14 ut_14 uf_14 uc_14 gc_14 u_14 g_14 b_14
    have b_16 := gr_below hg16 b_15 (by omega) (fun q hq => by have h1 := gt_in q hq; omega)
    have x_16 := gr_cells hg16 x_15 (by omega) (fun q hq => by have h1 := gt_in q hq; omega)
    have uj_16 := gr_own hg16 uj_15 (fun q p hq hp => by first | (have h1 := gt_in q hq; have h2 := uj_in p hp; omega) | exact ne_gt_uj q p hq hp)
    have ut_16 := gr_own hg16 ut_15 (fun q p hq hp => by first | (have h1 := gt_in q hq; have h2 := ut_in p hp; omega) | exact ne_gt_ut q p hq hp)
    have uf_16 := gr_own hg16 uf_15 (fun q p hq hp => by first | (have h1 := gt_in q hq; have h2 := uf_in p hp; omega) | exact ne_gt_uf q p hq hp)
    have uc_16 := gr_own hg16 uc_15 (fun q p hq hp => by first | (have h1 := gt_in q hq; have h2 := uc_in p hp; omega) | exact ne_gt_uc q p hq hp)
    have gc_16 := gr_own hg16 gc_15 (fun q p hq hp => by first | (have h1 := gt_in q hq; have h2 := gc_in p hp; omega) | exact ne_gt_gc q p hq hp)
    have u_16 := gr_blk hg16 u_15 (fun q hq => by have h1 := gt_in q hq; omega)
    have g_16 := gr_blk hg16 g_15 (fun q hq => by have h1 := gt_in q hq; omega)
    clear x_15 uj_15 ut_15 uf_15 uc_15 gc_15 u_15 g_15 b_15
    have b_17 := gr_below hg17 b_16 (by omega) (fun q hq => by have h1 := gf_in q hq; omega)
    have x_17 := gr_cells hg17 x_16 (by omega) (fun q hq => by have h1 := gf_in q hq; omega)
    have uj_17 := gr_own hg17 uj_16 (fun q p hq hp => by first | (have h1 := gf_in q hq; have h2 := uj_in p hp; omega) | exact ne_gf_uj q p hq hp)
    have ut_17 := gr_own hg17 ut_16 (fun q p hq hp => by first | (have h1 := gf_in q hq; have h2 := ut_in p hp; omega) | exact ne_gf_ut q p hq hp)
    have uf_17 := gr_own hg17 uf_16 (fun q p hq hp => by first | (have h1 := gf_in q hq; have h2 := uf_in p hp; omega) | exact ne_gf_uf q p hq hp)
    have uc_17 := gr_own hg17 uc_16 (fun q p hq hp => by first | (have h1 := gf_in q hq; have h2 := uc_in p hp; omega) | exact ne_gf_uc q p hq hp)
    have gc_17 := gr_own hg17 gc_16 (fun q p hq hp => by first | (have h1 := gf_in q hq; have h2 := gc_in p hp; omega) | exact ne_gf_gc q p hq hp)
    have u_17 := gr_blk hg17 u_16 (fun q hq => by have h1 := gf_in q hq; omega)
    have g_17 := gr_blk hg17 g_16 (fun q hq => by have h1 := gf_in q hq; omega)
    clear x_16 uj_16 ut_16 uf_16 uc_16 gc_16 u_16 g_16 b_16
    have gj_17 := gj_m
    have gt_17 := gt_m
    have gf_17 := gf_m
    clear gj_m gt_m gf_m gj_14 gt_14 gf_14 hX15 hT15 hg15 hg16 hg17 cell_u froz_u lt_u cell_g froz_g lt_g
    have cell_u := u_17.cell
    have froz_u := u_17.frozen
    have lt_u := u_17.lt
    have cell_g := g_17.cell
    have froz_g := g_17.frozen
    have lt_g := g_17.lt
    go_wp2_with fail
    refine calls_forget0 (W := w17) ?_ ?_
    (focus (repeat (first | (with_reducible first | exact Below.refl _ _ | refine Below.trans ?_ (Below.mono (by assumption) ?_) | refine Below.alloc ?_ ?_ _ | refine Below.setCell ?_ ?_ _ | refine Below.drew ?_ | refine below_drewN ?_) | omega | (· simp) | (· (simp; omega)) | (· simp [*]))))
    intro X18 hX18
    have sX18 := hX18.size
    refine (markIntS_any _ _ _ _ _ _ _ (own_below gc_17 hX18) (by omega) (by omega) (by omega)).mono ?_
    rintro e w18 ⟨rfl, gc_18, hg18⟩
    have s18 := hg18.size
    have hT18 := below_grown hX18 hg18
    have b_18 := gr_below hT18 b_17 (by omega) (fun q hq => by have h1 := gc_in q hq; omega)
    have x_18 := gr_cells hT18 x_17 (by omega) (fun q hq => by have h1 := gc_in q hq; omega)
    have uj_18 := gr_own hT18 uj_17 (fun q p hq hp => by first | (have h1 := gc_in q hq; have h2 := uj_in p hp; omega) | exact own_ne gc_17 uj_17 (by decide) q p hq hp | exact ne_gc_uj q p hq hp | exact (ne_uj_gc p q hp hq).symm)
    have ut_18 := gr_own hT18 ut_17 (fun q p hq hp => by first | (have h1 := gc_in q hq; have h2 := ut_in p hp; omega) | exact own_ne gc_17 ut_17 (by decide) q p hq hp | exact ne_gc_ut q p hq hp | exact (ne_ut_gc p q hp hq).symm)
    have uf_18 := gr_own hT18 uf_17 (fun q p hq hp => by first | (have h1 := gc_in q hq; have h2 := uf_in p hp; omega) | exact own_ne gc_17 uf_17 (by decide) q p hq hp | exact ne_gc_uf q p hq hp | exact (ne_uf_gc p q hp hq).symm)
    have uc_18 := gr_own hT18 uc_17 (fun q p hq hp => by first | (have h1 := gc_in q hq; have h2 := uc_in p hp; omega) | exact own_ne gc_17 uc_17 (by decide) q p hq hp | exact ne_gc_uc q p hq hp | exact (ne_uc_gc p q hp hq).symm)
    have gj_18 := gr_own hT18 gj_17 (fun q p hq hp => by first | (have h1 := gc_in q hq; have h2 := gj_in p hp; omega) | exact own_ne gc_17 gj_17 (by decide) q p hq hp | exact ne_gc_gj q p hq hp | exact (ne_gj_gc p q hp hq).symm)
    have gt_18 := gr_own hT18 gt_17 (fun q p hq hp => by first | (have h1 := gc_in q hq; have h2 := gt_in p hp; omega) | exact own_ne gc_17 gt_17 (by decide) q p hq hp | exact ne_gc_gt q p hq hp | exact (ne_gt_gc p q hp hq).symm)
    have gf_18 := gr_own hT18 gf_17 (fun q p hq hp => by first | (have h1 := gc_in q hq; have h2 := gf_in p hp; omega) | exact own_ne gc_17 gf_17 (by decide) q p hq hp | exact ne_gc_gf q p hq hp | exact (ne_gf_gc p q hp hq).symm)
    have u_18 := gr_blk hT18 u_17 (fun q hq => by have h1 := gc_in q hq; omega)
    have g_18 := gr_blk hT18 g_17 (fun q hq => by have h1 := gc_in q hq; omega)
    clear x_17 uj_17 ut_17 uf_17 uc_17 gj_17 gt_17 gf_17 gc_17 u_17 g_17 b_17 cell_u froz_u lt_u cell_g froz_g lt_g hX18 hT18 hg18
    have cell_u := u_18.cell
    have froz_u := u_18.frozen
    have lt_u := u_18.lt
    have cell_g := g_18.cell
    have froz_g := g_18.frozen
    have lt_g := g_18.lt
    go_wp2_with fail
    refine calls_forget0 (W := w18) ?_ ?_
    (focus (repeat (first | (with_reducible first | exact Below.refl _ _ | refine Below.trans ?_ (Below.mono (by assumption) ?_) | refine Below.alloc ?_ ?_ _ | refine Below.setCell ?_ ?_ _ | refine Below.drew ?_ | refine below_drewN ?_) | omega | (· simp) | (· (simp; omega)) | (· simp [*]))))
    intro X19 hX19
    have sX19 := hX19.size
    refine (heldSched_any _ _ _ _ _ _ _ _ _ _ _ _ _ _ (Cells.of_own (own_below gj_18 hX19)) (Cells.of_own (own_below gt_18 hX19)) (Cells.of_own (own_below gf_18 hX19)) (by omega) (by omega) (by omega) (by omega) (by omega)).mono ?_
    rintro e w19 ⟨rfl, hb19⟩
    have s19 := hb19.size
    have hT19 := hX19.trans (hb19.mono sX19)
    have b_19 := b_18.trans (hT19.mono (by omega))
    have x_19 := cells_below x_18 hT19 (by omega)
    have uj_19 := own_below uj_18 hT19
    have ut_19 := own_below ut_18 hT19
    have uf_19 := own_below uf_18 hT19
    have uc_19 := own_below uc_18 hT19
    have gj_19 := own_below gj_18 hT19
    have gt_19 := own_below gt_18 hT19
    have gf_19 := own_below gf_18 hT19
    have gc_19 := own_below gc_18 hT19
    have u_19 := Blk.past hT19 u_18
    have g_19 := Blk.past hT19 g_18
    clear x_18 uj_18 ut_18 uf_18 uc_18 gj_18 gt_18 gf_18 gc_18 u_18 g_18 b_18 cell_u froz_u lt_u cell_g froz_g lt_g hX19 hT19 hb19
    have cell_u := u_19.cell
    have froz_u := u_19.frozen
    have lt_u := u_19.lt
    have cell_g := g_19.cell
    have froz_g := g_19.frozen
    have lt_g := g_19.lt
    go_wp2_with fail
    refine calls_forget0 (W := w19) ?_ ?_
    (focus (repeat (first | (with_reducible first | exact Below.refl _ _ | refine Below.trans ?_ (Below.mono (by assumption) ?_) | refine Below.alloc ?_ ?_ _ | refine Below.setCell ?_ ?_ _ | refine Below.drew ?_ | refine below_drewN ?_) | omega | (· simp) | (· (simp; omega)) | (· simp [*]))))
    intro X20 hX20
    have sX20 := hX20.size
    refine (heldIntS_any _ _ _ _ _ (Cells.of_own (own_below gc_19 hX20)) (by omega) (by omega) (by omega)).mono ?_
    rintro e w' ⟨rfl, rfl⟩
    have b_20 := b_19.trans (hX20.mono (by omega))
    have x_20 := cells_below x_19 hX20 (by omega)
    have uj_20 := own_below uj_19 hX20
    have ut_20 := own_below ut_19 hX20
    have uf_20 := own_below uf_19 hX20
    have uc_20 := own_below uc_19 hX20
    have gj_20 := own_below gj_19 hX20
    have gt_20 := own_below gt_19 hX20
    have gf_20 := own_below gf_19 hX20
    have gc_20 := own_below gc_19 hX20
    have u_20 := Blk.past hX20 u_19
    have g_20 := Blk.past hX20 g_19
    clear x_19 uj_19 ut_19 uf_19 uc_19 gj_19 gt_19 gf_19 gc_19 u_19 g_19 b_19 cell_u froz_u lt_u cell_g froz_g lt_g hX20
    have cell_u := u_20.cell
    have froz_u := u_20.frozen
    have lt_u := u_20.lt
    have cell_g := g_20.cell
    have froz_g := g_20.frozen
    have lt_g := g_20.lt
    go_wp2_with fail
    refine calls_forget0 (W := X20) ?_ ?_
    (focus (repeat (first | (with_reducible first | exact Below.refl _ _ | refine Below.trans ?_ (Below.mono (by assumption) ?_) | refine Below.alloc ?_ ?_ _ | refine Below.setCell ?_ ?_ _ | refine Below.drew ?_ | refine below_drewN ?_) | omega | (· simp) | (· (simp; omega)) | (· simp [*]))))
    intro X21 hX21
    have sX21 := hX21.size
    refine (TA.out _ _ _ ((cells_below x_20 hX21 (by omega)).more (by omega))).mono ?_
    rintro e w21 ⟨rfl, m_21, hb21⟩
    have s21 := hb21.size
    have hT21 := hX21.trans (hb21.mono sX21)
    have b_21 := b_20.trans (hT21.mono (by omega))
    have x_21 := cells_below x_20 hT21 (by omega)
    have uj_21 := own_below uj_20 hT21
    have ut_21 := own_below ut_20 hT21
    have uf_21 := own_below uf_20 hT21
    have uc_21 := own_below uc_20 hT21
    have gj_21 := own_below gj_20 hT21
    have gt_21 := own_below gt_20 hT21
    have gf_21 := own_below gf_20 hT21
    have gc_21 := own_below gc_20 hT21
    have u_21 := Blk.past hT21 u_20
    have g_21 := Blk.past hT21 g_20
    have m_in := own_in m_21
    clear x_20 uj_20 ut_20 uf_20 uc_20 gj_20 gt_20 gf_20 gc_20 u_20 g_20 b_20 cell_u froz_u lt_u cell_g froz_g lt_g hX21 hT21 hb21
    have cell_u := u_21.cell
    have froz_u := u_21.frozen
    have lt_u := u_21.lt
    have cell_g := g_21.cell
    have froz_g := g_21.frozen
    have lt_g := g_21.lt
    go_wp2_with fail
    refine calls_forget0 (W := w21) ?_ ?_
    (focus (repeat (first | (with_reducible first | exact Below.refl _ _ | refine Below.trans ?_ (Below.mono (by assumption) ?_) | refine Below.alloc ?_ ?_ _ | refine Below.setCell ?_ ?_ _ | refine Below.drew ?_ | refine below_drewN ?_) | omega | (· simp) | (· (simp; omega)) | (· simp [*]))))
    intro X22 hX22
    have sX22 := hX22.size
    refine (CI.out _ _ _ (Cells.of_own (own_below m_21 hX22))).mono ?_
    rintro e w22 ⟨Hj, hj', Ht, ht', Hf, hf', Hc, hc', ne_hf_hc, rfl, hj_22, ht_22, hf_22, hc_22, hb22⟩
    have s22 := hb22.size
    have hT22 := hX22.trans (hb22.mono sX22)
    have b_22 := b_21.trans (hT22.mono (by omega))
    have x_22 := cells_below x_21 hT22 (by omega)
    have uj_22 := own_below uj_21 hT22
    have ut_22 := own_below ut_21 hT22
    have uf_22 := own_below uf_21 hT22
    have uc_22 := own_below uc_21 hT22
    have gj_22 := own_below gj_21 hT22
    have gt_22 := own_below gt_21 hT22
    have gf_22 := own_below gf_21 hT22
    have gc_22 := own_below gc_21 hT22
    have m_22 := own_below m_21 hT22
    have u_22 := Blk.past hT22 u_21
    have g_22 := Blk.past hT22 g_21
    have hj_in := own_in hj_22
    have ht_in := own_in ht_22
    have hf_in := own_in hf_22
    have hc_in := own_in hc_22
    clear x_21 uj_21 ut_21 uf_21 uc_21 gj_21 gt_21 gf_21 gc_21 m_21 u_21 g_21 b_21 cell_u froz_u lt_u cell_g froz_g lt_g hX22 hT22 hb22
    have cell_u := u_22.cell
    have froz_u := u_22.frozen
    have lt_u := u_22.lt
    have cell_g := g_22.cell
    have froz_g := g_22.frozen
    have lt_g := g_22.lt
    clear m_22
    go_upto_region 29 with fail
    refine wp_forget1 (w0 := w22) (B := w22.heap.size) (b0 := w22.heap.size) (t0 := 36) (c0 := #[.int .i64 R.z, .int .i64 R.n, .int .i64 R.b, .slice Hj R.js.length hj', .slice Ht R.ts.length ht', .slice Hf R.fs.length hf']) ?_ ?_ ?_
    (focus (apply Blk.cast; (case h => (repeat (with_reducible first | assumption | apply Blk.drew | apply Blk.drewN | (apply Blk.new; first | rfl | (simp; done)) | apply Blk.alloc | apply Blk.set_ | (apply Blk.past; focus assumption) | (apply Blk.far; focus (first | (simp; done) | (simp; omega) | (dsimp only; omega)))))); (case e => rfl)))
    (focus (repeat (first | (with_reducible first | exact Below.refl _ _ | refine Below.trans ?_ (Below.mono (by assumption) ?_) | refine Below.alloc ?_ ?_ _ | refine Below.setCell ?_ ?_ _ | refine Below.drew ?_ | refine below_drewN ?_) | omega | (· simp) | (· (simp; omega)) | (· simp [*]))))
    intro w23 h_23 hX23
    have sX23 := hX23.size
    have h_lt := h_23.lt
    have b_23 := b_22.trans (hX23.mono (by omega))
    have x_23 := cells_below x_22 hX23 (by omega)
    have uj_23 := own_below uj_22 hX23
    have ut_23 := own_below ut_22 hX23
    have uf_23 := own_below uf_22 hX23
    have uc_23 := own_below uc_22 hX23
    have gj_23 := own_below gj_22 hX23
    have gt_23 := own_below gt_22 hX23
    have gf_23 := own_below gf_22 hX23
    have gc_23 := own_below gc_22 hX23
    have hj_23 := own_below hj_22 hX23
    have ht_23 := own_below ht_22 hX23
    have hf_23 := own_below hf_22 hX23
    have hc_23 := own_below hc_22 hX23
    have u_23 := Blk.past hX23 u_22
    have g_23 := Blk.past hX23 g_22
    clear x_22 uj_22 ut_22 uf_22 uc_22 gj_22 gt_22 gf_22 gc_22 hj_22 ht_22 hf_22 hc_22 u_22 g_22 b_22 cell_u froz_u lt_u cell_g froz_g lt_g hX23
    have cell_u := u_23.cell
    have froz_u := u_23.frozen
    have lt_u := u_23.lt
    have cell_g := g_23.cell
    have froz_g := g_23.frozen
    have lt_g := g_23.lt
    have cell_h := h_23.cell
    have froz_h := h_23.frozen
    have lt_h := h_23.lt
    go_wp2_with fail
    refine calls_forget0 (W := w23) ?_ ?_
    (focus (repeat (first | (with_reducible first | exact Below.refl _ _ | refine Below.trans ?_ (Below.mono (by assumption) ?_) | refine Below.alloc ?_ ?_ _ | refine Below.setCell ?_ ?_ _ | refine Below.drew ?_ | refine below_drewN ?_) | omega | (· simp) | (· (simp; omega)) | (· simp [*]))))
    intro X24 hX24
    have sX24 := hX24.size
    refine (ER.out _ _ _ _ _ _ _ _ _ _ _ _ _ (Cells.of_own (own_below hj_23 hX24)) (Cells.of_own (own_below uj_23 hX24)) (Cells.of_own (own_below ht_23 hX24)) (Cells.of_own (own_below ut_23 hX24)) (Cells.of_own (own_below hf_23 hX24)) (Cells.of_own (own_below uf_23 hX24))).mono ?_
    rintro e w24 ⟨rfl, hb24⟩
    have s24 := hb24.size
    have hT24 := hX24.trans (hb24.mono sX24)
    have b_24 := b_23.trans (hT24.mono (by omega))
    have x_24 := cells_below x_23 hT24 (by omega)
    have uj_24 := own_below uj_23 hT24
    have ut_24 := own_below ut_23 hT24
    have uf_24 := own_below uf_23 hT24
    have uc_24 := own_below uc_23 hT24
    have gj_24 := own_below gj_23 hT24
    have gt_24 := own_below gt_23 hT24
    have gf_24 := own_below gf_23 hT24
    have gc_24 := own_below gc_23 hT24
    have hj_24 := own_below hj_23 hT24
    have ht_24 := own_below ht_23 hT24
    have hf_24 := own_below hf_23 hT24
    have hc_24 := own_below hc_23 hT24
    have u_24 := Blk.past hT24 u_23
    have g_24 := Blk.past hT24 g_23
    have h_24 := Blk.past hT24 h_23
    clear x_23 uj_23 ut_23 uf_23 uc_23 gj_23 gt_23 gf_23 gc_23 hj_23 ht_23 hf_23 hc_23 u_23 g_23 h_23 b_23 cell_u froz_u lt_u cell_g froz_g lt_g cell_h froz_h lt_h hX24 hT24 hb24
    have cell_u := u_24.cell
    have froz_u := u_24.frozen
    have lt_u := u_24.lt
    have cell_g := g_24.cell
    have froz_g := g_24.frozen
    have lt_g := g_24.lt
    have cell_h := h_24.cell
    have froz_h := h_24.frozen
    have lt_h := h_24.lt
    go_wp2_with fail
    refine calls_forget0 (W := w24) ?_ ?_
    (focus (repeat (first | (with_reducible first | exact Below.refl _ _ | refine Below.trans ?_ (Below.mono (by assumption) ?_) | refine Below.alloc ?_ ?_ _ | refine Below.setCell ?_ ?_ _ | refine Below.drew ?_ | refine below_drewN ?_) | omega | (· simp) | (· (simp; omega)) | (· simp [*]))))
    intro X25 hX25
    have sX25 := hX25.size
    refine (eqIntS_same _ _ _ _ _ _ (Cells.of_own (own_below hc_24 hX25)) (Cells.of_own (own_below uc_24 hX25)) (by omega)).mono ?_
    rintro e w25 ⟨rfl, hb25⟩
    have s25 := hb25.size
    have hT25 := hX25.trans (hb25.mono sX25)
    have b_25 := b_24.trans (hT25.mono (by omega))
    have x_25 := cells_below x_24 hT25 (by omega)
    have uj_25 := own_below uj_24 hT25
    have ut_25 := own_below ut_24 hT25
    have uf_25 := own_below uf_24 hT25
    have uc_25 := own_below uc_24 hT25
    have gj_25 := own_below gj_24 hT25
    have gt_25 := own_below gt_24 hT25
    have gf_25 := own_below gf_24 hT25
    have gc_25 := own_below gc_24 hT25
    have hj_25 := own_below hj_24 hT25
    have ht_25 := own_below ht_24 hT25
    have hf_25 := own_below hf_24 hT25
    have hc_25 := own_below hc_24 hT25
    have u_25 := Blk.past hT25 u_24
    have g_25 := Blk.past hT25 g_24
    have h_25 := Blk.past hT25 h_24
    clear x_24 uj_24 ut_24 uf_24 uc_24 gj_24 gt_24 gf_24 gc_24 hj_24 ht_24 hf_24 hc_24 u_24 g_24 h_24 b_24 cell_u froz_u lt_u cell_g froz_g lt_g cell_h froz_h lt_h hX25 hT25 hb25
    have cell_u := u_25.cell
    have froz_u := u_25.frozen
    have lt_u := u_25.lt
    have cell_g := g_25.cell
    have froz_g := g_25.frozen
    have lt_g := g_25.lt
    have cell_h := h_25.cell
    have froz_h := h_25.frozen
    have lt_h := h_25.lt
    go_wp2_with fail
    refine calls_forget0 (W := w25) ?_ ?_
    (focus (repeat (first | (with_reducible first | exact Below.refl _ _ | refine Below.trans ?_ (Below.mono (by assumption) ?_) | refine Below.alloc ?_ ?_ _ | refine Below.setCell ?_ ?_ _ | refine Below.drew ?_ | refine below_drewN ?_) | omega | (· simp) | (· (simp; omega)) | (· simp [*]))))
    intro X26 hX26
    have sX26 := hX26.size
    refine (heldSched_any _ _ _ _ _ _ _ _ _ _ _ _ _ _ (Cells.of_own (own_below gj_25 hX26)) (Cells.of_own (own_below gt_25 hX26)) (Cells.of_own (own_below gf_25 hX26)) (by omega) (by omega) (by omega) (by omega) (by omega)).mono ?_
    rintro e w26 ⟨rfl, hb26⟩
    have s26 := hb26.size
    have hT26 := hX26.trans (hb26.mono sX26)
    have b_26 := b_25.trans (hT26.mono (by omega))
    have x_26 := cells_below x_25 hT26 (by omega)
    have uj_26 := own_below uj_25 hT26
    have ut_26 := own_below ut_25 hT26
    have uf_26 := own_below uf_25 hT26
    have uc_26 := own_below uc_25 hT26
    have gj_26 := own_below gj_25 hT26
    have gt_26 := own_below gt_25 hT26
    have gf_26 := own_below gf_25 hT26
    have gc_26 := own_below gc_25 hT26
    have hj_26 := own_below hj_25 hT26
    have ht_26 := own_below ht_25 hT26
    have hf_26 := own_below hf_25 hT26
    have hc_26 := own_below hc_25 hT26
    have u_26 := Blk.past hT26 u_25
    have g_26 := Blk.past hT26 g_25
    have h_26 := Blk.past hT26 h_25
    clear x_25 uj_25 ut_25 uf_25 uc_25 gj_25 gt_25 gf_25 gc_25 hj_25 ht_25 hf_25 hc_25 u_25 g_25 h_25 b_25 cell_u froz_u lt_u cell_g froz_g lt_g cell_h froz_h lt_h hX26 hT26 hb26
    have cell_u := u_26.cell
    have froz_u := u_26.frozen
    have lt_u := u_26.lt
    have cell_g := g_26.cell
    have froz_g := g_26.frozen
    have lt_g := g_26.lt
    have cell_h := h_26.cell
    have froz_h := h_26.frozen
    have lt_h := h_26.lt
    go_wp2_with fail
    refine calls_forget0 (W := w26) ?_ ?_
    (focus (repeat (first | (with_reducible first | exact Below.refl _ _ | refine Below.trans ?_ (Below.mono (by assumption) ?_) | refine Below.alloc ?_ ?_ _ | refine Below.setCell ?_ ?_ _ | refine Below.drew ?_ | refine below_drewN ?_) | omega | (· simp) | (· (simp; omega)) | (· simp [*]))))
    intro X27 hX27
    have sX27 := hX27.size
    refine (heldIntS_any _ _ _ _ _ (Cells.of_own (own_below gc_26 hX27)) (by omega) (by omega) (by omega)).mono ?_
    rintro e w' ⟨rfl, rfl⟩
    have b_27 := b_26.trans (hX27.mono (by omega))
    have x_27 := cells_below x_26 hX27 (by omega)
    have uj_27 := own_below uj_26 hX27
    have ut_27 := own_below ut_26 hX27
    have uf_27 := own_below uf_26 hX27
    have uc_27 := own_below uc_26 hX27
    have gj_27 := own_below gj_26 hX27
    have gt_27 := own_below gt_26 hX27
    have gf_27 := own_below gf_26 hX27
    have gc_27 := own_below gc_26 hX27
    have hj_27 := own_below hj_26 hX27
    have ht_27 := own_below ht_26 hX27
    have hf_27 := own_below hf_26 hX27
    have hc_27 := own_below hc_26 hX27
    have u_27 := Blk.past hX27 u_26
    have g_27 := Blk.past hX27 g_26
    have h_27 := Blk.past hX27 h_26
    clear x_26 uj_26 ut_26 uf_26 uc_26 gj_26 gt_26 gf_26 gc_26 hj_26 ht_26 hf_26 hc_26 u_26 g_26 h_26 b_26 cell_u froz_u lt_u cell_g froz_g lt_g cell_h froz_h lt_h hX27
    have cell_u := u_27.cell
    have froz_u := u_27.frozen
    have lt_u := u_27.lt
    have cell_g := g_27.cell
    have froz_g := g_27.frozen
    have lt_g := g_27.lt
    have cell_h := h_27.cell
    have froz_h := h_27.frozen
    have lt_h := h_27.lt
    go_wp2
    go_ret
    refine ⟨rfl, b_27.trans ?_⟩
    repeat (first | (with_reducible first | exact Below.refl _ _ | refine Below.trans ?_ (Below.mono (by assumption) ?_) | refine Below.alloc ?_ ?_ _ | refine Below.setCell ?_ ?_ _ | refine Below.drew ?_ | refine below_drewN ?_) | omega | (· simp) | (· (simp; omega)) | (· simp [*]))
  · have hd : decide ((1048576 : Int) - (n : Int) < 0) = true := by simp; omega
    have HD := hid hd
    clear hd
    go_enter Try.func4, Try.ntmps4
    have b_0 := (Below.refl w.heap.size w)
    have s_0 := b_0.size
    go_wp2_with fail
    refine calls_forget0 (W := w) ?_ ?_
    (focus (repeat (first | (with_reducible first | exact Below.refl _ _ | refine Below.trans ?_ (Below.mono (by assumption) ?_) | refine Below.alloc ?_ ?_ _ | refine Below.setCell ?_ ?_ _ | refine Below.drew ?_ | refine below_drewN ?_) | omega | (· simp) | (· (simp; omega)) | (· simp [*]))))
    intro X1 hX1
    have sX1 := hX1.size
    refine (szActS_any _ _ _ _ _ hn (by omega) (by omega)).mono ?_
    rintro e w' ⟨rfl, rfl⟩
    have b_1 := b_0.trans (hX1.mono (by omega))
    clear b_0 hX1
    rw [HD.out, pick_yes]
    go_wp2
    go_ret
    refine ⟨rfl, b_1.trans ?_⟩
    repeat (first | (with_reducible first | exact Below.refl _ _ | refine Below.trans ?_ (Below.mono (by assumption) ?_) | refine Below.alloc ?_ ?_ _ | refine Below.setCell ?_ ?_ _ | refine Below.drew ?_ | refine below_drewN ?_) | omega | (· simp) | (· (simp; omega)) | (· simp [*]))
set_option maxRecDepth 100000 in
theorem lifted (os : Os) (started : os.Started) (H : Type) (enc : TypeId × Value → H) :
    ReturnsInHanded {} Try.checked os 4 .any (Rows.fnExactRunActsSpec.pre6 enc Try.prog Try.f4 Rows.fnExactRunActsRow.domain false) (Rows.fnExactRunActsSpec.post enc Try.prog Try.f4 false true false false) := by
  refine returnsInHanded_of_change (C := Try.checked) own started (by kernel_rfl) Try.func4
    (ChangeSpec.witness6 (enc := enc) (C := Try.checked) false ⟨#[], #[.int .i64 0, .slice none 0 0], []⟩ 8 (by kernel_rfl) (by kernel_rfl) (by kernel_rfl) (by kernel_rfl)) ?_
  intro W base args ds gs before hval0 hW _ _
  have hval : ∀ (j : Nat) t v, Try.f4.params[j]? = some t → args[j]? = some v → Value.okWide Try.prog W .any base t v := hval0
  have hW' := hW
  obtain ⟨p, q, hA0, hV, rfl, _, _⟩ := hW
  have hA : DataW.TrodAll enc Try.prog W 0 (fun _ => true) true Try.f4.params.toList args.toList ds p := hA0
  rw [Try.params4] at hA hval
  obtain ⟨v0, vs0, d0, ds0, p0, q0, hargs, rfl, rfl, h0, r0⟩ := trodAll_cons hA
  obtain ⟨v1, vs1, d1, ds1, p1, q1, rfl, rfl, rfl, h1, r1⟩ := trodAll_cons r0
  obtain ⟨rfl, rfl, rfl⟩ := trodAll_nil r1
  obtain rfl : args = #[v0, v1] := by cases args; simp_all
  obtain ⟨rfl, rfl⟩ := trodVars_none hV
  obtain ⟨a0, rfl, hd0, _, wa0⟩ := open_int Try.underlying3 (hval 0 3 v0 rfl rfl) h0
  obtain ⟨A1, c1, n1, xs1, rfl, hl1, hc1, hn1⟩ := view_structs (F := 4) Try.underlying45 Try.underlying30 (by kernel_rfl) (by kernel_rfl) rfl (by kernel_rfl) (by decide) (hval 1 45 v1 rfl rfl) h1 (fun x hx => hW'.lt x (by simp [hx]))
  refine (walk a0 A1 c1 n1 xs1 W hl1 hc1 hn1).mono fun e W' ⟨he, hb⟩ => ?_
  subst he
  exact ⟨_, rfl, law_post rfl (by kernel_rfl) (by kernel_rfl) rfl Try.underlying4 hW' rfl rfl rfl hb⟩
theorem closed : joinedFacts Try.prog 4 Try.f4 Rows.fnExactRunActsSpec Rows.fnExactRunActsRow = true := by
  unfold joinedFacts
  rw [makeIs, mayIs, finalsIs]
  kernel_rfl
theorem over : Rows.fnExactRunActsRow.holds Try.pinned (OpenSpec.ofChange Rows.fnExactRunActsSpec) :=
  OpenClaim.holds_of_wide 4 Try.f4 rfl rfl rfl rfl rfl rfl rfl ⟨rfl, rfl, rfl, rfl, rfl⟩ rfl rfl rfl rfl rfl (by kernel_rfl) Try.func4 closed
    (of_decide_eq_true (by kernel_rfl)) (by unfold Func.isWrapper; first | (rw [if_pos (by decide +kernel)]; kernel_rfl) | (rw [if_neg (by decide +kernel)]; exact ⟨rfl, rfl⟩))
    (fun os started H enc _ => lifted os started H enc)
theorem proved : Rows.FnExactRunActsSaid := over
#print axioms proved

end exactRunActs
end Go.Proofs.Ytjngcnkipkibcaa
