/- Pools, in the program and in the reference. -/
import Derived.Test.YtcdodfekclkonaaDoorWord
import Derived.Test.YtcdodfekclkonaaDoorSched
import Derived.Outline
import Derived.Test.YtcdodfekclkonaaDoorMem
import Derived.Deep.RegionHeld3
import Derived.Deep.DeepCutAuto
namespace Go.Proofs.YtcdodfekclkonaaDoor
open Go.RowKit

theorem iPoolOk (z n b : Int) (w : World) : Calls Tryd.prog 27 #[.agg #[.int .i64 z, .int .i64 n, .int .i64 b]] w fun e w' => e = .returned (.bool (poolOkB z n b)) ∧ Below w.heap.size w w' := by
  cases h1 : inB z 1 1000 <;> by_cases h2 : 0 ≤ n <;> by_cases h3 : n ≤ b
  all_goals
    have e : poolOkB z n b = (inB z 1 1000 && decide (0 ≤ n) && decide (n ≤ b) && decide (b ≤ z)) := by
      unfold poolOkB inB
      rw [Bool.eq_iff_iff]
      simp only [decide_eq_true_eq, Bool.and_eq_true]
      omega
    simp [h1, h2, h3] at e
    rw [e]
    clear e
    go_enter Tryd.func27, Tryd.ntmps27
    go_wp2_with (go_at_call 29; refine (iWithin _ _ _ _).mono ?_; rintro e w' ⟨rfl, rfl⟩)
    go_ret
    refine ⟨rfl, ?_⟩
    repeat (first | (with_reducible exact Below.refl _ _) | (with_reducible refine Below.trans ?_ (Below.mono (by assumption) (by first | omega | (simp; done) | (simp; omega) | (simp [*]; done)))) | (with_reducible refine Below.alloc ?_ (by first | omega | (simp; done) | (simp; omega) | (simp [*]; done)) _) | (with_reducible refine Below.setCell ?_ (by first | omega | (simp; done) | (simp; omega) | (simp [*]; done)) _) | (with_reducible refine Below.drew ?_) | (with_reducible refine below_drewN ?_))
theorem iPoolNew (z : Int) (w : World) :
    Calls Tryd.prog 32 #[.int .i64 z] w fun e w' => e = .returned (.tuple #[.agg #[.int .i64 (pick (inB z 1 1000) z 0), .int .i64 0, .int .i64 0], .bool (inB z 1 1000)]) ∧ Below w.heap.size w w' := by
  cases h1 : inB z 1 1000
  all_goals
    go_enter Tryd.func32, Tryd.ntmps32
    go_wp2_with (go_at_call 29; refine (iWithin _ _ _ _).mono ?_; rintro e w' ⟨rfl, rfl⟩)
    go_returns
    refine ⟨rfl, ?_⟩
    repeat (first | (with_reducible exact Below.refl _ _) | (with_reducible refine Below.trans ?_ (Below.mono (by assumption) (by first | omega | (simp; done) | (simp; omega) | (simp [*]; done)))) | (with_reducible refine Below.alloc ?_ (by first | omega | (simp; done) | (simp; omega) | (simp [*]; done)) _) | (with_reducible refine Below.setCell ?_ (by first | omega | (simp; done) | (simp; omega) | (simp [*]; done)) _) | (with_reducible refine Below.drew ?_) | (with_reducible refine below_drewN ?_))
set_option maxHeartbeats 400000 in
theorem iSchedNew (z : Int) (w : World) :
    Calls Tryd.prog 16 #[.int .i64 z] w fun e w' => e = .returned (.tuple #[.agg #[.int .i64 (pick (inB z 1 1000) z 0), .int .i64 0, .int .i64 0, .slice none 0 0, .slice none 0 0, .slice none 0 0], .bool (inB z 1 1000)]) ∧ Below w.heap.size w w' := by
  cases h1 : inB z 1 1000
  · skip
    have h0 := iPoolNew z
    rw [h1, pick_no] at h0
    rw [pick_no]
    have H0 := hid h0
    clear h0
    go_enter Tryd.func16, Tryd.ntmps16
    have b_0 := (Below.refl w.heap.size w)
    have s_0 := b_0.size
    go_wp2_with fail
    refine calls_forget1 (W := w) (b0 := w.heap.size) (t0 := 34) (c0 := #[.int .i64 0, .int .i64 0, .int .i64 0, .slice none 0 0, .slice none 0 0, .slice none 0 0]) ?_ ?_ ?_
    (focus (first | ((repeat (first | (with_reducible assumption) | (with_reducible apply Blk.drew) | (with_reducible apply Blk.drewN) | (with_reducible apply Blk.new; first | rfl | (simp; done)) | (with_reducible apply Blk.alloc) | (with_reducible apply Blk.set_) | (with_reducible apply Blk.past; focus assumption) | (with_reducible apply Blk.far; focus (first | (simp; done) | (simp; omega) | (dsimp only; omega))))); done) | (apply Blk.cast; (case h => (repeat (first | (with_reducible assumption) | (with_reducible apply Blk.drew) | (with_reducible apply Blk.drewN) | (with_reducible apply Blk.new; first | rfl | (simp; done)) | (with_reducible apply Blk.alloc) | (with_reducible apply Blk.set_) | (with_reducible apply Blk.past; focus assumption) | (with_reducible apply Blk.far; focus (first | (simp; done) | (simp; omega) | (dsimp only; omega)))))); (case e => rfl))))
    (focus (repeat (first | (with_reducible exact Below.refl _ _) | (with_reducible refine Below.trans ?_ (Below.mono (by assumption) (by first | omega | (simp; done) | (simp; omega) | (simp [*]; done)))) | (with_reducible refine Below.alloc ?_ (by first | omega | (simp; done) | (simp; omega) | (simp [*]; done)) _) | (with_reducible refine Below.setCell ?_ (by first | omega | (simp; done) | (simp; omega) | (simp [*]; done)) _) | (with_reducible refine Below.drew ?_) | (with_reducible refine below_drewN ?_))))
    intro X1 r_n hX1
    have sX1 := hX1.size
    have r_lt := r_n.lt
    refine (H0.out _).mono ?_
    rintro e w1 ⟨rfl, hb1⟩
    have s1 := hb1.size
    have hT1 := hX1.trans (hb1.mono sX1)
    have b_1 := b_0.trans (hT1.mono (by omega))
    have r_1 := Blk.past hb1 r_n
    clear b_0 r_n hX1 hT1 hb1
    have cell_r := r_1.cell
    have froz_r := r_1.frozen
    have lt_r := r_1.lt
    go_upto_region 2 with fail
    refine wp_forget1 (w0 := w1) (B := w1.heap.size) (b0 := w1.heap.size) (t0 := 30) (c0 := #[.int .i64 0, .int .i64 0, .int .i64 0]) ?_ ?_ ?_
    (focus (first | ((repeat (first | (with_reducible assumption) | (with_reducible apply Blk.drew) | (with_reducible apply Blk.drewN) | (with_reducible apply Blk.new; first | rfl | (simp; done)) | (with_reducible apply Blk.alloc) | (with_reducible apply Blk.set_) | (with_reducible apply Blk.past; focus assumption) | (with_reducible apply Blk.far; focus (first | (simp; done) | (simp; omega) | (dsimp only; omega))))); done) | (apply Blk.cast; (case h => (repeat (first | (with_reducible assumption) | (with_reducible apply Blk.drew) | (with_reducible apply Blk.drewN) | (with_reducible apply Blk.new; first | rfl | (simp; done)) | (with_reducible apply Blk.alloc) | (with_reducible apply Blk.set_) | (with_reducible apply Blk.past; focus assumption) | (with_reducible apply Blk.far; focus (first | (simp; done) | (simp; omega) | (dsimp only; omega)))))); (case e => rfl))))
    (focus (repeat (first | (with_reducible exact Below.refl _ _) | (with_reducible refine Below.trans ?_ (Below.mono (by assumption) (by first | omega | (simp; done) | (simp; omega) | (simp [*]; done)))) | (with_reducible refine Below.alloc ?_ (by first | omega | (simp; done) | (simp; omega) | (simp [*]; done)) _) | (with_reducible refine Below.setCell ?_ (by first | omega | (simp; done) | (simp; omega) | (simp [*]; done)) _) | (with_reducible refine Below.drew ?_) | (with_reducible refine below_drewN ?_))))
    intro w2 p_2 hX2
    have sX2 := hX2.size
    have p_lt := p_2.lt
    have b_2 := b_1.trans (hX2.mono (by omega))
    have r_2 := Blk.past hX2 r_1
    clear r_1 b_1 cell_r froz_r lt_r hX2
    have cell_r := r_2.cell
    have froz_r := r_2.frozen
    have lt_r := r_2.lt
    have cell_p := p_2.cell
    have froz_p := p_2.frozen
    have lt_p := p_2.lt
    go_wp2_with fail
    ((try simp only [Exit.inBlock, Exit.then]); apply bodyPost_ret0; focus ((try simp only [results, Tryd.results16]); (try go_simp); (try rfl)))
    refine ⟨rfl, ?_⟩
    repeat (first | (with_reducible exact Below.refl _ _) | (with_reducible refine Below.trans ?_ (Below.mono (by assumption) (by first | omega | (simp; done) | (simp; omega) | (simp [*]; done)))) | (with_reducible refine Below.alloc ?_ (by first | omega | (simp; done) | (simp; omega) | (simp [*]; done)) _) | (with_reducible refine Below.setCell ?_ (by first | omega | (simp; done) | (simp; omega) | (simp [*]; done)) _) | (with_reducible refine Below.drew ?_) | (with_reducible refine below_drewN ?_))
  · skip
    have h0 := iPoolNew z
    rw [h1, pick_yes] at h0
    rw [pick_yes]
    have H0 := hid h0
    clear h0
    go_enter Tryd.func16, Tryd.ntmps16
    have b_0 := (Below.refl w.heap.size w)
    have s_0 := b_0.size
    go_wp2_with fail
    refine calls_forget1 (W := w) (b0 := w.heap.size) (t0 := 34) (c0 := #[.int .i64 0, .int .i64 0, .int .i64 0, .slice none 0 0, .slice none 0 0, .slice none 0 0]) ?_ ?_ ?_
    (focus (first | ((repeat (first | (with_reducible assumption) | (with_reducible apply Blk.drew) | (with_reducible apply Blk.drewN) | (with_reducible apply Blk.new; first | rfl | (simp; done)) | (with_reducible apply Blk.alloc) | (with_reducible apply Blk.set_) | (with_reducible apply Blk.past; focus assumption) | (with_reducible apply Blk.far; focus (first | (simp; done) | (simp; omega) | (dsimp only; omega))))); done) | (apply Blk.cast; (case h => (repeat (first | (with_reducible assumption) | (with_reducible apply Blk.drew) | (with_reducible apply Blk.drewN) | (with_reducible apply Blk.new; first | rfl | (simp; done)) | (with_reducible apply Blk.alloc) | (with_reducible apply Blk.set_) | (with_reducible apply Blk.past; focus assumption) | (with_reducible apply Blk.far; focus (first | (simp; done) | (simp; omega) | (dsimp only; omega)))))); (case e => rfl))))
    (focus (repeat (first | (with_reducible exact Below.refl _ _) | (with_reducible refine Below.trans ?_ (Below.mono (by assumption) (by first | omega | (simp; done) | (simp; omega) | (simp [*]; done)))) | (with_reducible refine Below.alloc ?_ (by first | omega | (simp; done) | (simp; omega) | (simp [*]; done)) _) | (with_reducible refine Below.setCell ?_ (by first | omega | (simp; done) | (simp; omega) | (simp [*]; done)) _) | (with_reducible refine Below.drew ?_) | (with_reducible refine below_drewN ?_))))
    intro X1 r_n hX1
    have sX1 := hX1.size
    have r_lt := r_n.lt
    refine (H0.out _).mono ?_
    rintro e w1 ⟨rfl, hb1⟩
    have s1 := hb1.size
    have hT1 := hX1.trans (hb1.mono sX1)
    have b_1 := b_0.trans (hT1.mono (by omega))
    have r_1 := Blk.past hb1 r_n
    clear b_0 r_n hX1 hT1 hb1
    have cell_r := r_1.cell
    have froz_r := r_1.frozen
    have lt_r := r_1.lt
    go_upto_region 2 with fail
    refine wp_forget1 (w0 := w1) (B := w1.heap.size) (b0 := w1.heap.size) (t0 := 30) (c0 := #[.int .i64 z, .int .i64 0, .int .i64 0]) ?_ ?_ ?_
    (focus (first | ((repeat (first | (with_reducible assumption) | (with_reducible apply Blk.drew) | (with_reducible apply Blk.drewN) | (with_reducible apply Blk.new; first | rfl | (simp; done)) | (with_reducible apply Blk.alloc) | (with_reducible apply Blk.set_) | (with_reducible apply Blk.past; focus assumption) | (with_reducible apply Blk.far; focus (first | (simp; done) | (simp; omega) | (dsimp only; omega))))); done) | (apply Blk.cast; (case h => (repeat (first | (with_reducible assumption) | (with_reducible apply Blk.drew) | (with_reducible apply Blk.drewN) | (with_reducible apply Blk.new; first | rfl | (simp; done)) | (with_reducible apply Blk.alloc) | (with_reducible apply Blk.set_) | (with_reducible apply Blk.past; focus assumption) | (with_reducible apply Blk.far; focus (first | (simp; done) | (simp; omega) | (dsimp only; omega)))))); (case e => rfl))))
    (focus (repeat (first | (with_reducible exact Below.refl _ _) | (with_reducible refine Below.trans ?_ (Below.mono (by assumption) (by first | omega | (simp; done) | (simp; omega) | (simp [*]; done)))) | (with_reducible refine Below.alloc ?_ (by first | omega | (simp; done) | (simp; omega) | (simp [*]; done)) _) | (with_reducible refine Below.setCell ?_ (by first | omega | (simp; done) | (simp; omega) | (simp [*]; done)) _) | (with_reducible refine Below.drew ?_) | (with_reducible refine below_drewN ?_))))
    intro w2 p_2 hX2
    have sX2 := hX2.size
    have p_lt := p_2.lt
    have b_2 := b_1.trans (hX2.mono (by omega))
    have r_2 := Blk.past hX2 r_1
    clear r_1 b_1 cell_r froz_r lt_r hX2
    have cell_r := r_2.cell
    have froz_r := r_2.frozen
    have lt_r := r_2.lt
    have cell_p := p_2.cell
    have froz_p := p_2.frozen
    have lt_p := p_2.lt
    go_wp2_with fail
    ((try simp only [Exit.inBlock, Exit.then]); apply bodyPost_ret0; focus ((try simp only [results, Tryd.results16]); (try go_simp); (try rfl)))
    refine ⟨rfl, ?_⟩
    repeat (first | (with_reducible exact Below.refl _ _) | (with_reducible refine Below.trans ?_ (Below.mono (by assumption) (by first | omega | (simp; done) | (simp; omega) | (simp [*]; done)))) | (with_reducible refine Below.alloc ?_ (by first | omega | (simp; done) | (simp; omega) | (simp [*]; done)) _) | (with_reducible refine Below.setCell ?_ (by first | omega | (simp; done) | (simp; omega) | (simp [*]; done)) _) | (with_reducible refine Below.drew ?_) | (with_reducible refine below_drewN ?_))
end Go.Proofs.YtcdodfekclkonaaDoor
