/- Tapes and expected messages, in the program and in the reference. -/
import Derived.Test.YtihbaieiempjeaaBy
import Derived.Test.YtihbaieiempjeaaField
import Derived.Test.YtihbaieiempjeaaMem
import Derived.Deep.RegionHeld3
import Derived.Outline
namespace Go.Proofs.Ytihbaieiempjeaa
open Go.RowKit

theorem key_tdiv (s a : Int) : (keyedI s 7 a).tdiv 256 = keyedI s 7 a / 256 := Int.tdiv_eq_ediv_of_nonneg (keyedI_range s 7 a).1
theorem key_tmod (s a n : Int) : (keyedI s 7 a / 256).tmod n = keyedI s 7 a / 256 % n := Int.tmod_eq_emod_of_nonneg (by have := (keyedI_range s 7 a).1; omega)
theorem key_wrap (s a : Int) : wrap64 (keyedI s 7 a / 256) = keyedI s 7 a / 256 := IntWalk.wrap64_in _ (by have := keyedI_range s 7 a; omega)
theorem key_wrapk (s a : Int) : IntKind.i64.wrap (keyedI s 7 a / 256) = keyedI s 7 a / 256 := IntWalk.i64_in _ (by have := keyedI_range s 7 a; omega)
theorem zero_wrap : wrap64 0 = 0 := IntWalk.wrap64_in _ (by omega)
theorem zero_wrapk : IntKind.i64.wrap 0 = 0 := IntWalk.i64_in _ (by omega)
attribute [local go_sem] key_tdiv key_tmod key_wrap key_wrapk zero_wrap zero_wrapk
def wordI (s a : Int) : Int := pick (tapeGoB s a) (keyedI s 7 a) 0
def wordAt (s a : Int) : Int := pick (tapeGoB s a) (a + 1) a
theorem wrap_a1 {a : Int} (h0 : 0 ≤ a) (h1 : a ≤ 1000000) : IntKind.i64.wrap (a + 1) = a + 1 := IntWalk.i64_in _ (by omega)
attribute [local go_sem] wrap_a1
set_option maxHeartbeats 800000 in
theorem sTapeWord (s a : Int) (w : World) :
    Calls Try.prog 93 #[.agg #[.int .i64 s, .int .i64 a]] w fun e w' => e = .returned (.tuple #[.int .i64 (wordI s a), .agg #[.int .i64 s, .int .i64 (wordAt s a)]]) ∧ Below w.heap.size w w' := by
  cases h1 : tapeOkB s a; rotate_left
  cases h2 : (a == 1000000)
  · have e1 : wordI s a = keyedI s 7 a := by unfold wordI tapeGoB; rw [h1, h2]; rfl
    have e2 : wordAt s a = a + 1 := by unfold wordAt tapeGoB; rw [h1, h2]; rfl
    obtain ⟨hr0, hr1⟩ := tapeOkB_range h1
    rw [e1, e2]
    clear e1 e2
    go_enter Try.func93, Try.ntmps93
    have b_0 := (Below.refl w.heap.size w)
    have s_0 := b_0.size
    go_wp2_with fail
    refine calls_forget2 (W := w) (b0 := w.heap.size) (t0 := 29) (c0 := #[.int .i64 s, .int .i64 a]) (b1 := w.heap.size + 1) (t1 := 29) (c1 := #[.int .i64 0, .int .i64 0]) ?_ ?_ ?_ ?_
    (focus exact blkcBy)
    (focus exact blkcBy)
    (focus (exact belBy))
    intro X1 t_n r_n hX1
    have sX1 := hX1.size
    have t_lt := t_n.lt
    have r_lt := r_n.lt
    refine (sTapeOk _ _ _).mono ?_
    rintro e w1 ⟨rfl, hb1⟩
    have s1 := hb1.size
    have hT1 := hX1.trans (hb1.mono sX1)
    have b_1 := b_0.trans (hT1.mono (by omega))
    have t_1 := Blk.past hb1 t_n
    have r_1 := Blk.past hb1 r_n
    clear b_0 t_n r_n hX1 hT1 hb1
    have cell_t := t_1.cell
    have froz_t := t_1.frozen
    have lt_t := t_1.lt
    have cell_r := r_1.cell
    have froz_r := r_1.frozen
    have lt_r := r_1.lt
    go_wp2_with fail
    go_region_held3 (fun w' => w'.cell? ⟨w.heap.size, 0, none⟩ = some (.int .i64 s) ∧ w'.cell? ⟨w.heap.size, 1, none⟩ = some (.int .i64 a)) ((refine ⟨(Blk.cell (t := 29) (cs := #[.int .i64 s, .int .i64 a]) ?qt 0), (Blk.cell ?qt 1)⟩; (case qt => (exact blkBy)))) (first | (go_at_call 62; refine (sKeyed _ _ _ _).mono ?_; rintro e w' ⟨rfl, rfl⟩))
    all_goals
      go_wp2_with fail
      ((try simp only [Exit.inBlock, Exit.then]); apply bodyPost_ret0; focus ((try simp only [results, Try.results93]); (try go_simp); (try rfl)))
      refine ⟨rfl, ?_⟩
      exact belBy
  all_goals
    have e1 : wordI s a = 0 := by
      unfold wordI tapeGoB
      first | (rw [h2]; simp; done) | (rw [h1]; simp; done)
    have e2 : wordAt s a = a := by
      unfold wordAt tapeGoB
      first | (rw [h2]; simp; done) | (rw [h1]; simp; done)
    rw [e1, e2]
    clear e1 e2
    go_enter Try.func93, Try.ntmps93
    have b_0 := (Below.refl w.heap.size w)
    have s_0 := b_0.size
    go_wp2_with fail
    refine calls_forget2 (W := w) (b0 := w.heap.size) (t0 := 29) (c0 := #[.int .i64 s, .int .i64 a]) (b1 := w.heap.size + 1) (t1 := 29) (c1 := #[.int .i64 0, .int .i64 0]) ?_ ?_ ?_ ?_
    (focus exact blkcBy)
    (focus exact blkcBy)
    (focus (exact belBy))
    intro X1 t_n r_n hX1
    have sX1 := hX1.size
    have t_lt := t_n.lt
    have r_lt := r_n.lt
    refine (sTapeOk _ _ _).mono ?_
    rintro e w1 ⟨rfl, hb1⟩
    have s1 := hb1.size
    have hT1 := hX1.trans (hb1.mono sX1)
    have b_1 := b_0.trans (hT1.mono (by omega))
    have t_1 := Blk.past hb1 t_n
    have r_1 := Blk.past hb1 r_n
    clear b_0 t_n r_n hX1 hT1 hb1
    have cell_t := t_1.cell
    have froz_t := t_1.frozen
    have lt_t := t_1.lt
    have cell_r := r_1.cell
    have froz_r := r_1.frozen
    have lt_r := r_1.lt
    go_wp2_with fail
    go_region_held3 (fun w' => w'.cell? ⟨w.heap.size, 0, none⟩ = some (.int .i64 s) ∧ w'.cell? ⟨w.heap.size, 1, none⟩ = some (.int .i64 a)) ((refine ⟨(Blk.cell (t := 29) (cs := #[.int .i64 s, .int .i64 a]) ?qt 0), (Blk.cell ?qt 1)⟩; (case qt => (exact blkBy)))) (fail)
    all_goals
      go_wp2_with fail
      ((try simp only [Exit.inBlock, Exit.then]); apply bodyPost_ret0; focus ((try simp only [results, Try.results93]); (try go_simp); (try rfl)))
      refine ⟨rfl, ?_⟩
      exact belBy
theorem below_yes {s a n : Int} (h1 : inB n 1 65536 = true) (h2 : tapeGoB s a = true) : belowI s a n = keyedI s 7 a / 256 % n ∧ belowAt s a n = a + 1 := by
  unfold belowI belowAt belowB
  rw [h1, h2]
  exact ⟨rfl, rfl⟩
theorem below_noN {s a n : Int} (h1 : inB n 1 65536 = false) : belowI s a n = 0 ∧ belowAt s a n = a := by
  unfold belowI belowAt belowB
  rw [h1]
  exact ⟨rfl, rfl⟩
theorem below_noT {s a n : Int} (h2 : tapeGoB s a = false) : belowI s a n = 0 ∧ belowAt s a n = a := by
  unfold belowI belowAt belowB
  rw [h2]
  simp
theorem word_yes {s a : Int} (h2 : tapeGoB s a = true) : wordI s a = keyedI s 7 a ∧ wordAt s a = a + 1 := by unfold wordI wordAt; rw [h2]; exact ⟨rfl, rfl⟩
theorem word_no {s a : Int} (h2 : tapeGoB s a = false) : wordI s a = 0 ∧ wordAt s a = a := by unfold wordI wordAt; rw [h2]; exact ⟨rfl, rfl⟩
theorem go_yes {s a : Int} (h1 : tapeOkB s a = true) (h2 : (a == 1000000) = false) : tapeGoB s a = true := by unfold tapeGoB; rw [h1, h2]; rfl
theorem go_noO {s a : Int} (h1 : tapeOkB s a = false) : tapeGoB s a = false := by unfold tapeGoB; rw [h1]; rfl
theorem go_noE {s a : Int} (h2 : (a == 1000000) = true) : tapeGoB s a = false := by unfold tapeGoB; rw [h2]; simp
theorem sTapeWord_yes (s a : Int) (w : World) (h : tapeGoB s a = true) :
    Calls Try.prog 93 #[.agg #[.int .i64 s, .int .i64 a]] w fun e w' => e = .returned (.tuple #[.int .i64 (keyedI s 7 a), .agg #[.int .i64 s, .int .i64 (a + 1)]]) ∧ Below w.heap.size w w' := by
  have h0 := sTapeWord s a w
  rw [(word_yes h).1, (word_yes h).2] at h0
  exact h0
theorem sTapeWord_no (s a : Int) (w : World) (h : tapeGoB s a = false) :
    Calls Try.prog 93 #[.agg #[.int .i64 s, .int .i64 a]] w fun e w' => e = .returned (.tuple #[.int .i64 0, .agg #[.int .i64 s, .int .i64 a]]) ∧ Below w.heap.size w w' := by
  have h0 := sTapeWord s a w
  rw [(word_no h).1, (word_no h).2] at h0
  exact h0
theorem zero_tdiv : (0 : Int).tdiv 256 = 0 := by decide
theorem zero_tmod (n : Int) : (0 : Int).tmod n = 0 := by simp
attribute [local go_sem] zero_tdiv zero_tmod
set_option maxHeartbeats 1600000 in
theorem sTapeBelow (s a n : Int) (w : World) :
    Calls Try.prog 59 #[.agg #[.int .i64 s, .int .i64 a], .int .i64 n] w fun e w' => e = .returned (.tuple #[.int .i64 (belowI s a n), .agg #[.int .i64 s, .int .i64 (belowAt s a n)]]) ∧ Below w.heap.size w w' := by
  cases h0 : inB n 1 65536
  · rw [(below_noN h0).1, (below_noN h0).2]
    go_enter Try.func59, Try.ntmps59
    go_wp2_with (go_at_call 57; refine (sWithin _ _ _ _).mono ?_; rintro e w' ⟨rfl, rfl⟩)
    have b_0 := (Below.refl w.heap.size w)
    have s_0 := b_0.size
    refine wp_forget2 (w0 := w) (B := w.heap.size) (b0 := w.heap.size) (t0 := 29) (c0 := #[.int .i64 s, .int .i64 a]) (b1 := w.heap.size + 1) (t1 := 29) (c1 := #[.int .i64 0, .int .i64 0]) ?_ ?_ ?_ ?_
    (focus exact blkcBy)
    (focus exact blkcBy)
    (focus (exact belBy))
    intro w1 t_1 r_1 hX1
    have sX1 := hX1.size
    have t_lt := t_1.lt
    have r_lt := r_1.lt
    have b_1 := b_0.trans (hX1.mono (by omega))
    clear b_0 hX1
    have cell_t := t_1.cell
    have froz_t := t_1.frozen
    have lt_t := t_1.lt
    have cell_r := r_1.cell
    have froz_r := r_1.frozen
    have lt_r := r_1.lt
    go_wp2_with fail
    go_region_held3 (fun w' => w'.cell? ⟨w.heap.size, 0, none⟩ = some (.int .i64 s) ∧ w'.cell? ⟨w.heap.size, 1, none⟩ = some (.int .i64 a)) ((refine ⟨(Blk.cell (t := 29) (cs := #[.int .i64 s, .int .i64 a]) ?qt 0), (Blk.cell ?qt 1)⟩; (case qt => (exact blkBy)))) (fail)
    all_goals
      go_wp2_with fail
      ((try simp only [Exit.inBlock, Exit.then]); apply bodyPost_ret0; focus ((try simp only [results, Try.results59]); (try go_simp); (try rfl)))
      refine ⟨rfl, ?_⟩
      exact belBy
  obtain ⟨n0, n1⟩ := inB_iff.1 h0
  have hn0 : ¬ (n = 0) := by omega
  cases hg : tapeGoB s a
  · rw [(below_noT hg).1, (below_noT hg).2]
    have HG := hid hg
    clear hg
    go_enter Try.func59, Try.ntmps59
    go_wp2_with (go_at_call 57; refine (sWithin _ _ _ _).mono ?_; rintro e w' ⟨rfl, rfl⟩)
    have b_0 := (Below.refl w.heap.size w)
    have s_0 := b_0.size
    go_wp2_with fail
    refine calls_forget2 (W := w) (b0 := w.heap.size) (t0 := 29) (c0 := #[.int .i64 s, .int .i64 a]) (b1 := w.heap.size + 1) (t1 := 29) (c1 := #[.int .i64 0, .int .i64 0]) ?_ ?_ ?_ ?_
    (focus exact blkcBy)
    (focus exact blkcBy)
    (focus (exact belBy))
    intro X1 t_n r_n hX1
    have sX1 := hX1.size
    have t_lt := t_n.lt
    have r_lt := r_n.lt
    refine (sTapeWord_no _ _ _ HG.out).mono ?_
    rintro e w1 ⟨rfl, hb1⟩
    have s1 := hb1.size
    have hT1 := hX1.trans (hb1.mono sX1)
    have b_1 := b_0.trans (hT1.mono (by omega))
    have t_1 := Blk.past hb1 t_n
    have r_1 := Blk.past hb1 r_n
    clear b_0 t_n r_n hX1 hT1 hb1
    have cell_t := t_1.cell
    have froz_t := t_1.frozen
    have lt_t := t_1.lt
    have cell_r := r_1.cell
    have froz_r := r_1.frozen
    have lt_r := r_1.lt
    go_wp2_with fail
    refine wp_forget1 (w0 := w1) (B := w1.heap.size) (b0 := w1.heap.size) (t0 := 29) (c0 := #[.int .i64 s, .int .i64 a]) ?_ ?_ ?_
    (focus exact blkcBy)
    (focus (exact belBy))
    intro w2 nx_2 hX2
    have sX2 := hX2.size
    have nx_lt := nx_2.lt
    have b_2 := b_1.trans (hX2.mono (by omega))
    have t_2 := Blk.past hX2 t_1
    have r_2 := Blk.past hX2 r_1
    clear t_1 r_1 b_1 cell_t froz_t lt_t cell_r froz_r lt_r hX2
    have cell_t := t_2.cell
    have froz_t := t_2.frozen
    have lt_t := t_2.lt
    have cell_r := r_2.cell
    have froz_r := r_2.frozen
    have lt_r := r_2.lt
    have cell_nx := nx_2.cell
    have froz_nx := nx_2.frozen
    have lt_nx := nx_2.lt
    go_wp2_with fail
    go_region_held3 (fun w' => w'.cell? ⟨w1.heap.size, 0, none⟩ = some (.int .i64 s) ∧ w'.cell? ⟨w1.heap.size, 1, none⟩ = some (.int .i64 a)) ((refine ⟨(Blk.cell (t := 29) (cs := #[.int .i64 s, .int .i64 a]) ?qnx 0), (Blk.cell ?qnx 1)⟩; (case qnx => (exact blkBy)))) (fail)
    all_goals
      go_wp2_with fail
      ((try simp only [Exit.inBlock, Exit.then]); apply bodyPost_ret0; focus ((try simp only [results, Try.results59]); (try go_simp); (try rfl)))
      refine ⟨rfl, ?_⟩
      exact belBy
  · rw [(below_yes h0 hg).1, (below_yes h0 hg).2]
    have HG := hid hg
    clear hg
    go_enter Try.func59, Try.ntmps59
    go_wp2_with (go_at_call 57; refine (sWithin _ _ _ _).mono ?_; rintro e w' ⟨rfl, rfl⟩)
    have b_0 := (Below.refl w.heap.size w)
    have s_0 := b_0.size
    go_wp2_with fail
    refine calls_forget2 (W := w) (b0 := w.heap.size) (t0 := 29) (c0 := #[.int .i64 s, .int .i64 a]) (b1 := w.heap.size + 1) (t1 := 29) (c1 := #[.int .i64 0, .int .i64 0]) ?_ ?_ ?_ ?_
    (focus exact blkcBy)
    (focus exact blkcBy)
    (focus (exact belBy))
    intro X1 t_n r_n hX1
    have sX1 := hX1.size
    have t_lt := t_n.lt
    have r_lt := r_n.lt
    refine (sTapeWord_yes _ _ _ HG.out).mono ?_
    rintro e w1 ⟨rfl, hb1⟩
    have s1 := hb1.size
    have hT1 := hX1.trans (hb1.mono sX1)
    have b_1 := b_0.trans (hT1.mono (by omega))
    have t_1 := Blk.past hb1 t_n
    have r_1 := Blk.past hb1 r_n
    clear b_0 t_n r_n hX1 hT1 hb1
    have cell_t := t_1.cell
    have froz_t := t_1.frozen
    have lt_t := t_1.lt
    have cell_r := r_1.cell
    have froz_r := r_1.frozen
    have lt_r := r_1.lt
    go_wp2_with fail
    refine wp_forget1 (w0 := w1) (B := w1.heap.size) (b0 := w1.heap.size) (t0 := 29) (c0 := #[.int .i64 s, .int .i64 (a + 1)]) ?_ ?_ ?_
    (focus exact blkcBy)
    (focus (exact belBy))
    intro w2 nx_2 hX2
    have sX2 := hX2.size
    have nx_lt := nx_2.lt
    have b_2 := b_1.trans (hX2.mono (by omega))
    have t_2 := Blk.past hX2 t_1
    have r_2 := Blk.past hX2 r_1
    clear t_1 r_1 b_1 cell_t froz_t lt_t cell_r froz_r lt_r hX2
    have cell_t := t_2.cell
    have froz_t := t_2.frozen
    have lt_t := t_2.lt
    have cell_r := r_2.cell
    have froz_r := r_2.frozen
    have lt_r := r_2.lt
    have cell_nx := nx_2.cell
    have froz_nx := nx_2.frozen
    have lt_nx := nx_2.lt
    go_wp2_with fail
    go_region_held3 (fun w' => w'.cell? ⟨w1.heap.size, 0, none⟩ = some (.int .i64 s) ∧ w'.cell? ⟨w1.heap.size, 1, none⟩ = some (.int .i64 (a + 1))) ((refine ⟨(Blk.cell (t := 29) (cs := #[.int .i64 s, .int .i64 (a + 1)]) ?qnx 0), (Blk.cell ?qnx 1)⟩; (case qnx => (exact blkBy)))) (fail)
    all_goals
      go_wp2_with fail
      ((try simp only [Exit.inBlock, Exit.then]); apply bodyPost_ret0; focus ((try simp only [results, Try.results59]); (try go_simp); (try rfl)))
      refine ⟨rfl, ?_⟩
      exact belBy
end Go.Proofs.Ytihbaieiempjeaa
