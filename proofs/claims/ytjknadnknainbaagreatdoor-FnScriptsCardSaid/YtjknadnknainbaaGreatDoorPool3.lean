import Derived.Test.YtjknadnknainbaaGreatDoorMem
import Derived.Test.YtjknadnknainbaaGreatDoorPool
/- Pools and tickets, in the program and in the reference. -/
namespace Go.Proofs.YtjknadnknainbaaGreatDoor
open Go.RowKit

theorem iPoolReserve (z n b k : Int) (w : World) :
    Calls Tryz.prog 70 #[.agg #[.int .i64 z, .int .i64 n, .int .i64 b], .int .i64 k] w fun e w' => e = .returned (.tuple #[.agg #[.int .i64 z, .int .i64 n, .int .i64 (pick (resB z n b k) (b + k) b)], .bool (resB z n b k)]) ∧ Below w.heap.size w w' := by
  have hP := iPoolOk z n b
  cases h1 : poolOkB z n b
  · skip
    have e : resB z n b k = false := by simp [resB, h1]
    rw [e, pick_no]
    rw [h1] at hP
    have HP := hid hP
    clear hP e
    go_enter Tryz.func70, Tryz.ntmps70
    go_wp2_with (first | (go_at_call 65; refine (iWithin _ _ _ _).mono ?_; rintro e w' ⟨rfl, rfl⟩) | (go_at_call 73; refine (HP.out _).mono ?_; rintro e w1 ⟨rfl, hb1⟩; have sz := hb1.size; (try simp at sz); (first | (with_reducible refine use_topd hb1 ?_; intro zt ct ft kt; try simp only [World.size_alloc] at zt ct ft kt) | (with_reducible refine use_top hb1 ?_; intro zt ct ft kt; try simp only [World.size_alloc] at zt ct ft kt) | (with_reducible refine use_kept hb1 kt ?_; intro zt ct ft kt) | skip); obtain ⟨z1a, c1a, f1a, k1a⟩ := bfact hb1 (b := w.heap.size) (by exact blkBy)))
    ((try simp only [Exit.inBlock, Exit.then]); apply bodyPost_ret0; focus ((try simp only [results, Tryz.results70]); (try go_simp); (try rfl)))
    refine ⟨rfl, ?_⟩
    exact belBy
  obtain ⟨p1, p2, p3, p4, p5⟩ := poolOk_iff.1 h1
  cases h2 : inB k 1 1000
  · skip
    have e : resB z n b k = false := by simp [resB, h2]
    rw [e, pick_no]
    rw [h1] at hP
    have HP := hid hP
    clear hP e
    go_enter Tryz.func70, Tryz.ntmps70
    go_wp2_with (first | (go_at_call 65; refine (iWithin _ _ _ _).mono ?_; rintro e w' ⟨rfl, rfl⟩) | (go_at_call 73; refine (HP.out _).mono ?_; rintro e w1 ⟨rfl, hb1⟩; have sz := hb1.size; (try simp at sz); (first | (with_reducible refine use_topd hb1 ?_; intro zt ct ft kt; try simp only [World.size_alloc] at zt ct ft kt) | (with_reducible refine use_top hb1 ?_; intro zt ct ft kt; try simp only [World.size_alloc] at zt ct ft kt) | (with_reducible refine use_kept hb1 kt ?_; intro zt ct ft kt) | skip); obtain ⟨z1a, c1a, f1a, k1a⟩ := bfact hb1 (b := w.heap.size) (by exact blkBy)))
    ((try simp only [Exit.inBlock, Exit.then]); apply bodyPost_ret0; focus ((try simp only [results, Tryz.results70]); (try go_simp); (try rfl)))
    refine ⟨rfl, ?_⟩
    exact belBy
  have h2' := inB_iff.1 h2
  by_cases h3 : b + k ≤ z
  all_goals
    have e : resB z n b k = decide (b + k ≤ z) := by simp [resB, h1, h2]
    simp only [h3, decide_true, decide_false] at e
    rw [e]
    rw [h1] at hP
    have HP := hid hP
    clear hP e
    go_enter Tryz.func70, Tryz.ntmps70
    go_wp2_with (first | (go_at_call 65; refine (iWithin _ _ _ _).mono ?_; rintro e w' ⟨rfl, rfl⟩) | (go_at_call 73; refine (HP.out _).mono ?_; rintro e w1 ⟨rfl, hb1⟩; have sz := hb1.size; (try simp at sz); (first | (with_reducible refine use_topd hb1 ?_; intro zt ct ft kt; try simp only [World.size_alloc] at zt ct ft kt) | (with_reducible refine use_top hb1 ?_; intro zt ct ft kt; try simp only [World.size_alloc] at zt ct ft kt) | (with_reducible refine use_kept hb1 kt ?_; intro zt ct ft kt) | skip); obtain ⟨z1a, c1a, f1a, k1a⟩ := bfact hb1 (b := w.heap.size) (by exact blkBy)))
    ((try simp only [Exit.inBlock, Exit.then]); apply bodyPost_ret0; focus ((try simp only [results, Tryz.results70]); (try go_simp); (try rfl)))
    refine ⟨rfl, ?_⟩
    exact belBy
theorem sPoolReserve (z n b k : Int) (w : World) :
    Calls Tryz.prog 52 #[.agg #[.int .i64 z, .int .i64 n, .int .i64 b], .int .i64 k] w fun e w' => e = .returned (.tuple #[.agg #[.int .i64 z, .int .i64 n, .int .i64 (pick (resB z n b k) (b + k) b)], .bool (resB z n b k)]) ∧ Below w.heap.size w w' := by
  have hP := sPoolOk z n b
  cases h1 : poolOkB z n b
  · skip
    have e : resB z n b k = false := by simp [resB, h1]
    rw [e, pick_no]
    rw [h1] at hP
    have HP := hid hP
    clear hP e
    go_enter Tryz.func52, Tryz.ntmps52
    go_wp2_with (first | (go_at_call 38; refine (sWithin _ _ _ _).mono ?_; rintro e w' ⟨rfl, rfl⟩) | (go_at_call 54; refine (HP.out _).mono ?_; rintro e w1 ⟨rfl, hb1⟩; have sz := hb1.size; (try simp at sz); (first | (with_reducible refine use_topd hb1 ?_; intro zt ct ft kt; try simp only [World.size_alloc] at zt ct ft kt) | (with_reducible refine use_top hb1 ?_; intro zt ct ft kt; try simp only [World.size_alloc] at zt ct ft kt) | (with_reducible refine use_kept hb1 kt ?_; intro zt ct ft kt) | skip); obtain ⟨z1a, c1a, f1a, k1a⟩ := bfact hb1 (b := w.heap.size) (by exact blkBy)))
    ((try simp only [Exit.inBlock, Exit.then]); apply bodyPost_ret0; focus ((try simp only [results, Tryz.results52]); (try go_simp); (try rfl)))
    refine ⟨rfl, ?_⟩
    exact belBy
  obtain ⟨p1, p2, p3, p4, p5⟩ := poolOk_iff.1 h1
  cases h2 : inB k 1 1000
  · skip
    have e : resB z n b k = false := by simp [resB, h2]
    rw [e, pick_no]
    rw [h1] at hP
    have HP := hid hP
    clear hP e
    go_enter Tryz.func52, Tryz.ntmps52
    go_wp2_with (first | (go_at_call 38; refine (sWithin _ _ _ _).mono ?_; rintro e w' ⟨rfl, rfl⟩) | (go_at_call 54; refine (HP.out _).mono ?_; rintro e w1 ⟨rfl, hb1⟩; have sz := hb1.size; (try simp at sz); (first | (with_reducible refine use_topd hb1 ?_; intro zt ct ft kt; try simp only [World.size_alloc] at zt ct ft kt) | (with_reducible refine use_top hb1 ?_; intro zt ct ft kt; try simp only [World.size_alloc] at zt ct ft kt) | (with_reducible refine use_kept hb1 kt ?_; intro zt ct ft kt) | skip); obtain ⟨z1a, c1a, f1a, k1a⟩ := bfact hb1 (b := w.heap.size) (by exact blkBy)))
    ((try simp only [Exit.inBlock, Exit.then]); apply bodyPost_ret0; focus ((try simp only [results, Tryz.results52]); (try go_simp); (try rfl)))
    refine ⟨rfl, ?_⟩
    exact belBy
  have h2' := inB_iff.1 h2
  by_cases h3 : b + k ≤ z
  all_goals
    have e : resB z n b k = decide (b + k ≤ z) := by simp [resB, h1, h2]
    simp only [h3, decide_true, decide_false] at e
    rw [e]
    rw [h1] at hP
    have HP := hid hP
    clear hP e
    go_enter Tryz.func52, Tryz.ntmps52
    go_wp2_with (first | (go_at_call 38; refine (sWithin _ _ _ _).mono ?_; rintro e w' ⟨rfl, rfl⟩) | (go_at_call 54; refine (HP.out _).mono ?_; rintro e w1 ⟨rfl, hb1⟩; have sz := hb1.size; (try simp at sz); (first | (with_reducible refine use_topd hb1 ?_; intro zt ct ft kt; try simp only [World.size_alloc] at zt ct ft kt) | (with_reducible refine use_top hb1 ?_; intro zt ct ft kt; try simp only [World.size_alloc] at zt ct ft kt) | (with_reducible refine use_kept hb1 kt ?_; intro zt ct ft kt) | skip); obtain ⟨z1a, c1a, f1a, k1a⟩ := bfact hb1 (b := w.heap.size) (by exact blkBy)))
    ((try simp only [Exit.inBlock, Exit.then]); apply bodyPost_ret0; focus ((try simp only [results, Tryz.results52]); (try go_simp); (try rfl)))
    refine ⟨rfl, ?_⟩
    exact belBy
end Go.Proofs.YtjknadnknainbaaGreatDoor
/- Taking from a pool and the crash, in the program and in the reference. -/
namespace Go.Proofs.YtjknadnknainbaaGreatDoor
open Go.RowKit

set_option maxHeartbeats 1600000 in
theorem iPoolTake (z n b k : Int) (w : World) :
    Calls Tryz.prog 104 #[.agg #[.int .i64 z, .int .i64 n, .int .i64 b], .int .i64 k] w fun e w' => e = .returned (.tuple #[.agg #[.int .i64 z, .int .i64 (pick (takeB z n b k) (n + k) n), .int .i64 b], .agg #[.int .i64 (pick (takeB z n b k) n 0), .int .i64 (pick (takeB z n b k) k 0)], .bool (takeB z n b k)]) ∧ Below w.heap.size w w' := by
  have hP := iPoolOk z n b
  cases h1 : poolOkB z n b
  · skip
    have e : takeB z n b k = false := by simp [takeB, h1]
    rw [e, pick_no, pick_no, pick_no]
    rw [h1] at hP
    have HP := hid hP
    clear hP e
    go_enter Tryz.func104, Tryz.ntmps104
    go_wp2_with (first | (go_at_call 65; refine (iWithin _ _ _ _).mono ?_; rintro e w' ⟨rfl, rfl⟩) | (go_at_call 73; refine (HP.out _).mono ?_; rintro e w1 ⟨rfl, hb1⟩; have sz := hb1.size; (try simp at sz); (first | (with_reducible refine use_topd hb1 ?_; intro zt ct ft kt; try simp only [World.size_alloc] at zt ct ft kt) | (with_reducible refine use_top hb1 ?_; intro zt ct ft kt; try simp only [World.size_alloc] at zt ct ft kt) | (with_reducible refine use_kept hb1 kt ?_; intro zt ct ft kt) | skip); obtain ⟨z1a, c1a, f1a, k1a⟩ := bfact hb1 (b := w.heap.size) (by exact blkBy); obtain ⟨z1b, c1b, f1b, k1b⟩ := bfact hb1 (b := w.heap.size + 1) (by exact blkBy); obtain ⟨z1c, c1c, f1c, k1c⟩ := bfact hb1 (b := w.heap.size + 1 + 1) (by exact blkBy)))
    ((try simp only [Exit.inBlock, Exit.then]); apply bodyPost_ret0; focus ((try simp only [results, Tryz.results104]); (try go_simp); (try rfl)))
    refine ⟨rfl, ?_⟩
    exact belBy
  obtain ⟨p1, p2, p3, p4, p5⟩ := poolOk_iff.1 h1
  cases h2 : inB k 1 1000
  · skip
    have e : takeB z n b k = false := by simp [takeB, h2]
    rw [e, pick_no, pick_no, pick_no]
    rw [h1] at hP
    have HP := hid hP
    clear hP e
    go_enter Tryz.func104, Tryz.ntmps104
    go_wp2_with (first | (go_at_call 65; refine (iWithin _ _ _ _).mono ?_; rintro e w' ⟨rfl, rfl⟩) | (go_at_call 73; refine (HP.out _).mono ?_; rintro e w1 ⟨rfl, hb1⟩; have sz := hb1.size; (try simp at sz); (first | (with_reducible refine use_topd hb1 ?_; intro zt ct ft kt; try simp only [World.size_alloc] at zt ct ft kt) | (with_reducible refine use_top hb1 ?_; intro zt ct ft kt; try simp only [World.size_alloc] at zt ct ft kt) | (with_reducible refine use_kept hb1 kt ?_; intro zt ct ft kt) | skip); obtain ⟨z1a, c1a, f1a, k1a⟩ := bfact hb1 (b := w.heap.size) (by exact blkBy); obtain ⟨z1b, c1b, f1b, k1b⟩ := bfact hb1 (b := w.heap.size + 1) (by exact blkBy); obtain ⟨z1c, c1c, f1c, k1c⟩ := bfact hb1 (b := w.heap.size + 1 + 1) (by exact blkBy)))
    ((try simp only [Exit.inBlock, Exit.then]); apply bodyPost_ret0; focus ((try simp only [results, Tryz.results104]); (try go_simp); (try rfl)))
    refine ⟨rfl, ?_⟩
    exact belBy
  have h2' := inB_iff.1 h2
  by_cases h3 : n + k ≤ b
  · skip
    have e : takeB z n b k = decide (n + k ≤ b) := by simp [takeB, h1, h2]
    simp only [h3, decide_true] at e
    rw [e, pick_yes, pick_yes, pick_yes]
    rw [h1] at hP
    have HP := hid hP
    clear hP e
    go_enter Tryz.func104, Tryz.ntmps104
    have b_0 := (Below.refl w.heap.size w)
    have s_0 := b_0.size
    go_wp2_with fail
    refine calls_forget3 (W := w) (b0 := w.heap.size) (t0 := 35) (c0 := #[.int .i64 z, .int .i64 n, .int .i64 b]) (b1 := w.heap.size + 1) (t1 := 35) (c1 := #[.int .i64 0, .int .i64 0, .int .i64 0]) (b2 := w.heap.size + 1 + 1) (t2 := 88) (c2 := #[.int .i64 0, .int .i64 0]) ?_ ?_ ?_ ?_ ?_
    (focus exact blkcBy)
    (focus exact blkcBy)
    (focus exact blkcBy)
    (focus (exact belBy))
    intro X1 p_n r_n q_n hX1
    have sX1 := hX1.size
    have p_lt := p_n.lt
    have r_lt := r_n.lt
    have q_lt := q_n.lt
    refine (HP.out _).mono ?_
    rintro e w1 ⟨rfl, hb1⟩
    have s1 := hb1.size
    have hT1 := hX1.trans (hb1.mono sX1)
    have b_1 := b_0.trans (hT1.mono (by omega))
    have p_1 := Blk.past hb1 p_n
    have r_1 := Blk.past hb1 r_n
    have q_1 := Blk.past hb1 q_n
    clear b_0 p_n r_n q_n hX1 hT1 hb1
    have cell_p := p_1.cell
    have froz_p := p_1.frozen
    have lt_p := p_1.lt
    have cell_r := r_1.cell
    have froz_r := r_1.frozen
    have lt_r := r_1.lt
    have cell_q := q_1.cell
    have froz_q := q_1.frozen
    have lt_q := q_1.lt
    go_wp2_with fail
    refine calls_forget0 (W := w1) ?_ ?_
    (focus (exact belBy))
    intro X2 hX2
    have sX2 := hX2.size
    refine (iWithin _ _ _ _).mono ?_
    rintro e w' ⟨rfl, rfl⟩
    have b_2 := b_1.trans (hX2.mono (by omega))
    have p_2 := Blk.past hX2 p_1
    have r_2 := Blk.past hX2 r_1
    have q_2 := Blk.past hX2 q_1
    clear p_1 r_1 q_1 b_1 cell_p froz_p lt_p cell_r froz_r lt_r cell_q froz_q lt_q hX2
    have cell_p := p_2.cell
    have froz_p := p_2.frozen
    have lt_p := p_2.lt
    have cell_r := r_2.cell
    have froz_r := r_2.frozen
    have lt_r := r_2.lt
    have cell_q := q_2.cell
    have froz_q := q_2.frozen
    have lt_q := q_2.lt
    go_upto_region 5 with fail
    refine wp_touch2 (w0 := X2) (L := [w.heap.size]) (b0 := w.heap.size) (t0 := 35) (c0 := #[.int .i64 z, .int .i64 (n + k), .int .i64 b]) (b1 := X2.heap.size) (t1 := 88) (c1 := #[.int .i64 n, .int .i64 k]) ?_ ?_ ?_ ?_
    (focus exact blkcBy)
    (focus exact blkcBy)
    (focus (exact tchBy))
    intro w3 p_3 t_3 hX3
    have sX3 := hX3.size
    have t_lt := t_3.lt
    have b_3 := hX3.below b_2 (by first | (simp; done) | (simp; omega))
    have r_3 := Blk.touch hX3 r_2 (by first | (simp; done) | (simp; omega))
    have q_3 := Blk.touch hX3 q_2 (by first | (simp; done) | (simp; omega))
    clear p_2 r_2 q_2 b_2 cell_p froz_p lt_p cell_r froz_r lt_r cell_q froz_q lt_q hX3
    have cell_p := p_3.cell
    have froz_p := p_3.frozen
    have lt_p := p_3.lt
    have cell_r := r_3.cell
    have froz_r := r_3.frozen
    have lt_r := r_3.lt
    have cell_q := q_3.cell
    have froz_q := q_3.frozen
    have lt_q := q_3.lt
    have cell_t := t_3.cell
    have froz_t := t_3.frozen
    have lt_t := t_3.lt
    go_wp2_with fail
    go_wp2_with fail
    go_region_held3 (fun w' => w'.cell? ⟨w.heap.size, 0, none⟩ = some (.int .i64 z) ∧ w'.cell? ⟨w.heap.size, 1, none⟩ = some (.int .i64 (n + k)) ∧ w'.cell? ⟨w.heap.size, 2, none⟩ = some (.int .i64 b) ∧ w'.cell? ⟨X2.heap.size, 0, none⟩ = some (.int .i64 n) ∧ w'.cell? ⟨X2.heap.size, 1, none⟩ = some (.int .i64 k)) ((refine ⟨(Blk.cell (t := 35) (cs := #[.int .i64 z, .int .i64 (n + k), .int .i64 b]) ?qp 0), (Blk.cell ?qp 1), (Blk.cell ?qp 2), (Blk.cell (t := 88) (cs := #[.int .i64 n, .int .i64 k]) ?qt 0), (Blk.cell ?qt 1)⟩; (case qp => (exact blkBy)); (case qt => (exact blkBy)))) (fail)
    all_goals
      go_wp2
      ((try simp only [Exit.inBlock, Exit.then]); apply bodyPost_ret0; focus ((try simp only [results, Tryz.results104]); (try go_simp); (try rfl)))
      refine ⟨rfl, ?_⟩
      exact belBy
  · skip
    have e : takeB z n b k = decide (n + k ≤ b) := by simp [takeB, h1, h2]
    simp only [h3, decide_false] at e
    rw [e, pick_no, pick_no, pick_no]
    rw [h1] at hP
    have HP := hid hP
    clear hP e
    go_enter Tryz.func104, Tryz.ntmps104
    go_wp2_with (first | (go_at_call 65; refine (iWithin _ _ _ _).mono ?_; rintro e w' ⟨rfl, rfl⟩) | (go_at_call 73; refine (HP.out _).mono ?_; rintro e w1 ⟨rfl, hb1⟩; have sz := hb1.size; (try simp at sz); (first | (with_reducible refine use_topd hb1 ?_; intro zt ct ft kt; try simp only [World.size_alloc] at zt ct ft kt) | (with_reducible refine use_top hb1 ?_; intro zt ct ft kt; try simp only [World.size_alloc] at zt ct ft kt) | (with_reducible refine use_kept hb1 kt ?_; intro zt ct ft kt) | skip); obtain ⟨z1a, c1a, f1a, k1a⟩ := bfact hb1 (b := w.heap.size) (by exact blkBy); obtain ⟨z1b, c1b, f1b, k1b⟩ := bfact hb1 (b := w.heap.size + 1) (by exact blkBy); obtain ⟨z1c, c1c, f1c, k1c⟩ := bfact hb1 (b := w.heap.size + 1 + 1) (by exact blkBy)))
    ((try simp only [Exit.inBlock, Exit.then]); apply bodyPost_ret0; focus ((try simp only [results, Tryz.results104]); (try go_simp); (try rfl)))
    refine ⟨rfl, ?_⟩
    exact belBy
theorem iPoolCrash (z n b : Int) (w : World) :
    Calls Tryz.prog 87 #[.agg #[.int .i64 z, .int .i64 n, .int .i64 b]] w fun e w' => e = .returned (.agg #[.int .i64 z, .int .i64 (pick (poolOkB z n b) b n), .int .i64 b]) ∧ Below w.heap.size w w' := by
  have hP := iPoolOk z n b
  cases h1 : poolOkB z n b
  all_goals
    rw [h1] at hP
    first | rw [pick_yes] | rw [pick_no]
    have HP := hid hP
    clear hP
    go_enter Tryz.func87, Tryz.ntmps87
    go_wp2_with ((go_at_call 73; refine (HP.out _).mono ?_; rintro e w1 ⟨rfl, hb1⟩; have sz := hb1.size; (try simp at sz); (first | (with_reducible refine use_topd hb1 ?_; intro zt ct ft kt; try simp only [World.size_alloc] at zt ct ft kt) | (with_reducible refine use_top hb1 ?_; intro zt ct ft kt; try simp only [World.size_alloc] at zt ct ft kt) | (with_reducible refine use_kept hb1 kt ?_; intro zt ct ft kt) | skip); obtain ⟨z1a, c1a, f1a, k1a⟩ := bfact hb1 (b := w.heap.size) (by exact blkBy); obtain ⟨z1b, c1b, f1b, k1b⟩ := bfact hb1 (b := w.heap.size + 1) (by exact blkBy)))
    ((try simp only [Exit.inBlock, Exit.then]); apply bodyPost_ret0; focus ((try simp only [results, Tryz.results87]); (try go_simp); (try rfl)))
    refine ⟨rfl, ?_⟩
    exact belBy
set_option maxHeartbeats 1600000 in
theorem sPoolTake (z n b k : Int) (w : World) :
    Calls Tryz.prog 90 #[.agg #[.int .i64 z, .int .i64 n, .int .i64 b], .int .i64 k] w fun e w' => e = .returned (.tuple #[.agg #[.int .i64 z, .int .i64 (pick (takeB z n b k) (n + k) n), .int .i64 b], .agg #[.int .i64 (pick (takeB z n b k) n 0), .int .i64 (pick (takeB z n b k) k 0)], .bool (takeB z n b k)]) ∧ Below w.heap.size w w' := by
  have hP := sPoolOk z n b
  cases h1 : poolOkB z n b
  · skip
    have e : takeB z n b k = false := by simp [takeB, h1]
    rw [e, pick_no, pick_no, pick_no]
    rw [h1] at hP
    have HP := hid hP
    clear hP e
    go_enter Tryz.func90, Tryz.ntmps90
    go_wp2_with (first | (go_at_call 38; refine (sWithin _ _ _ _).mono ?_; rintro e w' ⟨rfl, rfl⟩) | (go_at_call 54; refine (HP.out _).mono ?_; rintro e w1 ⟨rfl, hb1⟩; have sz := hb1.size; (try simp at sz); (first | (with_reducible refine use_topd hb1 ?_; intro zt ct ft kt; try simp only [World.size_alloc] at zt ct ft kt) | (with_reducible refine use_top hb1 ?_; intro zt ct ft kt; try simp only [World.size_alloc] at zt ct ft kt) | (with_reducible refine use_kept hb1 kt ?_; intro zt ct ft kt) | skip); obtain ⟨z1a, c1a, f1a, k1a⟩ := bfact hb1 (b := w.heap.size) (by exact blkBy); obtain ⟨z1b, c1b, f1b, k1b⟩ := bfact hb1 (b := w.heap.size + 1) (by exact blkBy); obtain ⟨z1c, c1c, f1c, k1c⟩ := bfact hb1 (b := w.heap.size + 1 + 1) (by exact blkBy)))
    ((try simp only [Exit.inBlock, Exit.then]); apply bodyPost_ret0; focus ((try simp only [results, Tryz.results90]); (try go_simp); (try rfl)))
    refine ⟨rfl, ?_⟩
    exact belBy
  obtain ⟨p1, p2, p3, p4, p5⟩ := poolOk_iff.1 h1
  cases h2 : inB k 1 1000
  · skip
    have e : takeB z n b k = false := by simp [takeB, h2]
    rw [e, pick_no, pick_no, pick_no]
    rw [h1] at hP
    have HP := hid hP
    clear hP e
    go_enter Tryz.func90, Tryz.ntmps90
    go_wp2_with (first | (go_at_call 38; refine (sWithin _ _ _ _).mono ?_; rintro e w' ⟨rfl, rfl⟩) | (go_at_call 54; refine (HP.out _).mono ?_; rintro e w1 ⟨rfl, hb1⟩; have sz := hb1.size; (try simp at sz); (first | (with_reducible refine use_topd hb1 ?_; intro zt ct ft kt; try simp only [World.size_alloc] at zt ct ft kt) | (with_reducible refine use_top hb1 ?_; intro zt ct ft kt; try simp only [World.size_alloc] at zt ct ft kt) | (with_reducible refine use_kept hb1 kt ?_; intro zt ct ft kt) | skip); obtain ⟨z1a, c1a, f1a, k1a⟩ := bfact hb1 (b := w.heap.size) (by exact blkBy); obtain ⟨z1b, c1b, f1b, k1b⟩ := bfact hb1 (b := w.heap.size + 1) (by exact blkBy); obtain ⟨z1c, c1c, f1c, k1c⟩ := bfact hb1 (b := w.heap.size + 1 + 1) (by exact blkBy)))
    ((try simp only [Exit.inBlock, Exit.then]); apply bodyPost_ret0; focus ((try simp only [results, Tryz.results90]); (try go_simp); (try rfl)))
    refine ⟨rfl, ?_⟩
    exact belBy
  have h2' := inB_iff.1 h2
  by_cases h3 : n + k ≤ b
  · skip
    have e : takeB z n b k = decide (n + k ≤ b) := by simp [takeB, h1, h2]
    simp only [h3, decide_true] at e
    rw [e, pick_yes, pick_yes, pick_yes]
    rw [h1] at hP
    have HP := hid hP
    clear hP e
    go_enter Tryz.func90, Tryz.ntmps90
    have b_0 := (Below.refl w.heap.size w)
    have s_0 := b_0.size
    go_wp2_with fail
    refine calls_forget3 (W := w) (b0 := w.heap.size) (t0 := 35) (c0 := #[.int .i64 z, .int .i64 n, .int .i64 b]) (b1 := w.heap.size + 1) (t1 := 35) (c1 := #[.int .i64 0, .int .i64 0, .int .i64 0]) (b2 := w.heap.size + 1 + 1) (t2 := 88) (c2 := #[.int .i64 0, .int .i64 0]) ?_ ?_ ?_ ?_ ?_
    (focus exact blkcBy)
    (focus exact blkcBy)
    (focus exact blkcBy)
    (focus (exact belBy))
    intro X1 p_n r_n q_n hX1
    have sX1 := hX1.size
    have p_lt := p_n.lt
    have r_lt := r_n.lt
    have q_lt := q_n.lt
    refine (HP.out _).mono ?_
    rintro e w1 ⟨rfl, hb1⟩
    have s1 := hb1.size
    have hT1 := hX1.trans (hb1.mono sX1)
    have b_1 := b_0.trans (hT1.mono (by omega))
    have p_1 := Blk.past hb1 p_n
    have r_1 := Blk.past hb1 r_n
    have q_1 := Blk.past hb1 q_n
    clear b_0 p_n r_n q_n hX1 hT1 hb1
    have cell_p := p_1.cell
    have froz_p := p_1.frozen
    have lt_p := p_1.lt
    have cell_r := r_1.cell
    have froz_r := r_1.frozen
    have lt_r := r_1.lt
    have cell_q := q_1.cell
    have froz_q := q_1.frozen
    have lt_q := q_1.lt
    go_wp2_with fail
    refine calls_forget0 (W := w1) ?_ ?_
    (focus (exact belBy))
    intro X2 hX2
    have sX2 := hX2.size
    refine (sWithin _ _ _ _).mono ?_
    rintro e w' ⟨rfl, rfl⟩
    have b_2 := b_1.trans (hX2.mono (by omega))
    have p_2 := Blk.past hX2 p_1
    have r_2 := Blk.past hX2 r_1
    have q_2 := Blk.past hX2 q_1
    clear p_1 r_1 q_1 b_1 cell_p froz_p lt_p cell_r froz_r lt_r cell_q froz_q lt_q hX2
    have cell_p := p_2.cell
    have froz_p := p_2.frozen
    have lt_p := p_2.lt
    have cell_r := r_2.cell
    have froz_r := r_2.frozen
    have lt_r := r_2.lt
    have cell_q := q_2.cell
    have froz_q := q_2.frozen
    have lt_q := q_2.lt
    go_upto_region 5 with fail
    refine wp_touch2 (w0 := X2) (L := [w.heap.size]) (b0 := w.heap.size) (t0 := 35) (c0 := #[.int .i64 z, .int .i64 (n + k), .int .i64 b]) (b1 := X2.heap.size) (t1 := 88) (c1 := #[.int .i64 n, .int .i64 k]) ?_ ?_ ?_ ?_
    (focus exact blkcBy)
    (focus exact blkcBy)
    (focus (exact tchBy))
    intro w3 p_3 t_3 hX3
    have sX3 := hX3.size
    have t_lt := t_3.lt
    have b_3 := hX3.below b_2 (by first | (simp; done) | (simp; omega))
    have r_3 := Blk.touch hX3 r_2 (by first | (simp; done) | (simp; omega))
    have q_3 := Blk.touch hX3 q_2 (by first | (simp; done) | (simp; omega))
    clear p_2 r_2 q_2 b_2 cell_p froz_p lt_p cell_r froz_r lt_r cell_q froz_q lt_q hX3
    have cell_p := p_3.cell
    have froz_p := p_3.frozen
    have lt_p := p_3.lt
    have cell_r := r_3.cell
    have froz_r := r_3.frozen
    have lt_r := r_3.lt
    have cell_q := q_3.cell
    have froz_q := q_3.frozen
    have lt_q := q_3.lt
    have cell_t := t_3.cell
    have froz_t := t_3.frozen
    have lt_t := t_3.lt
    go_wp2_with fail
    go_wp2_with fail
    go_region_held3 (fun w' => w'.cell? ⟨w.heap.size, 0, none⟩ = some (.int .i64 z) ∧ w'.cell? ⟨w.heap.size, 1, none⟩ = some (.int .i64 (n + k)) ∧ w'.cell? ⟨w.heap.size, 2, none⟩ = some (.int .i64 b) ∧ w'.cell? ⟨X2.heap.size, 0, none⟩ = some (.int .i64 n) ∧ w'.cell? ⟨X2.heap.size, 1, none⟩ = some (.int .i64 k)) ((refine ⟨(Blk.cell (t := 35) (cs := #[.int .i64 z, .int .i64 (n + k), .int .i64 b]) ?qp 0), (Blk.cell ?qp 1), (Blk.cell ?qp 2), (Blk.cell (t := 88) (cs := #[.int .i64 n, .int .i64 k]) ?qt 0), (Blk.cell ?qt 1)⟩; (case qp => (exact blkBy)); (case qt => (exact blkBy)))) (fail)
    all_goals
      go_wp2
      ((try simp only [Exit.inBlock, Exit.then]); apply bodyPost_ret0; focus ((try simp only [results, Tryz.results90]); (try go_simp); (try rfl)))
      refine ⟨rfl, ?_⟩
      exact belBy
  · skip
    have e : takeB z n b k = decide (n + k ≤ b) := by simp [takeB, h1, h2]
    simp only [h3, decide_false] at e
    rw [e, pick_no, pick_no, pick_no]
    rw [h1] at hP
    have HP := hid hP
    clear hP e
    go_enter Tryz.func90, Tryz.ntmps90
    go_wp2_with (first | (go_at_call 38; refine (sWithin _ _ _ _).mono ?_; rintro e w' ⟨rfl, rfl⟩) | (go_at_call 54; refine (HP.out _).mono ?_; rintro e w1 ⟨rfl, hb1⟩; have sz := hb1.size; (try simp at sz); (first | (with_reducible refine use_topd hb1 ?_; intro zt ct ft kt; try simp only [World.size_alloc] at zt ct ft kt) | (with_reducible refine use_top hb1 ?_; intro zt ct ft kt; try simp only [World.size_alloc] at zt ct ft kt) | (with_reducible refine use_kept hb1 kt ?_; intro zt ct ft kt) | skip); obtain ⟨z1a, c1a, f1a, k1a⟩ := bfact hb1 (b := w.heap.size) (by exact blkBy); obtain ⟨z1b, c1b, f1b, k1b⟩ := bfact hb1 (b := w.heap.size + 1) (by exact blkBy); obtain ⟨z1c, c1c, f1c, k1c⟩ := bfact hb1 (b := w.heap.size + 1 + 1) (by exact blkBy)))
    ((try simp only [Exit.inBlock, Exit.then]); apply bodyPost_ret0; focus ((try simp only [results, Tryz.results90]); (try go_simp); (try rfl)))
    refine ⟨rfl, ?_⟩
    exact belBy
theorem sPoolCrash (z n b : Int) (w : World) :
    Calls Tryz.prog 76 #[.agg #[.int .i64 z, .int .i64 n, .int .i64 b]] w fun e w' => e = .returned (.agg #[.int .i64 z, .int .i64 (pick (poolOkB z n b) b n), .int .i64 b]) ∧ Below w.heap.size w w' := by
  have hP := sPoolOk z n b
  cases h1 : poolOkB z n b
  all_goals
    rw [h1] at hP
    first | rw [pick_yes] | rw [pick_no]
    have HP := hid hP
    clear hP
    go_enter Tryz.func76, Tryz.ntmps76
    go_wp2_with ((go_at_call 54; refine (HP.out _).mono ?_; rintro e w1 ⟨rfl, hb1⟩; have sz := hb1.size; (try simp at sz); (first | (with_reducible refine use_topd hb1 ?_; intro zt ct ft kt; try simp only [World.size_alloc] at zt ct ft kt) | (with_reducible refine use_top hb1 ?_; intro zt ct ft kt; try simp only [World.size_alloc] at zt ct ft kt) | (with_reducible refine use_kept hb1 kt ?_; intro zt ct ft kt) | skip); obtain ⟨z1a, c1a, f1a, k1a⟩ := bfact hb1 (b := w.heap.size) (by exact blkBy); obtain ⟨z1b, c1b, f1b, k1b⟩ := bfact hb1 (b := w.heap.size + 1) (by exact blkBy)))
    ((try simp only [Exit.inBlock, Exit.then]); apply bodyPost_ret0; focus ((try simp only [results, Tryz.results76]); (try go_simp); (try rfl)))
    refine ⟨rfl, ?_⟩
    exact belBy
end Go.Proofs.YtjknadnknainbaaGreatDoor
