/- Taking from a pool and the crash, in the program and in the reference. -/
import Derived.Test.YtcdodfekclkonaaDoorPool2
namespace Go.Proofs.YtcdodfekclkonaaDoor
open Go.RowKit

set_option maxHeartbeats 1600000 in
theorem iPoolTake (z n b k : Int) (w : World) :
    Calls Tryd.prog 38 #[.agg #[.int .i64 z, .int .i64 n, .int .i64 b], .int .i64 k] w fun e w' => e = .returned (.tuple #[.agg #[.int .i64 z, .int .i64 (pick (takeB z n b k) (n + k) n), .int .i64 b], .agg #[.int .i64 (pick (takeB z n b k) n 0), .int .i64 (pick (takeB z n b k) k 0)], .bool (takeB z n b k)]) ∧ Below w.heap.size w w' := by
  have hP := iPoolOk z n b
  cases h1 : poolOkB z n b
  · skip
    have e : takeB z n b k = false := by simp [takeB, h1]
    rw [e, pick_no, pick_no, pick_no]
    rw [h1] at hP
    have HP := hid hP
    clear hP e
    go_enter Tryd.func38, Tryd.ntmps38
    go_wp2_with (first | (go_at_call 29; refine (iWithin _ _ _ _).mono ?_; rintro e w' ⟨rfl, rfl⟩) | (go_at_call 27; refine (HP.out _).mono ?_; rintro e w1 ⟨rfl, hb1⟩; have sz := hb1.size; (try simp at sz); (first | (with_reducible refine use_topd hb1 ?_; intro zt ct ft kt; try simp only [World.size_alloc] at zt ct ft kt) | (with_reducible refine use_top hb1 ?_; intro zt ct ft kt; try simp only [World.size_alloc] at zt ct ft kt) | (with_reducible refine use_kept hb1 kt ?_; intro zt ct ft kt) | skip); obtain ⟨z1a, c1a, f1a, k1a⟩ := bfact hb1 (b := w.heap.size) (by repeat (first | (with_reducible assumption) | (with_reducible apply Blk.drew) | (with_reducible apply Blk.drewN) | (with_reducible apply Blk.new; first | rfl | (simp; done)) | (with_reducible apply Blk.alloc) | (with_reducible apply Blk.set_) | (with_reducible apply Blk.past; focus assumption) | (with_reducible apply Blk.far; focus (first | (simp; done) | (simp; omega) | (dsimp only; omega))))); obtain ⟨z1b, c1b, f1b, k1b⟩ := bfact hb1 (b := w.heap.size + 1) (by repeat (first | (with_reducible assumption) | (with_reducible apply Blk.drew) | (with_reducible apply Blk.drewN) | (with_reducible apply Blk.new; first | rfl | (simp; done)) | (with_reducible apply Blk.alloc) | (with_reducible apply Blk.set_) | (with_reducible apply Blk.past; focus assumption) | (with_reducible apply Blk.far; focus (first | (simp; done) | (simp; omega) | (dsimp only; omega))))); obtain ⟨z1c, c1c, f1c, k1c⟩ := bfact hb1 (b := w.heap.size + 1 + 1) (by repeat (first | (with_reducible assumption) | (with_reducible apply Blk.drew) | (with_reducible apply Blk.drewN) | (with_reducible apply Blk.new; first | rfl | (simp; done)) | (with_reducible apply Blk.alloc) | (with_reducible apply Blk.set_) | (with_reducible apply Blk.past; focus assumption) | (with_reducible apply Blk.far; focus (first | (simp; done) | (simp; omega) | (dsimp only; omega)))))))
    ((try simp only [Exit.inBlock, Exit.then]); apply bodyPost_ret0; focus ((try simp only [results, Tryd.results38]); (try go_simp); (try rfl)))
    refine ⟨rfl, ?_⟩
    repeat (first | (with_reducible exact Below.refl _ _) | (with_reducible refine Below.trans ?_ (Below.mono (by assumption) (by first | omega | (simp; done) | (simp; omega) | (simp [*]; done)))) | (with_reducible refine Below.alloc ?_ (by first | omega | (simp; done) | (simp; omega) | (simp [*]; done)) _) | (with_reducible refine Below.setCell ?_ (by first | omega | (simp; done) | (simp; omega) | (simp [*]; done)) _) | (with_reducible refine Below.drew ?_) | (with_reducible refine below_drewN ?_))
  obtain ⟨p1, p2, p3, p4, p5⟩ := poolOk_iff.1 h1
  cases h2 : inB k 1 1000
  · skip
    have e : takeB z n b k = false := by simp [takeB, h2]
    rw [e, pick_no, pick_no, pick_no]
    rw [h1] at hP
    have HP := hid hP
    clear hP e
    go_enter Tryd.func38, Tryd.ntmps38
    go_wp2_with (first | (go_at_call 29; refine (iWithin _ _ _ _).mono ?_; rintro e w' ⟨rfl, rfl⟩) | (go_at_call 27; refine (HP.out _).mono ?_; rintro e w1 ⟨rfl, hb1⟩; have sz := hb1.size; (try simp at sz); (first | (with_reducible refine use_topd hb1 ?_; intro zt ct ft kt; try simp only [World.size_alloc] at zt ct ft kt) | (with_reducible refine use_top hb1 ?_; intro zt ct ft kt; try simp only [World.size_alloc] at zt ct ft kt) | (with_reducible refine use_kept hb1 kt ?_; intro zt ct ft kt) | skip); obtain ⟨z1a, c1a, f1a, k1a⟩ := bfact hb1 (b := w.heap.size) (by repeat (first | (with_reducible assumption) | (with_reducible apply Blk.drew) | (with_reducible apply Blk.drewN) | (with_reducible apply Blk.new; first | rfl | (simp; done)) | (with_reducible apply Blk.alloc) | (with_reducible apply Blk.set_) | (with_reducible apply Blk.past; focus assumption) | (with_reducible apply Blk.far; focus (first | (simp; done) | (simp; omega) | (dsimp only; omega))))); obtain ⟨z1b, c1b, f1b, k1b⟩ := bfact hb1 (b := w.heap.size + 1) (by repeat (first | (with_reducible assumption) | (with_reducible apply Blk.drew) | (with_reducible apply Blk.drewN) | (with_reducible apply Blk.new; first | rfl | (simp; done)) | (with_reducible apply Blk.alloc) | (with_reducible apply Blk.set_) | (with_reducible apply Blk.past; focus assumption) | (with_reducible apply Blk.far; focus (first | (simp; done) | (simp; omega) | (dsimp only; omega))))); obtain ⟨z1c, c1c, f1c, k1c⟩ := bfact hb1 (b := w.heap.size + 1 + 1) (by repeat (first | (with_reducible assumption) | (with_reducible apply Blk.drew) | (with_reducible apply Blk.drewN) | (with_reducible apply Blk.new; first | rfl | (simp; done)) | (with_reducible apply Blk.alloc) | (with_reducible apply Blk.set_) | (with_reducible apply Blk.past; focus assumption) | (with_reducible apply Blk.far; focus (first | (simp; done) | (simp; omega) | (dsimp only; omega)))))))
    ((try simp only [Exit.inBlock, Exit.then]); apply bodyPost_ret0; focus ((try simp only [results, Tryd.results38]); (try go_simp); (try rfl)))
    refine ⟨rfl, ?_⟩
    repeat (first | (with_reducible exact Below.refl _ _) | (with_reducible refine Below.trans ?_ (Below.mono (by assumption) (by first | omega | (simp; done) | (simp; omega) | (simp [*]; done)))) | (with_reducible refine Below.alloc ?_ (by first | omega | (simp; done) | (simp; omega) | (simp [*]; done)) _) | (with_reducible refine Below.setCell ?_ (by first | omega | (simp; done) | (simp; omega) | (simp [*]; done)) _) | (with_reducible refine Below.drew ?_) | (with_reducible refine below_drewN ?_))
  have h2' := inB_iff.1 h2
  by_cases h3 : n + k ≤ b
  · skip
    have e : takeB z n b k = decide (n + k ≤ b) := by simp [takeB, h1, h2]
    simp only [h3, decide_true] at e
    rw [e, pick_yes, pick_yes, pick_yes]
    rw [h1] at hP
    have HP := hid hP
    clear hP e
    go_enter Tryd.func38, Tryd.ntmps38
    have b_0 := (Below.refl w.heap.size w)
    have s_0 := b_0.size
    go_wp2_with fail
    refine calls_forget3 (W := w) (b0 := w.heap.size) (t0 := 30) (c0 := #[.int .i64 z, .int .i64 n, .int .i64 b]) (b1 := w.heap.size + 1) (t1 := 30) (c1 := #[.int .i64 0, .int .i64 0, .int .i64 0]) (b2 := w.heap.size + 1 + 1) (t2 := 69) (c2 := #[.int .i64 0, .int .i64 0]) ?_ ?_ ?_ ?_ ?_
    (focus (first | ((repeat (first | (with_reducible assumption) | (with_reducible apply Blk.drew) | (with_reducible apply Blk.drewN) | (with_reducible apply Blk.new; first | rfl | (simp; done)) | (with_reducible apply Blk.alloc) | (with_reducible apply Blk.set_) | (with_reducible apply Blk.past; focus assumption) | (with_reducible apply Blk.far; focus (first | (simp; done) | (simp; omega) | (dsimp only; omega))))); done) | (apply Blk.cast; (case h => (repeat (first | (with_reducible assumption) | (with_reducible apply Blk.drew) | (with_reducible apply Blk.drewN) | (with_reducible apply Blk.new; first | rfl | (simp; done)) | (with_reducible apply Blk.alloc) | (with_reducible apply Blk.set_) | (with_reducible apply Blk.past; focus assumption) | (with_reducible apply Blk.far; focus (first | (simp; done) | (simp; omega) | (dsimp only; omega)))))); (case e => rfl))))
    (focus (first | ((repeat (first | (with_reducible assumption) | (with_reducible apply Blk.drew) | (with_reducible apply Blk.drewN) | (with_reducible apply Blk.new; first | rfl | (simp; done)) | (with_reducible apply Blk.alloc) | (with_reducible apply Blk.set_) | (with_reducible apply Blk.past; focus assumption) | (with_reducible apply Blk.far; focus (first | (simp; done) | (simp; omega) | (dsimp only; omega))))); done) | (apply Blk.cast; (case h => (repeat (first | (with_reducible assumption) | (with_reducible apply Blk.drew) | (with_reducible apply Blk.drewN) | (with_reducible apply Blk.new; first | rfl | (simp; done)) | (with_reducible apply Blk.alloc) | (with_reducible apply Blk.set_) | (with_reducible apply Blk.past; focus assumption) | (with_reducible apply Blk.far; focus (first | (simp; done) | (simp; omega) | (dsimp only; omega)))))); (case e => rfl))))
    (focus (first | ((repeat (first | (with_reducible assumption) | (with_reducible apply Blk.drew) | (with_reducible apply Blk.drewN) | (with_reducible apply Blk.new; first | rfl | (simp; done)) | (with_reducible apply Blk.alloc) | (with_reducible apply Blk.set_) | (with_reducible apply Blk.past; focus assumption) | (with_reducible apply Blk.far; focus (first | (simp; done) | (simp; omega) | (dsimp only; omega))))); done) | (apply Blk.cast; (case h => (repeat (first | (with_reducible assumption) | (with_reducible apply Blk.drew) | (with_reducible apply Blk.drewN) | (with_reducible apply Blk.new; first | rfl | (simp; done)) | (with_reducible apply Blk.alloc) | (with_reducible apply Blk.set_) | (with_reducible apply Blk.past; focus assumption) | (with_reducible apply Blk.far; focus (first | (simp; done) | (simp; omega) | (dsimp only; omega)))))); (case e => rfl))))
    (focus (repeat (first | (with_reducible exact Below.refl _ _) | (with_reducible refine Below.trans ?_ (Below.mono (by assumption) (by first | omega | (simp; done) | (simp; omega) | (simp [*]; done)))) | (with_reducible refine Below.alloc ?_ (by first | omega | (simp; done) | (simp; omega) | (simp [*]; done)) _) | (with_reducible refine Below.setCell ?_ (by first | omega | (simp; done) | (simp; omega) | (simp [*]; done)) _) | (with_reducible refine Below.drew ?_) | (with_reducible refine below_drewN ?_))))
    intro X1 p_n r_n q_n hX1
    have sX1 := hX1.size
    have p_lt := p_n.lt
    have r_lt := r_n.lt
    have q_lt := q_n.lt
    refine (HP.out _).mono ?_
    rintro e w1 ⟨rfl, hb1⟩
    have s1 := hb1.size
    have hT1 := hX1.trans (hb1.mono sX1)
    have b_1 := b_0.trans (hT1.mono (by omega))
    have p_1 := Blk.past hb1 p_n
    have r_1 := Blk.past hb1 r_n
    have q_1 := Blk.past hb1 q_n
    clear b_0 p_n r_n q_n hX1 hT1 hb1
    have cell_p := p_1.cell
    have froz_p := p_1.frozen
    have lt_p := p_1.lt
    have cell_r := r_1.cell
    have froz_r := r_1.frozen
    have lt_r := r_1.lt
    have cell_q := q_1.cell
    have froz_q := q_1.frozen
    have lt_q := q_1.lt
    go_wp2_with fail
    refine calls_forget0 (W := w1) ?_ ?_
    (focus (repeat (first | (with_reducible exact Below.refl _ _) | (with_reducible refine Below.trans ?_ (Below.mono (by assumption) (by first | omega | (simp; done) | (simp; omega) | (simp [*]; done)))) | (with_reducible refine Below.alloc ?_ (by first | omega | (simp; done) | (simp; omega) | (simp [*]; done)) _) | (with_reducible refine Below.setCell ?_ (by first | omega | (simp; done) | (simp; omega) | (simp [*]; done)) _) | (with_reducible refine Below.drew ?_) | (with_reducible refine below_drewN ?_))))
    intro X2 hX2
    have sX2 := hX2.size
    refine (iWithin _ _ _ _).mono ?_
    rintro e w' ⟨rfl, rfl⟩
    have b_2 := b_1.trans (hX2.mono (by omega))
    have p_2 := Blk.past hX2 p_1
    have r_2 := Blk.past hX2 r_1
    have q_2 := Blk.past hX2 q_1
    clear p_1 r_1 q_1 b_1 cell_p froz_p lt_p cell_r froz_r lt_r cell_q froz_q lt_q hX2
    have cell_p := p_2.cell
    have froz_p := p_2.frozen
    have lt_p := p_2.lt
    have cell_r := r_2.cell
    have froz_r := r_2.frozen
    have lt_r := r_2.lt
    have cell_q := q_2.cell
    have froz_q := q_2.frozen
    have lt_q := q_2.lt
    go_upto_region 5 with fail
    refine wp_touch2 (w0 := X2) (L := [w.heap.size]) (b0 := w.heap.size) (t0 := 30) (c0 := #[.int .i64 z, .int .i64 (n + k), .int .i64 b]) (b1 := X2.heap.size) (t1 := 69) (c1 := #[.int .i64 n, .int .i64 k]) ?_ ?_ ?_ ?_
    (focus (first | ((repeat (first | (with_reducible assumption) | (with_reducible apply Blk.drew) | (with_reducible apply Blk.drewN) | (with_reducible apply Blk.new; first | rfl | (simp; done)) | (with_reducible apply Blk.alloc) | (with_reducible apply Blk.set_) | (with_reducible apply Blk.past; focus assumption) | (with_reducible apply Blk.far; focus (first | (simp; done) | (simp; omega) | (dsimp only; omega))))); done) | (apply Blk.cast; (case h => (repeat (first | (with_reducible assumption) | (with_reducible apply Blk.drew) | (with_reducible apply Blk.drewN) | (with_reducible apply Blk.new; first | rfl | (simp; done)) | (with_reducible apply Blk.alloc) | (with_reducible apply Blk.set_) | (with_reducible apply Blk.past; focus assumption) | (with_reducible apply Blk.far; focus (first | (simp; done) | (simp; omega) | (dsimp only; omega)))))); (case e => rfl))))
    (focus (first | ((repeat (first | (with_reducible assumption) | (with_reducible apply Blk.drew) | (with_reducible apply Blk.drewN) | (with_reducible apply Blk.new; first | rfl | (simp; done)) | (with_reducible apply Blk.alloc) | (with_reducible apply Blk.set_) | (with_reducible apply Blk.past; focus assumption) | (with_reducible apply Blk.far; focus (first | (simp; done) | (simp; omega) | (dsimp only; omega))))); done) | (apply Blk.cast; (case h => (repeat (first | (with_reducible assumption) | (with_reducible apply Blk.drew) | (with_reducible apply Blk.drewN) | (with_reducible apply Blk.new; first | rfl | (simp; done)) | (with_reducible apply Blk.alloc) | (with_reducible apply Blk.set_) | (with_reducible apply Blk.past; focus assumption) | (with_reducible apply Blk.far; focus (first | (simp; done) | (simp; omega) | (dsimp only; omega)))))); (case e => rfl))))
    (focus (repeat (first | (with_reducible exact Touch.refl _ _) | (with_reducible assumption) | (with_reducible apply Touch.drew) | (with_reducible apply Touch.drewN) | (with_reducible apply Touch.alloc) | (with_reducible refine Touch.set_ ?_ _ _ (by simp; done)) | (with_reducible refine Touch.set_new ?_ _ _ (by first | omega | (simp; omega) | (dsimp only; omega))))))
    intro w3 p_3 t_3 hX3
    have sX3 := hX3.size
    have t_lt := t_3.lt
    have b_3 := hX3.below b_2 (by first | (simp; done) | (simp; omega))
    have r_3 := Blk.touch hX3 r_2 (by first | (simp; done) | (simp; omega))
    have q_3 := Blk.touch hX3 q_2 (by first | (simp; done) | (simp; omega))
    clear p_2 r_2 q_2 b_2 cell_p froz_p lt_p cell_r froz_r lt_r cell_q froz_q lt_q hX3
    have cell_p := p_3.cell
    have froz_p := p_3.frozen
    have lt_p := p_3.lt
    have cell_r := r_3.cell
    have froz_r := r_3.frozen
    have lt_r := r_3.lt
    have cell_q := q_3.cell
    have froz_q := q_3.frozen
    have lt_q := q_3.lt
    have cell_t := t_3.cell
    have froz_t := t_3.frozen
    have lt_t := t_3.lt
    go_wp2_with fail
    go_wp2_with fail
    go_region_held3 (fun w' => w'.cell? ⟨w.heap.size, 0, none⟩ = some (.int .i64 z) ∧ w'.cell? ⟨w.heap.size, 1, none⟩ = some (.int .i64 (n + k)) ∧ w'.cell? ⟨w.heap.size, 2, none⟩ = some (.int .i64 b) ∧ w'.cell? ⟨X2.heap.size, 0, none⟩ = some (.int .i64 n) ∧ w'.cell? ⟨X2.heap.size, 1, none⟩ = some (.int .i64 k)) (exact ⟨(Blk.cell (t := 30) (cs := #[.int .i64 z, .int .i64 (n + k), .int .i64 b]) (by repeat (first | (with_reducible assumption) | (with_reducible apply Blk.drew) | (with_reducible apply Blk.drewN) | (with_reducible apply Blk.new; first | rfl | (simp; done)) | (with_reducible apply Blk.alloc) | (with_reducible apply Blk.set_) | (with_reducible apply Blk.past; focus assumption) | (with_reducible apply Blk.far; focus (first | (simp; done) | (simp; omega) | (dsimp only; omega))))) 0), (Blk.cell (t := 30) (cs := #[.int .i64 z, .int .i64 (n + k), .int .i64 b]) (by repeat (first | (with_reducible assumption) | (with_reducible apply Blk.drew) | (with_reducible apply Blk.drewN) | (with_reducible apply Blk.new; first | rfl | (simp; done)) | (with_reducible apply Blk.alloc) | (with_reducible apply Blk.set_) | (with_reducible apply Blk.past; focus assumption) | (with_reducible apply Blk.far; focus (first | (simp; done) | (simp; omega) | (dsimp only; omega))))) 1), (Blk.cell (t := 30) (cs := #[.int .i64 z, .int .i64 (n + k), .int .i64 b]) (by repeat (first | (with_reducible assumption) | (with_reducible apply Blk.drew) | (with_reducible apply Blk.drewN) | (with_reducible apply Blk.new; first | rfl | (simp; done)) | (with_reducible apply Blk.alloc) | (with_reducible apply Blk.set_) | (with_reducible apply Blk.past; focus assumption) | (with_reducible apply Blk.far; focus (first | (simp; done) | (simp; omega) | (dsimp only; omega))))) 2), (Blk.cell (t := 69) (cs := #[.int .i64 n, .int .i64 k]) (by repeat (first | (with_reducible assumption) | (with_reducible apply Blk.drew) | (with_reducible apply Blk.drewN) | (with_reducible apply Blk.new; first | rfl | (simp; done)) | (with_reducible apply Blk.alloc) | (with_reducible apply Blk.set_) | (with_reducible apply Blk.past; focus assumption) | (with_reducible apply Blk.far; focus (first | (simp; done) | (simp; omega) | (dsimp only; omega))))) 0), (Blk.cell (t := 69) (cs := #[.int .i64 n, .int .i64 k]) (by repeat (first | (with_reducible assumption) | (with_reducible apply Blk.drew) | (with_reducible apply Blk.drewN) | (with_reducible apply Blk.new; first | rfl | (simp; done)) | (with_reducible apply Blk.alloc) | (with_reducible apply Blk.set_) | (with_reducible apply Blk.past; focus assumption) | (with_reducible apply Blk.far; focus (first | (simp; done) | (simp; omega) | (dsimp only; omega))))) 1)⟩) (fail)
    all_goals
      go_wp2
      ((try simp only [Exit.inBlock, Exit.then]); apply bodyPost_ret0; focus ((try simp only [results, Tryd.results38]); (try go_simp); (try rfl)))
      refine ⟨rfl, ?_⟩
      repeat (first | (with_reducible exact Below.refl _ _) | (with_reducible refine Below.trans ?_ (Below.mono (by assumption) (by first | omega | (simp; done) | (simp; omega) | (simp [*]; done)))) | (with_reducible refine Below.alloc ?_ (by first | omega | (simp; done) | (simp; omega) | (simp [*]; done)) _) | (with_reducible refine Below.setCell ?_ (by first | omega | (simp; done) | (simp; omega) | (simp [*]; done)) _) | (with_reducible refine Below.drew ?_) | (with_reducible refine below_drewN ?_))
  · skip
    have e : takeB z n b k = decide (n + k ≤ b) := by simp [takeB, h1, h2]
    simp only [h3, decide_false] at e
    rw [e, pick_no, pick_no, pick_no]
    rw [h1] at hP
    have HP := hid hP
    clear hP e
    go_enter Tryd.func38, Tryd.ntmps38
    go_wp2_with (first | (go_at_call 29; refine (iWithin _ _ _ _).mono ?_; rintro e w' ⟨rfl, rfl⟩) | (go_at_call 27; refine (HP.out _).mono ?_; rintro e w1 ⟨rfl, hb1⟩; have sz := hb1.size; (try simp at sz); (first | (with_reducible refine use_topd hb1 ?_; intro zt ct ft kt; try simp only [World.size_alloc] at zt ct ft kt) | (with_reducible refine use_top hb1 ?_; intro zt ct ft kt; try simp only [World.size_alloc] at zt ct ft kt) | (with_reducible refine use_kept hb1 kt ?_; intro zt ct ft kt) | skip); obtain ⟨z1a, c1a, f1a, k1a⟩ := bfact hb1 (b := w.heap.size) (by repeat (first | (with_reducible assumption) | (with_reducible apply Blk.drew) | (with_reducible apply Blk.drewN) | (with_reducible apply Blk.new; first | rfl | (simp; done)) | (with_reducible apply Blk.alloc) | (with_reducible apply Blk.set_) | (with_reducible apply Blk.past; focus assumption) | (with_reducible apply Blk.far; focus (first | (simp; done) | (simp; omega) | (dsimp only; omega))))); obtain ⟨z1b, c1b, f1b, k1b⟩ := bfact hb1 (b := w.heap.size + 1) (by repeat (first | (with_reducible assumption) | (with_reducible apply Blk.drew) | (with_reducible apply Blk.drewN) | (with_reducible apply Blk.new; first | rfl | (simp; done)) | (with_reducible apply Blk.alloc) | (with_reducible apply Blk.set_) | (with_reducible apply Blk.past; focus assumption) | (with_reducible apply Blk.far; focus (first | (simp; done) | (simp; omega) | (dsimp only; omega))))); obtain ⟨z1c, c1c, f1c, k1c⟩ := bfact hb1 (b := w.heap.size + 1 + 1) (by repeat (first | (with_reducible assumption) | (with_reducible apply Blk.drew) | (with_reducible apply Blk.drewN) | (with_reducible apply Blk.new; first | rfl | (simp; done)) | (with_reducible apply Blk.alloc) | (with_reducible apply Blk.set_) | (with_reducible apply Blk.past; focus assumption) | (with_reducible apply Blk.far; focus (first | (simp; done) | (simp; omega) | (dsimp only; omega)))))))
    ((try simp only [Exit.inBlock, Exit.then]); apply bodyPost_ret0; focus ((try simp only [results, Tryd.results38]); (try go_simp); (try rfl)))
    refine ⟨rfl, ?_⟩
    repeat (first | (with_reducible exact Below.refl _ _) | (with_reducible refine Below.trans ?_ (Below.mono (by assumption) (by first | omega | (simp; done) | (simp; omega) | (simp [*]; done)))) | (with_reducible refine Below.alloc ?_ (by first | omega | (simp; done) | (simp; omega) | (simp [*]; done)) _) | (with_reducible refine Below.setCell ?_ (by first | omega | (simp; done) | (simp; omega) | (simp [*]; done)) _) | (with_reducible refine Below.drew ?_) | (with_reducible refine below_drewN ?_))
theorem iPoolCrash (z n b : Int) (w : World) :
    Calls Tryd.prog 35 #[.agg #[.int .i64 z, .int .i64 n, .int .i64 b]] w fun e w' => e = .returned (.agg #[.int .i64 z, .int .i64 (pick (poolOkB z n b) b n), .int .i64 b]) ∧ Below w.heap.size w w' := by
  have hP := iPoolOk z n b
  cases h1 : poolOkB z n b
  all_goals
    rw [h1] at hP
    first | rw [pick_yes] | rw [pick_no]
    have HP := hid hP
    clear hP
    go_enter Tryd.func35, Tryd.ntmps35
    go_wp2_with ((go_at_call 27; refine (HP.out _).mono ?_; rintro e w1 ⟨rfl, hb1⟩; have sz := hb1.size; (try simp at sz); (first | (with_reducible refine use_topd hb1 ?_; intro zt ct ft kt; try simp only [World.size_alloc] at zt ct ft kt) | (with_reducible refine use_top hb1 ?_; intro zt ct ft kt; try simp only [World.size_alloc] at zt ct ft kt) | (with_reducible refine use_kept hb1 kt ?_; intro zt ct ft kt) | skip); obtain ⟨z1a, c1a, f1a, k1a⟩ := bfact hb1 (b := w.heap.size) (by repeat (first | (with_reducible assumption) | (with_reducible apply Blk.drew) | (with_reducible apply Blk.drewN) | (with_reducible apply Blk.new; first | rfl | (simp; done)) | (with_reducible apply Blk.alloc) | (with_reducible apply Blk.set_) | (with_reducible apply Blk.past; focus assumption) | (with_reducible apply Blk.far; focus (first | (simp; done) | (simp; omega) | (dsimp only; omega))))); obtain ⟨z1b, c1b, f1b, k1b⟩ := bfact hb1 (b := w.heap.size + 1) (by repeat (first | (with_reducible assumption) | (with_reducible apply Blk.drew) | (with_reducible apply Blk.drewN) | (with_reducible apply Blk.new; first | rfl | (simp; done)) | (with_reducible apply Blk.alloc) | (with_reducible apply Blk.set_) | (with_reducible apply Blk.past; focus assumption) | (with_reducible apply Blk.far; focus (first | (simp; done) | (simp; omega) | (dsimp only; omega)))))))
    ((try simp only [Exit.inBlock, Exit.then]); apply bodyPost_ret0; focus ((try simp only [results, Tryd.results35]); (try go_simp); (try rfl)))
    refine ⟨rfl, ?_⟩
    repeat (first | (with_reducible exact Below.refl _ _) | (with_reducible refine Below.trans ?_ (Below.mono (by assumption) (by first | omega | (simp; done) | (simp; omega) | (simp [*]; done)))) | (with_reducible refine Below.alloc ?_ (by first | omega | (simp; done) | (simp; omega) | (simp [*]; done)) _) | (with_reducible refine Below.setCell ?_ (by first | omega | (simp; done) | (simp; omega) | (simp [*]; done)) _) | (with_reducible refine Below.drew ?_) | (with_reducible refine below_drewN ?_))
end Go.Proofs.YtcdodfekclkonaaDoor
