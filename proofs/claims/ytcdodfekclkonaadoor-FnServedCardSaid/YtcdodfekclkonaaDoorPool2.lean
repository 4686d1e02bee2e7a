/- Pools and tickets, in the program and in the reference. -/
import Derived.Test.YtcdodfekclkonaaDoorPool
namespace Go.Proofs.YtcdodfekclkonaaDoor
open Go.RowKit

theorem iPoolReserve (z n b k : Int) (w : World) :
    Calls Tryd.prog 22 #[.agg #[.int .i64 z, .int .i64 n, .int .i64 b], .int .i64 k] w fun e w' => e = .returned (.tuple #[.agg #[.int .i64 z, .int .i64 n, .int .i64 (pick (resB z n b k) (b + k) b)], .bool (resB z n b k)]) ∧ Below w.heap.size w w' := by
  have hP := iPoolOk z n b
  cases h1 : poolOkB z n b
  · skip
    have e : resB z n b k = false := by simp [resB, h1]
    rw [e, pick_no]
    rw [h1] at hP
    have HP := hid hP
    clear hP e
    go_enter Tryd.func22, Tryd.ntmps22
    go_wp2_with (first | (go_at_call 29; refine (iWithin _ _ _ _).mono ?_; rintro e w' ⟨rfl, rfl⟩) | (go_at_call 27; refine (HP.out _).mono ?_; rintro e w1 ⟨rfl, hb1⟩; have sz := hb1.size; (try simp at sz); (first | (with_reducible refine use_topd hb1 ?_; intro zt ct ft kt; try simp only [World.size_alloc] at zt ct ft kt) | (with_reducible refine use_top hb1 ?_; intro zt ct ft kt; try simp only [World.size_alloc] at zt ct ft kt) | (with_reducible refine use_kept hb1 kt ?_; intro zt ct ft kt) | skip); obtain ⟨z1a, c1a, f1a, k1a⟩ := bfact hb1 (b := w.heap.size) (by repeat (first | (with_reducible assumption) | (with_reducible apply Blk.drew) | (with_reducible apply Blk.drewN) | (with_reducible apply Blk.new; first | rfl | (simp; done)) | (with_reducible apply Blk.alloc) | (with_reducible apply Blk.set_) | (with_reducible apply Blk.past; focus assumption) | (with_reducible apply Blk.far; focus (first | (simp; done) | (simp; omega) | (dsimp only; omega)))))))
    ((try simp only [Exit.inBlock, Exit.then]); apply bodyPost_ret0; focus ((try simp only [results, Tryd.results22]); (try go_simp); (try rfl)))
    refine ⟨rfl, ?_⟩
    repeat (first | (with_reducible exact Below.refl _ _) | (with_reducible refine Below.trans ?_ (Below.mono (by assumption) (by first | omega | (simp; done) | (simp; omega) | (simp [*]; done)))) | (with_reducible refine Below.alloc ?_ (by first | omega | (simp; done) | (simp; omega) | (simp [*]; done)) _) | (with_reducible refine Below.setCell ?_ (by first | omega | (simp; done) | (simp; omega) | (simp [*]; done)) _) | (with_reducible refine Below.drew ?_) | (with_reducible refine below_drewN ?_))
  obtain ⟨p1, p2, p3, p4, p5⟩ := poolOk_iff.1 h1
  cases h2 : inB k 1 1000
  · skip
    have e : resB z n b k = false := by simp [resB, h2]
    rw [e, pick_no]
    rw [h1] at hP
    have HP := hid hP
    clear hP e
    go_enter Tryd.func22, Tryd.ntmps22
    go_wp2_with (first | (go_at_call 29; refine (iWithin _ _ _ _).mono ?_; rintro e w' ⟨rfl, rfl⟩) | (go_at_call 27; refine (HP.out _).mono ?_; rintro e w1 ⟨rfl, hb1⟩; have sz := hb1.size; (try simp at sz); (first | (with_reducible refine use_topd hb1 ?_; intro zt ct ft kt; try simp only [World.size_alloc] at zt ct ft kt) | (with_reducible refine use_top hb1 ?_; intro zt ct ft kt; try simp only [World.size_alloc] at zt ct ft kt) | (with_reducible refine use_kept hb1 kt ?_; intro zt ct ft kt) | skip); obtain ⟨z1a, c1a, f1a, k1a⟩ := bfact hb1 (b := w.heap.size) (by repeat (first | (with_reducible assumption) | (with_reducible apply Blk.drew) | (with_reducible apply Blk.drewN) | (with_reducible apply Blk.new; first | rfl | (simp; done)) | (with_reducible apply Blk.alloc) | (with_reducible apply Blk.set_) | (with_reducible apply Blk.past; focus assumption) | (with_reducible apply Blk.far; focus (first | (simp; done) | (simp; omega) | (dsimp only; omega)))))))
    ((try simp only [Exit.inBlock, Exit.then]); apply bodyPost_ret0; focus ((try simp only [results, Tryd.results22]); (try go_simp); (try rfl)))
    refine ⟨rfl, ?_⟩
    repeat (first | (with_reducible exact Below.refl _ _) | (with_reducible refine Below.trans ?_ (Below.mono (by assumption) (by first | omega | (simp; done) | (simp; omega) | (simp [*]; done)))) | (with_reducible refine Below.alloc ?_ (by first | omega | (simp; done) | (simp; omega) | (simp [*]; done)) _) | (with_reducible refine Below.setCell ?_ (by first | omega | (simp; done) | (simp; omega) | (simp [*]; done)) _) | (with_reducible refine Below.drew ?_) | (with_reducible refine below_drewN ?_))
  have h2' := inB_iff.1 h2
  by_cases h3 : b + k ≤ z
  all_goals
    have e : resB z n b k = decide (b + k ≤ z) := by simp [resB, h1, h2]
    simp only [h3, decide_true, decide_false] at e
    rw [e]
    rw [h1] at hP
    have HP := hid hP
    clear hP e
    go_enter Tryd.func22, Tryd.ntmps22
    go_wp2_with (first | (go_at_call 29; refine (iWithin _ _ _ _).mono ?_; rintro e w' ⟨rfl, rfl⟩) | (go_at_call 27; refine (HP.out _).mono ?_; rintro e w1 ⟨rfl, hb1⟩; have sz := hb1.size; (try simp at sz); (first | (with_reducible refine use_topd hb1 ?_; intro zt ct ft kt; try simp only [World.size_alloc] at zt ct ft kt) | (with_reducible refine use_top hb1 ?_; intro zt ct ft kt; try simp only [World.size_alloc] at zt ct ft kt) | (with_reducible refine use_kept hb1 kt ?_; intro zt ct ft kt) | skip); obtain ⟨z1a, c1a, f1a, k1a⟩ := bfact hb1 (b := w.heap.size) (by repeat (first | (with_reducible assumption) | (with_reducible apply Blk.drew) | (with_reducible apply Blk.drewN) | (with_reducible apply Blk.new; first | rfl | (simp; done)) | (with_reducible apply Blk.alloc) | (with_reducible apply Blk.set_) | (with_reducible apply Blk.past; focus assumption) | (with_reducible apply Blk.far; focus (first | (simp; done) | (simp; omega) | (dsimp only; omega)))))))
    ((try simp only [Exit.inBlock, Exit.then]); apply bodyPost_ret0; focus ((try simp only [results, Tryd.results22]); (try go_simp); (try rfl)))
    refine ⟨rfl, ?_⟩
    repeat (first | (with_reducible exact Below.refl _ _) | (with_reducible refine Below.trans ?_ (Below.mono (by assumption) (by first | omega | (simp; done) | (simp; omega) | (simp [*]; done)))) | (with_reducible refine Below.alloc ?_ (by first | omega | (simp; done) | (simp; omega) | (simp [*]; done)) _) | (with_reducible refine Below.setCell ?_ (by first | omega | (simp; done) | (simp; omega) | (simp [*]; done)) _) | (with_reducible refine Below.drew ?_) | (with_reducible refine below_drewN ?_))
end Go.Proofs.YtcdodfekclkonaaDoor
