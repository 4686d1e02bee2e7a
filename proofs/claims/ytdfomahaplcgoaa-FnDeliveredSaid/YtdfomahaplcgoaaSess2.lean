/- SendFrame and RecvFrame, in the program and in the reference. -/
import Derived.Test.YtdfomahaplcgoaaSess
namespace Go.Proofs.Ytdfomahaplcgoaa
open Go.RowKit

set_option maxHeartbeats 1600000 in
theorem iSendFrame (k s g b : Int) (w : World) :
    Calls Try.prog 14 #[.agg #[.int .i64 k, .int .i64 s, .int .i64 g], .int .i64 b] w fun e w' =>
      e = .returned (.tuple #[.agg #[.int .i64 k, .int .i64 (pick (sendB k s g b) (s + 1) s), .int .i64 g],
        .agg #[.int .i64 (pick (sendB k s g b) (s + 1) 0), .int .i64 (pick (sendB k s g b) b 0), .int .i64 (pick (sendB k s g b) (keyedI k (s + 1) b) 0)], .bool (sendB k s g b)]) ∧ Below w.heap.size w w' := by
  cases h1 : sessOkB k s g; rotate_left
  cases h2 : isWordB b; rotate_left
  cases h3 : (s == 1000000)
  all_goals
    have hR : sendB k s g b = (sessOkB k s g && isWordB b && !(s == 1000000)) := rfl
    try rw [h1] at hR
    try rw [h2] at hR
    try rw [h3] at hR
    simp at hR
    rw [hR]
    clear hR
    try (have hs : 0 ≤ s ∧ s ≤ 1000000 := by
          unfold sessOkB at h1; simp only [Bool.and_eq_true] at h1; exact inB_iff.1 h1.1.2)
    go_enter Try.func14, Try.ntmps14
    go_wp2_with (first | (go_at_call 22; refine (iIsWord _ _).mono ?_; rintro e w' ⟨rfl, rfl⟩) | (go_at_call 16; refine (iSessionOk _ _ _ _).mono ?_; rintro e w1 ⟨rfl, hb1⟩; obtain ⟨z1a, c1a, f1a, k1a⟩ := bfact hb1 (b := w.heap.size) (by repeat (first | (with_reducible assumption) | (with_reducible apply Blk.drew) | (with_reducible apply Blk.new; first | rfl | (simp; done)) | (with_reducible apply Blk.alloc) | (with_reducible apply Blk.set_) | (with_reducible apply Blk.past; focus assumption) | (with_reducible apply Blk.far; focus (first | (simp; done) | (simp; omega) | (dsimp only; omega))))); obtain ⟨z1b, c1b, f1b, k1b⟩ := bfact hb1 (b := w.heap.size + 1) (by repeat (first | (with_reducible assumption) | (with_reducible apply Blk.drew) | (with_reducible apply Blk.new; first | rfl | (simp; done)) | (with_reducible apply Blk.alloc) | (with_reducible apply Blk.set_) | (with_reducible apply Blk.past; focus assumption) | (with_reducible apply Blk.far; focus (first | (simp; done) | (simp; omega) | (dsimp only; omega))))); obtain ⟨z1c, c1c, f1c, k1c⟩ := bfact hb1 (b := w.heap.size + 1 + 1) (by repeat (first | (with_reducible assumption) | (with_reducible apply Blk.drew) | (with_reducible apply Blk.new; first | rfl | (simp; done)) | (with_reducible apply Blk.alloc) | (with_reducible apply Blk.set_) | (with_reducible apply Blk.past; focus assumption) | (with_reducible apply Blk.far; focus (first | (simp; done) | (simp; omega) | (dsimp only; omega)))))))
    first
    | (((try simp only [Exit.inBlock, Exit.then]); apply bodyPost_ret0; focus ((try simp only [results, Try.results14]); (try go_simp); (try rfl)))
       refine ⟨rfl, ?_⟩
       repeat (first | (with_reducible exact Below.refl _ _) | (with_reducible refine Below.trans ?_ (Below.mono (by assumption) (by first | omega | (simp; done) | (simp; omega) | (simp [*]; done)))) | (with_reducible refine Below.alloc ?_ (by first | omega | (simp; done) | (simp; omega) | (simp [*]; done)) _) | (with_reducible refine Below.setCell ?_ (by first | omega | (simp; done) | (simp; omega) | (simp [*]; done)) _) | (with_reducible refine Below.drew ?_)))
    | (go_region_held3 (fun w' => w'.cell? ⟨w.heap.size, 0, none⟩ = some (.int .i64 k) ∧ w'.cell? ⟨w.heap.size, 1, none⟩ = some (.int .i64 (s + 1)) ∧ w'.cell? ⟨w.heap.size, 2, none⟩ = some (.int .i64 g)) (refine ⟨by go_simp, by go_simp, by go_simp⟩) (first | (go_at_call 44; refine (iKeyed _ _ _ _).mono ?_; rintro e w' ⟨rfl, rfl⟩))
       all_goals
         go_wp2
         ((try simp only [Exit.inBlock, Exit.then]); apply bodyPost_ret0; focus ((try simp only [results, Try.results14]); (try go_simp); (try rfl)))
         refine ⟨rfl, ?_⟩
         repeat (first | (with_reducible exact Below.refl _ _) | (with_reducible refine Below.trans ?_ (Below.mono (by assumption) (by first | omega | (simp; done) | (simp; omega) | (simp [*]; done)))) | (with_reducible refine Below.alloc ?_ (by first | omega | (simp; done) | (simp; omega) | (simp [*]; done)) _) | (with_reducible refine Below.setCell ?_ (by first | omega | (simp; done) | (simp; omega) | (simp [*]; done)) _) | (with_reducible refine Below.drew ?_)))
set_option maxHeartbeats 1600000 in
theorem sSendFrame (k s g b : Int) (w : World) :
    Calls Try.prog 49 #[.agg #[.int .i64 k, .int .i64 s, .int .i64 g], .int .i64 b] w fun e w' =>
      e = .returned (.tuple #[.agg #[.int .i64 k, .int .i64 (pick (sendB k s g b) (s + 1) s), .int .i64 g],
        .agg #[.int .i64 (pick (sendB k s g b) (s + 1) 0), .int .i64 (pick (sendB k s g b) b 0), .int .i64 (pick (sendB k s g b) (keyedI k (s + 1) b) 0)], .bool (sendB k s g b)]) ∧ Below w.heap.size w w' := by
  cases h1 : sessOkB k s g; rotate_left
  cases h2 : isWordB b; rotate_left
  cases h3 : (s == 1000000)
  all_goals
    have hR : sendB k s g b = (sessOkB k s g && isWordB b && !(s == 1000000)) := rfl
    try rw [h1] at hR
    try rw [h2] at hR
    try rw [h3] at hR
    simp at hR
    rw [hR]
    clear hR
    try (have hs : 0 ≤ s ∧ s ≤ 1000000 := by
          unfold sessOkB at h1; simp only [Bool.and_eq_true] at h1; exact inB_iff.1 h1.1.2)
    go_enter Try.func49, Try.ntmps49
    go_wp2_with (first | (go_at_call 60; refine (sIsWord _ _).mono ?_; rintro e w' ⟨rfl, rfl⟩) | (go_at_call 61; refine (sSessionOk _ _ _ _).mono ?_; rintro e w1 ⟨rfl, hb1⟩; obtain ⟨z1a, c1a, f1a, k1a⟩ := bfact hb1 (b := w.heap.size) (by repeat (first | (with_reducible assumption) | (with_reducible apply Blk.drew) | (with_reducible apply Blk.new; first | rfl | (simp; done)) | (with_reducible apply Blk.alloc) | (with_reducible apply Blk.set_) | (with_reducible apply Blk.past; focus assumption) | (with_reducible apply Blk.far; focus (first | (simp; done) | (simp; omega) | (dsimp only; omega))))); obtain ⟨z1b, c1b, f1b, k1b⟩ := bfact hb1 (b := w.heap.size + 1) (by repeat (first | (with_reducible assumption) | (with_reducible apply Blk.drew) | (with_reducible apply Blk.new; first | rfl | (simp; done)) | (with_reducible apply Blk.alloc) | (with_reducible apply Blk.set_) | (with_reducible apply Blk.past; focus assumption) | (with_reducible apply Blk.far; focus (first | (simp; done) | (simp; omega) | (dsimp only; omega))))); obtain ⟨z1c, c1c, f1c, k1c⟩ := bfact hb1 (b := w.heap.size + 1 + 1) (by repeat (first | (with_reducible assumption) | (with_reducible apply Blk.drew) | (with_reducible apply Blk.new; first | rfl | (simp; done)) | (with_reducible apply Blk.alloc) | (with_reducible apply Blk.set_) | (with_reducible apply Blk.past; focus assumption) | (with_reducible apply Blk.far; focus (first | (simp; done) | (simp; omega) | (dsimp only; omega)))))))
    first
    | (((try simp only [Exit.inBlock, Exit.then]); apply bodyPost_ret0; focus ((try simp only [results, Try.results49]); (try go_simp); (try rfl)))
       refine ⟨rfl, ?_⟩
       repeat (first | (with_reducible exact Below.refl _ _) | (with_reducible refine Below.trans ?_ (Below.mono (by assumption) (by first | omega | (simp; done) | (simp; omega) | (simp [*]; done)))) | (with_reducible refine Below.alloc ?_ (by first | omega | (simp; done) | (simp; omega) | (simp [*]; done)) _) | (with_reducible refine Below.setCell ?_ (by first | omega | (simp; done) | (simp; omega) | (simp [*]; done)) _) | (with_reducible refine Below.drew ?_)))
    | (go_region_held3 (fun w' => w'.cell? ⟨w.heap.size, 0, none⟩ = some (.int .i64 k) ∧ w'.cell? ⟨w.heap.size, 1, none⟩ = some (.int .i64 (s + 1)) ∧ w'.cell? ⟨w.heap.size, 2, none⟩ = some (.int .i64 g)) (refine ⟨by go_simp, by go_simp, by go_simp⟩) (first | (go_at_call 62; refine (sKeyed _ _ _ _).mono ?_; rintro e w' ⟨rfl, rfl⟩))
       all_goals
         go_wp2
         ((try simp only [Exit.inBlock, Exit.then]); apply bodyPost_ret0; focus ((try simp only [results, Try.results49]); (try go_simp); (try rfl)))
         refine ⟨rfl, ?_⟩
         repeat (first | (with_reducible exact Below.refl _ _) | (with_reducible refine Below.trans ?_ (Below.mono (by assumption) (by first | omega | (simp; done) | (simp; omega) | (simp [*]; done)))) | (with_reducible refine Below.alloc ?_ (by first | omega | (simp; done) | (simp; omega) | (simp [*]; done)) _) | (with_reducible refine Below.setCell ?_ (by first | omega | (simp; done) | (simp; omega) | (simp [*]; done)) _) | (with_reducible refine Below.drew ?_)))
end Go.Proofs.Ytdfomahaplcgoaa
