/- The walks of the sessions' and vaults' functions, in the program and in the reference. -/
import Derived.Test.YtdfomahaplcgoaaWord
import Derived.Outline
import Derived.Deep.RegionHeld3
namespace Go.Proofs.Ytdfomahaplcgoaa
open Go.RowKit

theorem iSessionOk (k s g : Int) (w : World) :
    Calls Try.prog 16 #[.agg #[.int .i64 k, .int .i64 s, .int .i64 g]] w fun e w' => e = .returned (.bool (sessOkB k s g)) ∧ Below w.heap.size w w' := by
  cases h1 : isWordB k; rotate_left
  cases h2 : inB s 0 1000000; rotate_left
  cases h3 : inB g 0 1000000
  all_goals
    have hR : sessOkB k s g = (isWordB k && inB s 0 1000000 && inB g 0 1000000) := rfl
    try rw [h1] at hR
    try rw [h2] at hR
    try rw [h3] at hR
    simp at hR
    rw [hR]
    clear hR
    go_enter Try.func16, Try.ntmps16
    go_wp2_with (first | (go_at_call 45; refine (iWithin _ _ _ _).mono ?_; rintro e w' ⟨rfl, rfl⟩) | (go_at_call 22; refine (iIsWord _ _).mono ?_; rintro e w' ⟨rfl, rfl⟩))
    go_ret
    refine ⟨rfl, ?_⟩
    repeat (first | (with_reducible exact Below.refl _ _) | (with_reducible refine Below.trans ?_ (Below.mono (by assumption) (by first | omega | (simp; done) | (simp; omega) | (simp [*]; done)))) | (with_reducible refine Below.alloc ?_ (by first | omega | (simp; done) | (simp; omega) | (simp [*]; done)) _) | (with_reducible refine Below.setCell ?_ (by first | omega | (simp; done) | (simp; omega) | (simp [*]; done)) _) | (with_reducible refine Below.drew ?_))
theorem iVaultOk (k n : Int) (w : World) :
    Calls Try.prog 27 #[.agg #[.int .i64 k, .int .i64 n]] w fun e w' => e = .returned (.bool (vaultOkB k n)) ∧ Below w.heap.size w w' := by
  cases h1 : isWordB k; rotate_left
  cases h2 : inB n 0 100000
  all_goals
    have hR : vaultOkB k n = (isWordB k && inB n 0 100000) := rfl
    try rw [h1] at hR
    try rw [h2] at hR
    simp at hR
    rw [hR]
    clear hR
    go_enter Try.func27, Try.ntmps27
    go_wp2_with (first | (go_at_call 45; refine (iWithin _ _ _ _).mono ?_; rintro e w' ⟨rfl, rfl⟩) | (go_at_call 22; refine (iIsWord _ _).mono ?_; rintro e w' ⟨rfl, rfl⟩))
    go_ret
    refine ⟨rfl, ?_⟩
    repeat (first | (with_reducible exact Below.refl _ _) | (with_reducible refine Below.trans ?_ (Below.mono (by assumption) (by first | omega | (simp; done) | (simp; omega) | (simp [*]; done)))) | (with_reducible refine Below.alloc ?_ (by first | omega | (simp; done) | (simp; omega) | (simp [*]; done)) _) | (with_reducible refine Below.setCell ?_ (by first | omega | (simp; done) | (simp; omega) | (simp [*]; done)) _) | (with_reducible refine Below.drew ?_))
theorem iSessionNew (k : Int) (w : World) :
    Calls Try.prog 13 #[.int .i64 k] w fun e w' => e = .returned (.tuple #[.agg #[.int .i64 (pick (isWordB k) k 0), .int .i64 0, .int .i64 0], .bool (isWordB k)]) ∧ Below w.heap.size w w' := by
  cases h1 : isWordB k
  all_goals
    go_enter Try.func13, Try.ntmps13
    go_wp2_with (go_at_call 22; refine (iIsWord _ _).mono ?_; rintro e w' ⟨rfl, rfl⟩)
    go_returns
    refine ⟨rfl, ?_⟩
    repeat (first | (with_reducible exact Below.refl _ _) | (with_reducible refine Below.trans ?_ (Below.mono (by assumption) (by first | omega | (simp; done) | (simp; omega) | (simp [*]; done)))) | (with_reducible refine Below.alloc ?_ (by first | omega | (simp; done) | (simp; omega) | (simp [*]; done)) _) | (with_reducible refine Below.setCell ?_ (by first | omega | (simp; done) | (simp; omega) | (simp [*]; done)) _) | (with_reducible refine Below.drew ?_))
theorem iResume (k s g n : Int) (w : World) :
    Calls Try.prog 17 #[.agg #[.int .i64 k, .int .i64 s, .int .i64 g], .int .i64 n] w fun e w' =>
      e = .returned (.tuple #[.agg #[.int .i64 k, .int .i64 (pick (resumeB k s g n) n s), .int .i64 g], .bool (resumeB k s g n)]) ∧ Below w.heap.size w w' := by
  cases h1 : sessOkB k s g; rotate_left
  cases h2 : inB n 0 s
  all_goals
    have hR : resumeB k s g n = (sessOkB k s g && inB n 0 s) := rfl
    try rw [h1] at hR
    try rw [h2] at hR
    simp at hR
    rw [hR]
    clear hR
    go_enter Try.func17, Try.ntmps17
    go_wp2_with (first | (go_at_call 45; refine (iWithin _ _ _ _).mono ?_; rintro e w' ⟨rfl, rfl⟩) | (go_at_call 16; refine (iSessionOk _ _ _ _).mono ?_; rintro e w1 ⟨rfl, hb1⟩; obtain ⟨z1a, c1a, f1a, k1a⟩ := bfact hb1 (b := w.heap.size) (by repeat (first | (with_reducible assumption) | (with_reducible apply Blk.drew) | (with_reducible apply Blk.new; first | rfl | (simp; done)) | (with_reducible apply Blk.alloc) | (with_reducible apply Blk.set_) | (with_reducible apply Blk.past; focus assumption) | (with_reducible apply Blk.far; focus (first | (simp; done) | (simp; omega) | (dsimp only; omega))))); obtain ⟨z1b, c1b, f1b, k1b⟩ := bfact hb1 (b := w.heap.size + 1) (by repeat (first | (with_reducible assumption) | (with_reducible apply Blk.drew) | (with_reducible apply Blk.new; first | rfl | (simp; done)) | (with_reducible apply Blk.alloc) | (with_reducible apply Blk.set_) | (with_reducible apply Blk.past; focus assumption) | (with_reducible apply Blk.far; focus (first | (simp; done) | (simp; omega) | (dsimp only; omega)))))))
    ((try simp only [Exit.inBlock, Exit.then]); apply bodyPost_ret0; focus ((try simp only [results, Try.results17]); (try go_simp); (try rfl)))
    refine ⟨rfl, ?_⟩
    repeat (first | (with_reducible exact Below.refl _ _) | (with_reducible refine Below.trans ?_ (Below.mono (by assumption) (by first | omega | (simp; done) | (simp; omega) | (simp [*]; done)))) | (with_reducible refine Below.alloc ?_ (by first | omega | (simp; done) | (simp; omega) | (simp [*]; done)) _) | (with_reducible refine Below.setCell ?_ (by first | omega | (simp; done) | (simp; omega) | (simp [*]; done)) _) | (with_reducible refine Below.drew ?_))
theorem sSessionOk (k s g : Int) (w : World) :
    Calls Try.prog 61 #[.agg #[.int .i64 k, .int .i64 s, .int .i64 g]] w fun e w' => e = .returned (.bool (sessOkB k s g)) ∧ Below w.heap.size w w' := by
  cases h1 : isWordB k; rotate_left
  cases h2 : inB s 0 1000000; rotate_left
  cases h3 : inB g 0 1000000
  all_goals
    have hR : sessOkB k s g = (isWordB k && inB s 0 1000000 && inB g 0 1000000) := rfl
    try rw [h1] at hR
    try rw [h2] at hR
    try rw [h3] at hR
    simp at hR
    rw [hR]
    clear hR
    go_enter Try.func61, Try.ntmps61
    go_wp2_with (first | (go_at_call 50; refine (sWithin _ _ _ _).mono ?_; rintro e w' ⟨rfl, rfl⟩) | (go_at_call 60; refine (sIsWord _ _).mono ?_; rintro e w' ⟨rfl, rfl⟩))
    go_ret
    refine ⟨rfl, ?_⟩
    repeat (first | (with_reducible exact Below.refl _ _) | (with_reducible refine Below.trans ?_ (Below.mono (by assumption) (by first | omega | (simp; done) | (simp; omega) | (simp [*]; done)))) | (with_reducible refine Below.alloc ?_ (by first | omega | (simp; done) | (simp; omega) | (simp [*]; done)) _) | (with_reducible refine Below.setCell ?_ (by first | omega | (simp; done) | (simp; omega) | (simp [*]; done)) _) | (with_reducible refine Below.drew ?_))
theorem sVaultOk (k n : Int) (w : World) :
    Calls Try.prog 53 #[.agg #[.int .i64 k, .int .i64 n]] w fun e w' => e = .returned (.bool (vaultOkB k n)) ∧ Below w.heap.size w w' := by
  cases h1 : isWordB k; rotate_left
  cases h2 : inB n 0 100000
  all_goals
    have hR : vaultOkB k n = (isWordB k && inB n 0 100000) := rfl
    try rw [h1] at hR
    try rw [h2] at hR
    simp at hR
    rw [hR]
    clear hR
    go_enter Try.func53, Try.ntmps53
    go_wp2_with (first | (go_at_call 50; refine (sWithin _ _ _ _).mono ?_; rintro e w' ⟨rfl, rfl⟩) | (go_at_call 60; refine (sIsWord _ _).mono ?_; rintro e w' ⟨rfl, rfl⟩))
    go_ret
    refine ⟨rfl, ?_⟩
    repeat (first | (with_reducible exact Below.refl _ _) | (with_reducible refine Below.trans ?_ (Below.mono (by assumption) (by first | omega | (simp; done) | (simp; omega) | (simp [*]; done)))) | (with_reducible refine Below.alloc ?_ (by first | omega | (simp; done) | (simp; omega) | (simp [*]; done)) _) | (with_reducible refine Below.setCell ?_ (by first | omega | (simp; done) | (simp; omega) | (simp [*]; done)) _) | (with_reducible refine Below.drew ?_))
theorem sSessionNew (k : Int) (w : World) :
    Calls Try.prog 48 #[.int .i64 k] w fun e w' => e = .returned (.tuple #[.agg #[.int .i64 (pick (isWordB k) k 0), .int .i64 0, .int .i64 0], .bool (isWordB k)]) ∧ Below w.heap.size w w' := by
  cases h1 : isWordB k
  all_goals
    go_enter Try.func48, Try.ntmps48
    go_wp2_with (go_at_call 60; refine (sIsWord _ _).mono ?_; rintro e w' ⟨rfl, rfl⟩)
    go_returns
    refine ⟨rfl, ?_⟩
    repeat (first | (with_reducible exact Below.refl _ _) | (with_reducible refine Below.trans ?_ (Below.mono (by assumption) (by first | omega | (simp; done) | (simp; omega) | (simp [*]; done)))) | (with_reducible refine Below.alloc ?_ (by first | omega | (simp; done) | (simp; omega) | (simp [*]; done)) _) | (with_reducible refine Below.setCell ?_ (by first | omega | (simp; done) | (simp; omega) | (simp [*]; done)) _) | (with_reducible refine Below.drew ?_))
end Go.Proofs.Ytdfomahaplcgoaa
