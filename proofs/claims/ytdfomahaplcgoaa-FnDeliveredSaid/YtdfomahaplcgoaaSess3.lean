/- RecvFrame, in the program and in the reference. -/
import Derived.Test.YtdfomahaplcgoaaSess
namespace Go.Proofs.Ytdfomahaplcgoaa
open Go.RowKit

set_option maxHeartbeats 1600000 in
theorem iRecvFrame (k s g q b t : Int) (w : World) :
    Calls Try.prog 15 #[.agg #[.int .i64 k, .int .i64 s, .int .i64 g], .agg #[.int .i64 q, .int .i64 b, .int .i64 t]] w fun e w' =>
      e = .returned (.tuple #[.agg #[.int .i64 k, .int .i64 s, .int .i64 (pick (recvB k s g q b t) (g + 1) g)],
        .int .i64 (pick (recvB k s g q b t) b 0), .bool (recvB k s g q b t)]) ∧ Below w.heap.size w w' := by
  cases h1 : sessOkB k s g; rotate_left
  cases h3 : (g == 1000000)
  cases h4 : (q != g + 1)
  cases h2 : isWordB b; rotate_left
  cases h5 : (t != keyedI k q b)
  all_goals
    have hR : recvB k s g q b t = (sessOkB k s g && !(g == 1000000) && !(q != g + 1) && isWordB b && !(t != keyedI k q b)) := rfl
    try rw [h1] at hR
    try rw [h2] at hR
    try rw [h3] at hR
    try rw [h4] at hR
    try rw [h5] at hR
    simp at hR
    rw [hR]
    clear hR
    try (have hs : 0 ≤ g ∧ g ≤ 1000000 := by
          unfold sessOkB at h1; simp only [Bool.and_eq_true] at h1; exact inB_iff.1 h1.2)
    go_enter Try.func15, Try.ntmps15
    go_wp2_with fail
    apply wp_forget3 (b0 := w.heap.size) (b1 := w.heap.size + 1) (b2 := w.heap.size + 1 + 1) (w0 := w) (B := w.heap.size)
    focus (repeat (first | (with_reducible assumption) | (with_reducible apply Blk.drew) | (with_reducible apply Blk.new; first | rfl | (simp; done)) | (with_reducible apply Blk.alloc) | (with_reducible apply Blk.set_) | (with_reducible apply Blk.past; focus assumption) | (with_reducible apply Blk.far; focus (first | (simp; done) | (simp; omega) | (dsimp only; omega)))))
    focus (repeat (first | (with_reducible assumption) | (with_reducible apply Blk.drew) | (with_reducible apply Blk.new; first | rfl | (simp; done)) | (with_reducible apply Blk.alloc) | (with_reducible apply Blk.set_) | (with_reducible apply Blk.past; focus assumption) | (with_reducible apply Blk.far; focus (first | (simp; done) | (simp; omega) | (dsimp only; omega)))))
    focus (repeat (first | (with_reducible assumption) | (with_reducible apply Blk.drew) | (with_reducible apply Blk.new; first | rfl | (simp; done)) | (with_reducible apply Blk.alloc) | (with_reducible apply Blk.set_) | (with_reducible apply Blk.past; focus assumption) | (with_reducible apply Blk.far; focus (first | (simp; done) | (simp; omega) | (dsimp only; omega)))))
    focus (repeat (first | (with_reducible exact Below.refl _ _) | (with_reducible refine Below.trans ?_ (Below.mono (by assumption) (by first | omega | (simp; done) | (simp; omega) | (simp [*]; done)))) | (with_reducible refine Below.alloc ?_ (by first | omega | (simp; done) | (simp; omega) | (simp [*]; done)) _) | (with_reducible refine Below.setCell ?_ (by first | omega | (simp; done) | (simp; omega) | (simp [*]; done)) _) | (with_reducible refine Below.drew ?_)))
    intro W1 k0 k1 k2 hbW
    have c0 := k0.cell
    have f0 := k0.frozen
    have z0 := k0.lt
    have c1 := k1.cell
    have f1 := k1.frozen
    have z1 := k1.lt
    have c2 := k2.cell
    have f2 := k2.frozen
    have z2 := k2.lt
    have q0 := fun (x : Later W1) (o : Nat) => (k0.below x.below k0.lt).cell o
    have q1 := fun (x : Later W1) (o : Nat) => (k1.below x.below k1.lt).cell o
    have q2 := fun (x : Later W1) (o : Nat) => (k2.below x.below k2.lt).cell o
    refine wp_region_later (by kernel_rfl) (by kernel_rfl) ?_
    repeat (go_big_quiet_step (first | (go_at_call 44; exact Calls.later_same (iKeyed _ _ _ _)) | (go_at_call 22; exact Calls.later_same (iIsWord _ _)) | (go_at_call 16; exact Calls.later (iSessionOk _ _ _ _))))
    refine wpQuiet_nil ?_
    rintro _ ⟨⟨w1, hb1⟩, rfl⟩
    try dsimp only
    obtain ⟨z1a, c1a, f1a, k1a⟩ := bfact hb1 k0
    obtain ⟨z1b, c1b, f1b, k1b⟩ := bfact hb1 k1
    obtain ⟨z1c, c1c, f1c, k1c⟩ := bfact hb1 k2
    clear q0 q1 q2
    go_wp2
    try (go_region
         go_wp2)
    ((try simp only [Exit.inBlock, Exit.then]); apply bodyPost_ret0; focus ((try simp only [results, Try.results15]); (try go_simp); (try rfl)))
    refine ⟨rfl, ?_⟩
    repeat (first | (with_reducible exact Below.refl _ _) | (with_reducible refine Below.trans ?_ (Below.mono (by assumption) (by first | omega | (simp; done) | (simp; omega) | (simp [*]; done)))) | (with_reducible refine Below.alloc ?_ (by first | omega | (simp; done) | (simp; omega) | (simp [*]; done)) _) | (with_reducible refine Below.setCell ?_ (by first | omega | (simp; done) | (simp; omega) | (simp [*]; done)) _) | (with_reducible refine Below.drew ?_))
set_option maxHeartbeats 1600000 in
theorem sRecvFrame (k s g q b t : Int) (w : World) :
    Calls Try.prog 51 #[.agg #[.int .i64 k, .int .i64 s, .int .i64 g], .agg #[.int .i64 q, .int .i64 b, .int .i64 t]] w fun e w' =>
      e = .returned (.tuple #[.agg #[.int .i64 k, .int .i64 s, .int .i64 (pick (recvB k s g q b t) (g + 1) g)],
        .int .i64 (pick (recvB k s g q b t) b 0), .bool (recvB k s g q b t)]) ∧ Below w.heap.size w w' := by
  cases h1 : sessOkB k s g; rotate_left
  cases h3 : (g == 1000000)
  cases h4 : (q != g + 1)
  cases h2 : isWordB b; rotate_left
  cases h5 : (t != keyedI k q b)
  all_goals
    have hR : recvB k s g q b t = (sessOkB k s g && !(g == 1000000) && !(q != g + 1) && isWordB b && !(t != keyedI k q b)) := rfl
    try rw [h1] at hR
    try rw [h2] at hR
    try rw [h3] at hR
    try rw [h4] at hR
    try rw [h5] at hR
    simp at hR
    rw [hR]
    clear hR
    try (have hs : 0 ≤ g ∧ g ≤ 1000000 := by
          unfold sessOkB at h1; simp only [Bool.and_eq_true] at h1; exact inB_iff.1 h1.2)
    go_enter Try.func51, Try.ntmps51
    go_wp2_with fail
    apply wp_forget3 (b0 := w.heap.size) (b1 := w.heap.size + 1) (b2 := w.heap.size + 1 + 1) (w0 := w) (B := w.heap.size)
    focus (repeat (first | (with_reducible assumption) | (with_reducible apply Blk.drew) | (with_reducible apply Blk.new; first | rfl | (simp; done)) | (with_reducible apply Blk.alloc) | (with_reducible apply Blk.set_) | (with_reducible apply Blk.past; focus assumption) | (with_reducible apply Blk.far; focus (first | (simp; done) | (simp; omega) | (dsimp only; omega)))))
    focus (repeat (first | (with_reducible assumption) | (with_reducible apply Blk.drew) | (with_reducible apply Blk.new; first | rfl | (simp; done)) | (with_reducible apply Blk.alloc) | (with_reducible apply Blk.set_) | (with_reducible apply Blk.past; focus assumption) | (with_reducible apply Blk.far; focus (first | (simp; done) | (simp; omega) | (dsimp only; omega)))))
    focus (repeat (first | (with_reducible assumption) | (with_reducible apply Blk.drew) | (with_reducible apply Blk.new; first | rfl | (simp; done)) | (with_reducible apply Blk.alloc) | (with_reducible apply Blk.set_) | (with_reducible apply Blk.past; focus assumption) | (with_reducible apply Blk.far; focus (first | (simp; done) | (simp; omega) | (dsimp only; omega)))))
    focus (repeat (first | (with_reducible exact Below.refl _ _) | (with_reducible refine Below.trans ?_ (Below.mono (by assumption) (by first | omega | (simp; done) | (simp; omega) | (simp [*]; done)))) | (with_reducible refine Below.alloc ?_ (by first | omega | (simp; done) | (simp; omega) | (simp [*]; done)) _) | (with_reducible refine Below.setCell ?_ (by first | omega | (simp; done) | (simp; omega) | (simp [*]; done)) _) | (with_reducible refine Below.drew ?_)))
    intro W1 k0 k1 k2 hbW
    have c0 := k0.cell
    have f0 := k0.frozen
    have z0 := k0.lt
    have c1 := k1.cell
    have f1 := k1.frozen
    have z1 := k1.lt
    have c2 := k2.cell
    have f2 := k2.frozen
    have z2 := k2.lt
    have q0 := fun (x : Later W1) (o : Nat) => (k0.below x.below k0.lt).cell o
    have q1 := fun (x : Later W1) (o : Nat) => (k1.below x.below k1.lt).cell o
    have q2 := fun (x : Later W1) (o : Nat) => (k2.below x.below k2.lt).cell o
    refine wp_region_later (by kernel_rfl) (by kernel_rfl) ?_
    repeat (go_big_quiet_step (first | (go_at_call 62; exact Calls.later_same (sKeyed _ _ _ _)) | (go_at_call 60; exact Calls.later_same (sIsWord _ _)) | (go_at_call 61; exact Calls.later (sSessionOk _ _ _ _))))
    refine wpQuiet_nil ?_
    rintro _ ⟨⟨w1, hb1⟩, rfl⟩
    try dsimp only
    obtain ⟨z1a, c1a, f1a, k1a⟩ := bfact hb1 k0
    obtain ⟨z1b, c1b, f1b, k1b⟩ := bfact hb1 k1
    obtain ⟨z1c, c1c, f1c, k1c⟩ := bfact hb1 k2
    clear q0 q1 q2
    go_wp2
    try (go_region
         go_wp2)
    ((try simp only [Exit.inBlock, Exit.then]); apply bodyPost_ret0; focus ((try simp only [results, Try.results51]); (try go_simp); (try rfl)))
    refine ⟨rfl, ?_⟩
    repeat (first | (with_reducible exact Below.refl _ _) | (with_reducible refine Below.trans ?_ (Below.mono (by assumption) (by first | omega | (simp; done) | (simp; omega) | (simp [*]; done)))) | (with_reducible refine Below.alloc ?_ (by first | omega | (simp; done) | (simp; omega) | (simp [*]; done)) _) | (with_reducible refine Below.setCell ?_ (by first | omega | (simp; done) | (simp; omega) | (simp [*]; done)) _) | (with_reducible refine Below.drew ?_))
end Go.Proofs.Ytdfomahaplcgoaa
