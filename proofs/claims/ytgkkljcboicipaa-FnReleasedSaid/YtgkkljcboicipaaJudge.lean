/- Expected messages, in the program and in the reference. -/
import Derived.Test.YtgkkljcboicipaaTape
namespace Go.Proofs.Ytgkkljcboicipaa
open Go.RowKit

noncomputable def expI (p s f r : Int) : Int := pick (msgB p s f r) (belowI s r p) 0
set_option maxHeartbeats 1600000 in
theorem iExpectedMsg (p s f r : Int) (w : World) :
    Calls Try.prog 12 #[.int .i64 p, .int .i64 s, .int .i64 f, .int .i64 r] w fun e w' =>
      e = .returned (.tuple #[.agg #[.int .i64 (pick (msgB p s f r) f 0), .int .i64 (pick (msgB p s f r) r 0), .int .i64 (expI p s f r)], .bool (msgB p s f r)]) ∧ Below w.heap.size w w' := by
  unfold expI
  cases h0 : fieldOkB p; rotate_left
  cases h1 : isWordB s; rotate_left
  cases h2 : inB f 0 4; rotate_left
  cases h3 : inB r 0 11
  rotate_left
  · skip
    have hR : msgB p s f r = (fieldOkB p && isWordB s && inB f 0 4 && inB r 0 11) := rfl
    try rw [h0] at hR
    try rw [h1] at hR
    try rw [h2] at hR
    try rw [h3] at hR
    simp at hR
    rw [hR]
    clear hR
    go_enter Try.func12, Try.ntmps12
    go_wp2_with (first | (go_at_call 38; refine (iFieldOk _ _).mono ?_; rintro e w' ⟨rfl, rfl⟩) | (go_at_call 39; refine (iIsWord _ _).mono ?_; rintro e w' ⟨rfl, rfl⟩) | (go_at_call 40; refine (iWithin _ _ _ _).mono ?_; rintro e w' ⟨rfl, rfl⟩))
    have b_0 := (Below.refl w.heap.size w)
    have s_0 := b_0.size
    go_wp2_with fail
    refine calls_forget1 (W := w) (b0 := w.heap.size) (t0 := 23) (c0 := #[.int .i64 0, .int .i64 0, .int .i64 0]) ?_ ?_ ?_
    (focus (first | ((repeat (first | (with_reducible assumption) | (with_reducible apply Blk.drew) | (with_reducible apply Blk.drewN) | (with_reducible apply Blk.new; first | rfl | (simp; done)) | (with_reducible apply Blk.alloc) | (with_reducible apply Blk.set_) | (with_reducible apply Blk.past; focus assumption) | (with_reducible apply Blk.far; focus (first | (simp; done) | (simp; omega) | (dsimp only; omega))))); done) | (apply Blk.cast; (case h => (repeat (first | (with_reducible assumption) | (with_reducible apply Blk.drew) | (with_reducible apply Blk.drewN) | (with_reducible apply Blk.new; first | rfl | (simp; done)) | (with_reducible apply Blk.alloc) | (with_reducible apply Blk.set_) | (with_reducible apply Blk.past; focus assumption) | (with_reducible apply Blk.far; focus (first | (simp; done) | (simp; omega) | (dsimp only; omega)))))); (case e => rfl))))
    (focus (repeat (first | (with_reducible exact Below.refl _ _) | (with_reducible refine Below.trans ?_ (Below.mono (by assumption) (by first | omega | (simp; done) | (simp; omega) | (simp [*]; done)))) | (with_reducible refine Below.alloc ?_ (by first | omega | (simp; done) | (simp; omega) | (simp [*]; done)) _) | (with_reducible refine Below.setCell ?_ (by first | omega | (simp; done) | (simp; omega) | (simp [*]; done)) _) | (with_reducible refine Below.drew ?_) | (with_reducible refine below_drewN ?_))))
    intro X1 m_n hX1
    have sX1 := hX1.size
    have m_lt := m_n.lt
    refine (iTapeBelow _ _ _ _).mono ?_
    rintro e w1 ⟨rfl, hb1⟩
    have s1 := hb1.size
    have hT1 := hX1.trans (hb1.mono sX1)
    have b_1 := b_0.trans (hT1.mono (by omega))
    have m_1 := Blk.past hb1 m_n
    clear b_0 m_n hX1 hT1 hb1
    have cell_m := m_1.cell
    have froz_m := m_1.frozen
    have lt_m := m_1.lt
    go_wp2_with fail
    ((try simp only [Exit.inBlock, Exit.then]); apply bodyPost_ret0; focus ((try simp only [results, Try.results12]); (try go_simp); (try rfl)))
    refine ⟨rfl, ?_⟩
    repeat (first | (with_reducible exact Below.refl _ _) | (with_reducible refine Below.trans ?_ (Below.mono (by assumption) (by first | omega | (simp; done) | (simp; omega) | (simp [*]; done)))) | (with_reducible refine Below.alloc ?_ (by first | omega | (simp; done) | (simp; omega) | (simp [*]; done)) _) | (with_reducible refine Below.setCell ?_ (by first | omega | (simp; done) | (simp; omega) | (simp [*]; done)) _) | (with_reducible refine Below.drew ?_) | (with_reducible refine below_drewN ?_))
  all_goals
    have hR : msgB p s f r = (fieldOkB p && isWordB s && inB f 0 4 && inB r 0 11) := rfl
    try rw [h0] at hR
    try rw [h1] at hR
    try rw [h2] at hR
    try rw [h3] at hR
    simp at hR
    rw [hR]
    clear hR
    go_enter Try.func12, Try.ntmps12
    go_wp2_with (first | (go_at_call 38; refine (iFieldOk _ _).mono ?_; rintro e w' ⟨rfl, rfl⟩) | (go_at_call 39; refine (iIsWord _ _).mono ?_; rintro e w' ⟨rfl, rfl⟩) | (go_at_call 40; refine (iWithin _ _ _ _).mono ?_; rintro e w' ⟨rfl, rfl⟩))
    ((try simp only [Exit.inBlock, Exit.then]); apply bodyPost_ret0; focus ((try simp only [results, Try.results12]); (try go_simp); (try rfl)))
    refine ⟨rfl, ?_⟩
    repeat (first | (with_reducible exact Below.refl _ _) | (with_reducible refine Below.trans ?_ (Below.mono (by assumption) (by first | omega | (simp; done) | (simp; omega) | (simp [*]; done)))) | (with_reducible refine Below.alloc ?_ (by first | omega | (simp; done) | (simp; omega) | (simp [*]; done)) _) | (with_reducible refine Below.setCell ?_ (by first | omega | (simp; done) | (simp; omega) | (simp [*]; done)) _) | (with_reducible refine Below.drew ?_) | (with_reducible refine below_drewN ?_))
set_option maxHeartbeats 1600000 in
theorem sExpectedMsg (p s f r : Int) (w : World) :
    Calls Try.prog 11 #[.int .i64 p, .int .i64 s, .int .i64 f, .int .i64 r] w fun e w' =>
      e = .returned (.tuple #[.agg #[.int .i64 (pick (msgB p s f r) f 0), .int .i64 (pick (msgB p s f r) r 0), .int .i64 (expI p s f r)], .bool (msgB p s f r)]) ∧ Below w.heap.size w w' := by
  unfold expI
  cases h0 : fieldOkB p; rotate_left
  cases h1 : isWordB s; rotate_left
  cases h2 : inB f 0 4; rotate_left
  cases h3 : inB r 0 11
  rotate_left
  · skip
    have hR : msgB p s f r = (fieldOkB p && isWordB s && inB f 0 4 && inB r 0 11) := rfl
    try rw [h0] at hR
    try rw [h1] at hR
    try rw [h2] at hR
    try rw [h3] at hR
    simp at hR
    rw [hR]
    clear hR
    go_enter Try.func11, Try.ntmps11
    go_wp2_with (first | (go_at_call 34; refine (sFieldOk _ _).mono ?_; rintro e w' ⟨rfl, rfl⟩) | (go_at_call 35; refine (sIsWord _ _).mono ?_; rintro e w' ⟨rfl, rfl⟩) | (go_at_call 36; refine (sWithin _ _ _ _).mono ?_; rintro e w' ⟨rfl, rfl⟩))
    have b_0 := (Below.refl w.heap.size w)
    have s_0 := b_0.size
    go_wp2_with fail
    refine calls_forget1 (W := w) (b0 := w.heap.size) (t0 := 23) (c0 := #[.int .i64 0, .int .i64 0, .int .i64 0]) ?_ ?_ ?_
    (focus (first | ((repeat (first | (with_reducible assumption) | (with_reducible apply Blk.drew) | (with_reducible apply Blk.drewN) | (with_reducible apply Blk.new; first | rfl | (simp; done)) | (with_reducible apply Blk.alloc) | (with_reducible apply Blk.set_) | (with_reducible apply Blk.past; focus assumption) | (with_reducible apply Blk.far; focus (first | (simp; done) | (simp; omega) | (dsimp only; omega))))); done) | (apply Blk.cast; (case h => (repeat (first | (with_reducible assumption) | (with_reducible apply Blk.drew) | (with_reducible apply Blk.drewN) | (with_reducible apply Blk.new; first | rfl | (simp; done)) | (with_reducible apply Blk.alloc) | (with_reducible apply Blk.set_) | (with_reducible apply Blk.past; focus assumption) | (with_reducible apply Blk.far; focus (first | (simp; done) | (simp; omega) | (dsimp only; omega)))))); (case e => rfl))))
    (focus (repeat (first | (with_reducible exact Below.refl _ _) | (with_reducible refine Below.trans ?_ (Below.mono (by assumption) (by first | omega | (simp; done) | (simp; omega) | (simp [*]; done)))) | (with_reducible refine Below.alloc ?_ (by first | omega | (simp; done) | (simp; omega) | (simp [*]; done)) _) | (with_reducible refine Below.setCell ?_ (by first | omega | (simp; done) | (simp; omega) | (simp [*]; done)) _) | (with_reducible refine Below.drew ?_) | (with_reducible refine below_drewN ?_))))
    intro X1 m_n hX1
    have sX1 := hX1.size
    have m_lt := m_n.lt
    refine (sTapeBelow _ _ _ _).mono ?_
    rintro e w1 ⟨rfl, hb1⟩
    have s1 := hb1.size
    have hT1 := hX1.trans (hb1.mono sX1)
    have b_1 := b_0.trans (hT1.mono (by omega))
    have m_1 := Blk.past hb1 m_n
    clear b_0 m_n hX1 hT1 hb1
    have cell_m := m_1.cell
    have froz_m := m_1.frozen
    have lt_m := m_1.lt
    go_wp2_with fail
    ((try simp only [Exit.inBlock, Exit.then]); apply bodyPost_ret0; focus ((try simp only [results, Try.results11]); (try go_simp); (try rfl)))
    refine ⟨rfl, ?_⟩
    repeat (first | (with_reducible exact Below.refl _ _) | (with_reducible refine Below.trans ?_ (Below.mono (by assumption) (by first | omega | (simp; done) | (simp; omega) | (simp [*]; done)))) | (with_reducible refine Below.alloc ?_ (by first | omega | (simp; done) | (simp; omega) | (simp [*]; done)) _) | (with_reducible refine Below.setCell ?_ (by first | omega | (simp; done) | (simp; omega) | (simp [*]; done)) _) | (with_reducible refine Below.drew ?_) | (with_reducible refine below_drewN ?_))
  all_goals
    have hR : msgB p s f r = (fieldOkB p && isWordB s && inB f 0 4 && inB r 0 11) := rfl
    try rw [h0] at hR
    try rw [h1] at hR
    try rw [h2] at hR
    try rw [h3] at hR
    simp at hR
    rw [hR]
    clear hR
    go_enter Try.func11, Try.ntmps11
    go_wp2_with (first | (go_at_call 34; refine (sFieldOk _ _).mono ?_; rintro e w' ⟨rfl, rfl⟩) | (go_at_call 35; refine (sIsWord _ _).mono ?_; rintro e w' ⟨rfl, rfl⟩) | (go_at_call 36; refine (sWithin _ _ _ _).mono ?_; rintro e w' ⟨rfl, rfl⟩))
    ((try simp only [Exit.inBlock, Exit.then]); apply bodyPost_ret0; focus ((try simp only [results, Try.results11]); (try go_simp); (try rfl)))
    refine ⟨rfl, ?_⟩
    repeat (first | (with_reducible exact Below.refl _ _) | (with_reducible refine Below.trans ?_ (Below.mono (by assumption) (by first | omega | (simp; done) | (simp; omega) | (simp [*]; done)))) | (with_reducible refine Below.alloc ?_ (by first | omega | (simp; done) | (simp; omega) | (simp [*]; done)) _) | (with_reducible refine Below.setCell ?_ (by first | omega | (simp; done) | (simp; omega) | (simp [*]; done)) _) | (with_reducible refine Below.drew ?_) | (with_reducible refine below_drewN ?_))
end Go.Proofs.Ytgkkljcboicipaa
