/- The messages of a transfer, in the program and in the reference. -/
import Derived.Test.YtonanjcojfjbdaaTrans2
namespace Go.Proofs.Ytonanjcojfjbdaa
open Go.RowKit

theorem iLab3' (a b d : Int) (c : Nat) (t : TypeId) (w : World) (n : Nat) (hn : n = w.heap.size) (ha : labelB a = true) (hb : labelB b = true) (hd : labelB d = true) :
    Calls Try.prog 54 #[.slice (some ⟨n, 0, none⟩) 3 c] (w.alloc (.cells #[.int .i64 a, .int .i64 b, .int .i64 d] t)) fun e w' => e = .returned (.bool true) ∧ (w.alloc (.cells #[.int .i64 a, .int .i64 b, .int .i64 d] t)) = w' := by
  subst hn
  exact iLab3 a b d c t w ha hb hd
theorem iLab4' (a b d f : Int) (c : Nat) (t : TypeId) (w : World) (n : Nat) (hn : n = w.heap.size) (ha : labelB a = true) (hb : labelB b = true) (hd : labelB d = true) (hf : labelB f = true) :
    Calls Try.prog 54 #[.slice (some ⟨n, 0, none⟩) 4 c] (w.alloc (.cells #[.int .i64 a, .int .i64 b, .int .i64 d, .int .i64 f] t)) fun e w' => e = .returned (.bool true) ∧ (w.alloc (.cells #[.int .i64 a, .int .i64 b, .int .i64 d, .int .i64 f] t)) = w' := by
  subst hn
  exact iLab4 a b d f c t w ha hb hd hf
theorem iOtAsk (b c r : Int) (w : World) (hb : inB b 0 1 = true) (hc : inB c 0 1 = true) :
    Calls Try.prog 38 #[.int .i64 b, .agg #[.int .i64 c, .int .i64 r]] w fun e w' => e = .returned (.int .i64 (bits .xor .i64 b c)) ∧ Below w.heap.size w w' := by
  go_enter Try.func38, Try.ntmps38
  go_wp2_with (go_at_call 30; refine (iWithin _ _ _ _).mono ?_; rintro e w' ⟨rfl, rfl⟩)
  go_ret
  refine ⟨rfl, ?_⟩
  repeat (first | (with_reducible exact Below.refl _ _) | (with_reducible refine Below.trans ?_ (Below.mono (by assumption) (by first | omega | (simp; done) | (simp; omega) | (simp [*]; done)))) | (with_reducible refine Below.alloc ?_ (by first | omega | (simp; done) | (simp; omega) | (simp [*]; done)) _) | (with_reducible refine Below.setCell ?_ (by first | omega | (simp; done) | (simp; omega) | (simp [*]; done)) _) | (with_reducible refine Below.drew ?_) | (with_reducible refine below_drewN ?_))
theorem sOtAsk (b c r : Int) (w : World) (hb : inB b 0 1 = true) (hc : inB c 0 1 = true) :
    Calls Try.prog 27 #[.int .i64 b, .agg #[.int .i64 c, .int .i64 r]] w fun e w' => e = .returned (.int .i64 (bits .xor .i64 b c)) ∧ Below w.heap.size w w' := by
  go_enter Try.func27, Try.ntmps27
  go_wp2_with (go_at_call 19; refine (sWithin _ _ _ _).mono ?_; rintro e w' ⟨rfl, rfl⟩)
  go_ret
  refine ⟨rfl, ?_⟩
  repeat (first | (with_reducible exact Below.refl _ _) | (with_reducible refine Below.trans ?_ (Below.mono (by assumption) (by first | omega | (simp; done) | (simp; omega) | (simp [*]; done)))) | (with_reducible refine Below.alloc ?_ (by first | omega | (simp; done) | (simp; omega) | (simp [*]; done)) _) | (with_reducible refine Below.setCell ?_ (by first | omega | (simp; done) | (simp; omega) | (simp [*]; done)) _) | (with_reducible refine Below.drew ?_) | (with_reducible refine below_drewN ?_))
set_option maxHeartbeats 1600000 in
theorem iOtReply (m0 m1 r0 r1 d : Int) (w : World) (h0 : labelB m0 = true) (h1 : labelB m1 = true) (h2 : labelB r0 = true) (h3 : labelB r1 = true) (hd : inB d 0 1 = true) :
    Calls Try.prog 36 #[.int .i64 m0, .int .i64 m1, .agg #[.int .i64 r0, .int .i64 r1], .int .i64 d] w fun e w' => e = .returned (.tuple #[.int .i64 (replyI m0 r0 r1 d), .int .i64 (replyI m1 r1 r0 d)]) ∧ Below w.heap.size w w' := by
  rcases bit_cases hd with rfl | rfl
  · go_enter Try.func36, Try.ntmps36
    have b_0 := (Below.refl w.heap.size w)
    have s_0 := b_0.size
    go_upto_region 5 with (first | (go_at_call 54; refine (iLab4' _ _ _ _ _ _ _ _ (by simp) h0 h1 h2 h3).mono ?_; rintro e w' ⟨rfl, rfl⟩) | (go_at_call 30; refine (iWithin _ _ _ _).mono ?_; rintro e w' ⟨rfl, rfl⟩))
    refine wp_forget1 (w0 := w) (B := w.heap.size) (b0 := w.heap.size) (t0 := 48) (c0 := #[.int .i64 r0, .int .i64 r1]) ?_ ?_ ?_
    (focus (first | ((repeat (first | (with_reducible assumption) | (with_reducible apply Blk.drew) | (with_reducible apply Blk.drewN) | (with_reducible apply Blk.new; first | rfl | (simp; done)) | (with_reducible apply Blk.alloc) | (with_reducible apply Blk.set_) | (with_reducible apply Blk.past; focus assumption) | (with_reducible apply Blk.far; focus (first | (simp; done) | (simp; omega) | (dsimp only; omega))))); done) | (apply Blk.cast; (case h => (repeat (first | (with_reducible assumption) | (with_reducible apply Blk.drew) | (with_reducible apply Blk.drewN) | (with_reducible apply Blk.new; first | rfl | (simp; done)) | (with_reducible apply Blk.alloc) | (with_reducible apply Blk.set_) | (with_reducible apply Blk.past; focus assumption) | (with_reducible apply Blk.far; focus (first | (simp; done) | (simp; omega) | (dsimp only; omega)))))); (case e => rfl))))
    (focus (repeat (first | (with_reducible exact Below.refl _ _) | (with_reducible refine Below.trans ?_ (Below.mono (by assumption) (by first | omega | (simp; done) | (simp; omega) | (simp [*]; done)))) | (with_reducible refine Below.alloc ?_ (by first | omega | (simp; done) | (simp; omega) | (simp [*]; done)) _) | (with_reducible refine Below.setCell ?_ (by first | omega | (simp; done) | (simp; omega) | (simp [*]; done)) _) | (with_reducible refine Below.drew ?_) | (with_reducible refine below_drewN ?_))))
    intro w1 x_1 hX1
    have sX1 := hX1.size
    have x_lt := x_1.lt
    have b_1 := b_0.trans (hX1.mono (by omega))
    clear b_0 hX1
    have cell_x := x_1.cell
    have froz_x := x_1.frozen
    have lt_x := x_1.lt
    go_wp2_with fail
    go_region_held3 (fun w' => w'.cell? ⟨w.heap.size, 0, none⟩ = some (.int .i64 r0) ∧ w'.cell? ⟨w.heap.size, 1, none⟩ = some (.int .i64 r1)) (exact ⟨(Blk.cell (t := 48) (cs := #[.int .i64 r0, .int .i64 r1]) (by repeat (first | (with_reducible assumption) | (with_reducible apply Blk.drew) | (with_reducible apply Blk.drewN) | (with_reducible apply Blk.new; first | rfl | (simp; done)) | (with_reducible apply Blk.alloc) | (with_reducible apply Blk.set_) | (with_reducible apply Blk.past; focus assumption) | (with_reducible apply Blk.far; focus (first | (simp; done) | (simp; omega) | (dsimp only; omega))))) 0), (Blk.cell (t := 48) (cs := #[.int .i64 r0, .int .i64 r1]) (by repeat (first | (with_reducible assumption) | (with_reducible apply Blk.drew) | (with_reducible apply Blk.drewN) | (with_reducible apply Blk.new; first | rfl | (simp; done)) | (with_reducible apply Blk.alloc) | (with_reducible apply Blk.set_) | (with_reducible apply Blk.past; focus assumption) | (with_reducible apply Blk.far; focus (first | (simp; done) | (simp; omega) | (dsimp only; omega))))) 1)⟩) (fail)
    all_goals
      go_wp2_with fail
      ((try simp only [Exit.inBlock, Exit.then]); apply bodyPost_ret0; focus ((try simp only [results, Try.results36]); (try go_simp); (try rfl)))
      refine ⟨rfl, ?_⟩
      repeat (first | (with_reducible exact Below.refl _ _) | (with_reducible refine Below.trans ?_ (Below.mono (by assumption) (by first | omega | (simp; done) | (simp; omega) | (simp [*]; done)))) | (with_reducible refine Below.alloc ?_ (by first | omega | (simp; done) | (simp; omega) | (simp [*]; done)) _) | (with_reducible refine Below.setCell ?_ (by first | omega | (simp; done) | (simp; omega) | (simp [*]; done)) _) | (with_reducible refine Below.drew ?_) | (with_reducible refine below_drewN ?_))
  · go_enter Try.func36, Try.ntmps36
    have b_0 := (Below.refl w.heap.size w)
    have s_0 := b_0.size
    go_upto_region 4 with (first | (go_at_call 54; refine (iLab4' _ _ _ _ _ _ _ _ (by simp) h0 h1 h2 h3).mono ?_; rintro e w' ⟨rfl, rfl⟩) | (go_at_call 30; refine (iWithin _ _ _ _).mono ?_; rintro e w' ⟨rfl, rfl⟩))
    refine wp_forget1 (w0 := w) (B := w.heap.size) (b0 := w.heap.size) (t0 := 48) (c0 := #[.int .i64 r0, .int .i64 r1]) ?_ ?_ ?_
    (focus (first | ((repeat (first | (with_reducible assumption) | (with_reducible apply Blk.drew) | (with_reducible apply Blk.drewN) | (with_reducible apply Blk.new; first | rfl | (simp; done)) | (with_reducible apply Blk.alloc) | (with_reducible apply Blk.set_) | (with_reducible apply Blk.past; focus assumption) | (with_reducible apply Blk.far; focus (first | (simp; done) | (simp; omega) | (dsimp only; omega))))); done) | (apply Blk.cast; (case h => (repeat (first | (with_reducible assumption) | (with_reducible apply Blk.drew) | (with_reducible apply Blk.drewN) | (with_reducible apply Blk.new; first | rfl | (simp; done)) | (with_reducible apply Blk.alloc) | (with_reducible apply Blk.set_) | (with_reducible apply Blk.past; focus assumption) | (with_reducible apply Blk.far; focus (first | (simp; done) | (simp; omega) | (dsimp only; omega)))))); (case e => rfl))))
    (focus (repeat (first | (with_reducible exact Below.refl _ _) | (with_reducible refine Below.trans ?_ (Below.mono (by assumption) (by first | omega | (simp; done) | (simp; omega) | (simp [*]; done)))) | (with_reducible refine Below.alloc ?_ (by first | omega | (simp; done) | (simp; omega) | (simp [*]; done)) _) | (with_reducible refine Below.setCell ?_ (by first | omega | (simp; done) | (simp; omega) | (simp [*]; done)) _) | (with_reducible refine Below.drew ?_) | (with_reducible refine below_drewN ?_))))
    intro w1 x_1 hX1
    have sX1 := hX1.size
    have x_lt := x_1.lt
    have b_1 := b_0.trans (hX1.mono (by omega))
    clear b_0 hX1
    have cell_x := x_1.cell
    have froz_x := x_1.frozen
    have lt_x := x_1.lt
    go_wp2_with fail
    go_region_held3 (fun w' => w'.cell? ⟨w.heap.size, 0, none⟩ = some (.int .i64 r0) ∧ w'.cell? ⟨w.heap.size, 1, none⟩ = some (.int .i64 r1)) (exact ⟨(Blk.cell (t := 48) (cs := #[.int .i64 r0, .int .i64 r1]) (by repeat (first | (with_reducible assumption) | (with_reducible apply Blk.drew) | (with_reducible apply Blk.drewN) | (with_reducible apply Blk.new; first | rfl | (simp; done)) | (with_reducible apply Blk.alloc) | (with_reducible apply Blk.set_) | (with_reducible apply Blk.past; focus assumption) | (with_reducible apply Blk.far; focus (first | (simp; done) | (simp; omega) | (dsimp only; omega))))) 0), (Blk.cell (t := 48) (cs := #[.int .i64 r0, .int .i64 r1]) (by repeat (first | (with_reducible assumption) | (with_reducible apply Blk.drew) | (with_reducible apply Blk.drewN) | (with_reducible apply Blk.new; first | rfl | (simp; done)) | (with_reducible apply Blk.alloc) | (with_reducible apply Blk.set_) | (with_reducible apply Blk.past; focus assumption) | (with_reducible apply Blk.far; focus (first | (simp; done) | (simp; omega) | (dsimp only; omega))))) 1)⟩) (fail)
    all_goals
      go_wp2_with fail
      ((try simp only [Exit.inBlock, Exit.then]); apply bodyPost_ret0; focus ((try simp only [results, Try.results36]); (try go_simp); (try rfl)))
      refine ⟨rfl, ?_⟩
      repeat (first | (with_reducible exact Below.refl _ _) | (with_reducible refine Below.trans ?_ (Below.mono (by assumption) (by first | omega | (simp; done) | (simp; omega) | (simp [*]; done)))) | (with_reducible refine Below.alloc ?_ (by first | omega | (simp; done) | (simp; omega) | (simp [*]; done)) _) | (with_reducible refine Below.setCell ?_ (by first | omega | (simp; done) | (simp; omega) | (simp [*]; done)) _) | (with_reducible refine Below.drew ?_) | (with_reducible refine below_drewN ?_))
set_option maxHeartbeats 1600000 in
theorem sOtReply (m0 m1 r0 r1 d : Int) (w : World) (h0 : labelB m0 = true) (h1 : labelB m1 = true) (h2 : labelB r0 = true) (h3 : labelB r1 = true) (hd : inB d 0 1 = true) :
    Calls Try.prog 25 #[.int .i64 m0, .int .i64 m1, .agg #[.int .i64 r0, .int .i64 r1], .int .i64 d] w fun e w' => e = .returned (.tuple #[.int .i64 (replyI m0 r0 r1 d), .int .i64 (replyI m1 r1 r0 d)]) ∧ Below w.heap.size w w' := by
  rcases bit_cases hd with rfl | rfl
  · go_enter Try.func25, Try.ntmps25
    have b_0 := (Below.refl w.heap.size w)
    have s_0 := b_0.size
    go_upto_region 5 with (first | (go_at_call 50; refine (sIsLabel _ _).mono ?_; rintro e w' ⟨rfl, rfl⟩) | (go_at_call 19; refine (sWithin _ _ _ _).mono ?_; rintro e w' ⟨rfl, rfl⟩))
    refine wp_forget1 (w0 := w) (B := w.heap.size) (b0 := w.heap.size) (t0 := 48) (c0 := #[.int .i64 r0, .int .i64 r1]) ?_ ?_ ?_
    (focus (first | ((repeat (first | (with_reducible assumption) | (with_reducible apply Blk.drew) | (with_reducible apply Blk.drewN) | (with_reducible apply Blk.new; first | rfl | (simp; done)) | (with_reducible apply Blk.alloc) | (with_reducible apply Blk.set_) | (with_reducible apply Blk.past; focus assumption) | (with_reducible apply Blk.far; focus (first | (simp; done) | (simp; omega) | (dsimp only; omega))))); done) | (apply Blk.cast; (case h => (repeat (first | (with_reducible assumption) | (with_reducible apply Blk.drew) | (with_reducible apply Blk.drewN) | (with_reducible apply Blk.new; first | rfl | (simp; done)) | (with_reducible apply Blk.alloc) | (with_reducible apply Blk.set_) | (with_reducible apply Blk.past; focus assumption) | (with_reducible apply Blk.far; focus (first | (simp; done) | (simp; omega) | (dsimp only; omega)))))); (case e => rfl))))
    (focus (repeat (first | (with_reducible exact Below.refl _ _) | (with_reducible refine Below.trans ?_ (Below.mono (by assumption) (by first | omega | (simp; done) | (simp; omega) | (simp [*]; done)))) | (with_reducible refine Below.alloc ?_ (by first | omega | (simp; done) | (simp; omega) | (simp [*]; done)) _) | (with_reducible refine Below.setCell ?_ (by first | omega | (simp; done) | (simp; omega) | (simp [*]; done)) _) | (with_reducible refine Below.drew ?_) | (with_reducible refine below_drewN ?_))))
    intro w1 x_1 hX1
    have sX1 := hX1.size
    have x_lt := x_1.lt
    have b_1 := b_0.trans (hX1.mono (by omega))
    clear b_0 hX1
    have cell_x := x_1.cell
    have froz_x := x_1.frozen
    have lt_x := x_1.lt
    go_wp2_with fail
    go_region_held3 (fun w' => w'.cell? ⟨w.heap.size, 0, none⟩ = some (.int .i64 r0) ∧ w'.cell? ⟨w.heap.size, 1, none⟩ = some (.int .i64 r1)) (exact ⟨(Blk.cell (t := 48) (cs := #[.int .i64 r0, .int .i64 r1]) (by repeat (first | (with_reducible assumption) | (with_reducible apply Blk.drew) | (with_reducible apply Blk.drewN) | (with_reducible apply Blk.new; first | rfl | (simp; done)) | (with_reducible apply Blk.alloc) | (with_reducible apply Blk.set_) | (with_reducible apply Blk.past; focus assumption) | (with_reducible apply Blk.far; focus (first | (simp; done) | (simp; omega) | (dsimp only; omega))))) 0), (Blk.cell (t := 48) (cs := #[.int .i64 r0, .int .i64 r1]) (by repeat (first | (with_reducible assumption) | (with_reducible apply Blk.drew) | (with_reducible apply Blk.drewN) | (with_reducible apply Blk.new; first | rfl | (simp; done)) | (with_reducible apply Blk.alloc) | (with_reducible apply Blk.set_) | (with_reducible apply Blk.past; focus assumption) | (with_reducible apply Blk.far; focus (first | (simp; done) | (simp; omega) | (dsimp only; omega))))) 1)⟩) (fail)
    all_goals
      go_wp2_with fail
      ((try simp only [Exit.inBlock, Exit.then]); apply bodyPost_ret0; focus ((try simp only [results, Try.results25]); (try go_simp); (try rfl)))
      refine ⟨rfl, ?_⟩
      repeat (first | (with_reducible exact Below.refl _ _) | (with_reducible refine Below.trans ?_ (Below.mono (by assumption) (by first | omega | (simp; done) | (simp; omega) | (simp [*]; done)))) | (with_reducible refine Below.alloc ?_ (by first | omega | (simp; done) | (simp; omega) | (simp [*]; done)) _) | (with_reducible refine Below.setCell ?_ (by first | omega | (simp; done) | (simp; omega) | (simp [*]; done)) _) | (with_reducible refine Below.drew ?_) | (with_reducible refine below_drewN ?_))
  · go_enter Try.func25, Try.ntmps25
    have b_0 := (Below.refl w.heap.size w)
    have s_0 := b_0.size
    go_upto_region 4 with (first | (go_at_call 50; refine (sIsLabel _ _).mono ?_; rintro e w' ⟨rfl, rfl⟩) | (go_at_call 19; refine (sWithin _ _ _ _).mono ?_; rintro e w' ⟨rfl, rfl⟩))
    refine wp_forget1 (w0 := w) (B := w.heap.size) (b0 := w.heap.size) (t0 := 48) (c0 := #[.int .i64 r0, .int .i64 r1]) ?_ ?_ ?_
    (focus (first | ((repeat (first | (with_reducible assumption) | (with_reducible apply Blk.drew) | (with_reducible apply Blk.drewN) | (with_reducible apply Blk.new; first | rfl | (simp; done)) | (with_reducible apply Blk.alloc) | (with_reducible apply Blk.set_) | (with_reducible apply Blk.past; focus assumption) | (with_reducible apply Blk.far; focus (first | (simp; done) | (simp; omega) | (dsimp only; omega))))); done) | (apply Blk.cast; (case h => (repeat (first | (with_reducible assumption) | (with_reducible apply Blk.drew) | (with_reducible apply Blk.drewN) | (with_reducible apply Blk.new; first | rfl | (simp; done)) | (with_reducible apply Blk.alloc) | (with_reducible apply Blk.set_) | (with_reducible apply Blk.past; focus assumption) | (with_reducible apply Blk.far; focus (first | (simp; done) | (simp; omega) | (dsimp only; omega)))))); (case e => rfl))))
    (focus (repeat (first | (with_reducible exact Below.refl _ _) | (with_reducible refine Below.trans ?_ (Below.mono (by assumption) (by first | omega | (simp; done) | (simp; omega) | (simp [*]; done)))) | (with_reducible refine Below.alloc ?_ (by first | omega | (simp; done) | (simp; omega) | (simp [*]; done)) _) | (with_reducible refine Below.setCell ?_ (by first | omega | (simp; done) | (simp; omega) | (simp [*]; done)) _) | (with_reducible refine Below.drew ?_) | (with_reducible refine below_drewN ?_))))
    intro w1 x_1 hX1
    have sX1 := hX1.size
    have x_lt := x_1.lt
    have b_1 := b_0.trans (hX1.mono (by omega))
    clear b_0 hX1
    have cell_x := x_1.cell
    have froz_x := x_1.frozen
    have lt_x := x_1.lt
    go_wp2_with fail
    go_region_held3 (fun w' => w'.cell? ⟨w.heap.size, 0, none⟩ = some (.int .i64 r0) ∧ w'.cell? ⟨w.heap.size, 1, none⟩ = some (.int .i64 r1)) (exact ⟨(Blk.cell (t := 48) (cs := #[.int .i64 r0, .int .i64 r1]) (by repeat (first | (with_reducible assumption) | (with_reducible apply Blk.drew) | (with_reducible apply Blk.drewN) | (with_reducible apply Blk.new; first | rfl | (simp; done)) | (with_reducible apply Blk.alloc) | (with_reducible apply Blk.set_) | (with_reducible apply Blk.past; focus assumption) | (with_reducible apply Blk.far; focus (first | (simp; done) | (simp; omega) | (dsimp only; omega))))) 0), (Blk.cell (t := 48) (cs := #[.int .i64 r0, .int .i64 r1]) (by repeat (first | (with_reducible assumption) | (with_reducible apply Blk.drew) | (with_reducible apply Blk.drewN) | (with_reducible apply Blk.new; first | rfl | (simp; done)) | (with_reducible apply Blk.alloc) | (with_reducible apply Blk.set_) | (with_reducible apply Blk.past; focus assumption) | (with_reducible apply Blk.far; focus (first | (simp; done) | (simp; omega) | (dsimp only; omega))))) 1)⟩) (fail)
    all_goals
      go_wp2_with fail
      ((try simp only [Exit.inBlock, Exit.then]); apply bodyPost_ret0; focus ((try simp only [results, Try.results25]); (try go_simp); (try rfl)))
      refine ⟨rfl, ?_⟩
      repeat (first | (with_reducible exact Below.refl _ _) | (with_reducible refine Below.trans ?_ (Below.mono (by assumption) (by first | omega | (simp; done) | (simp; omega) | (simp [*]; done)))) | (with_reducible refine Below.alloc ?_ (by first | omega | (simp; done) | (simp; omega) | (simp [*]; done)) _) | (with_reducible refine Below.setCell ?_ (by first | omega | (simp; done) | (simp; omega) | (simp [*]; done)) _) | (with_reducible refine Below.drew ?_) | (with_reducible refine below_drewN ?_))
set_option maxHeartbeats 1600000 in
theorem iOtReceive (e0 e1 b c r : Int) (w : World) (h0 : labelB e0 = true) (h1 : labelB e1 = true) (hr : labelB r = true) (hb : inB b 0 1 = true) :
    Calls Try.prog 39 #[.int .i64 e0, .int .i64 e1, .int .i64 b, .agg #[.int .i64 c, .int .i64 r]] w fun e w' => e = .returned (.int .i64 (recvI e0 e1 b r)) ∧ Below w.heap.size w w' := by
  have hs0 := hid (xor_swap h0 hr)
  have hs1 := hid (xor_swap h1 hr)
  rcases bit_cases hb with rfl | rfl
  all_goals
    go_enter Try.func39, Try.ntmps39
    go_wp2_with (first | (go_at_call 54; refine (iLab3' _ _ _ _ _ _ _ (by simp) h0 h1 hr).mono ?_; rintro e w' ⟨rfl, rfl⟩) | (go_at_call 30; refine (iWithin _ _ _ _).mono ?_; rintro e w' ⟨rfl, rfl⟩))
    go_ret
    refine ⟨ret_int (by first | exact hs0.out.symm | exact hs1.out.symm), ?_⟩
    repeat (first | (with_reducible exact Below.refl _ _) | (with_reducible refine Below.trans ?_ (Below.mono (by assumption) (by first | omega | (simp; done) | (simp; omega) | (simp [*]; done)))) | (with_reducible refine Below.alloc ?_ (by first | omega | (simp; done) | (simp; omega) | (simp [*]; done)) _) | (with_reducible refine Below.setCell ?_ (by first | omega | (simp; done) | (simp; omega) | (simp [*]; done)) _) | (with_reducible refine Below.drew ?_) | (with_reducible refine below_drewN ?_))
set_option maxHeartbeats 1600000 in
theorem sOtReceive (e0 e1 b c r : Int) (w : World) (h0 : labelB e0 = true) (h1 : labelB e1 = true) (hr : labelB r = true) (hb : inB b 0 1 = true) :
    Calls Try.prog 28 #[.int .i64 e0, .int .i64 e1, .int .i64 b, .agg #[.int .i64 c, .int .i64 r]] w fun e w' => e = .returned (.int .i64 (recvI e0 e1 b r)) ∧ Below w.heap.size w w' := by
  rcases bit_cases hb with rfl | rfl
  all_goals
    go_enter Try.func28, Try.ntmps28
    go_wp2_with (first | (go_at_call 50; refine (sIsLabel _ _).mono ?_; rintro e w' ⟨rfl, rfl⟩) | (go_at_call 19; refine (sWithin _ _ _ _).mono ?_; rintro e w' ⟨rfl, rfl⟩))
    go_ret
    refine ⟨rfl, ?_⟩
    repeat (first | (with_reducible exact Below.refl _ _) | (with_reducible refine Below.trans ?_ (Below.mono (by assumption) (by first | omega | (simp; done) | (simp; omega) | (simp [*]; done)))) | (with_reducible refine Below.alloc ?_ (by first | omega | (simp; done) | (simp; omega) | (simp [*]; done)) _) | (with_reducible refine Below.setCell ?_ (by first | omega | (simp; done) | (simp; omega) | (simp [*]; done)) _) | (with_reducible refine Below.drew ?_) | (with_reducible refine below_drewN ?_))
end Go.Proofs.Ytonanjcojfjbdaa
