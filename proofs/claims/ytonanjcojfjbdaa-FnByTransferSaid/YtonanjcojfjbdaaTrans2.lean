/- A transfer of one label, in the program and in the reference. -/
import Derived.Test.YtonanjcojfjbdaaTrans
import Derived.BigQuiet
namespace Go.Proofs.Ytonanjcojfjbdaa
open Go.RowKit

section
variable {P : Program} {f : FuncId} {args : Array Value} {X W : World} {Q : Ending → World → Prop} {b0 b1 b2 b3 : Nat} {t0 t1 t2 t3 : TypeId} {c0 c1 c2 c3 : Array Value}
theorem calls_forget4 (h0 : Blk X b0 t0 c0) (h1 : Blk X b1 t1 c1) (h2 : Blk X b2 t2 c2) (h3 : Blk X b3 t3 c3) (hX : Below W.heap.size W X)
    (h : ∀ X', Blk X' b0 t0 c0 → Blk X' b1 t1 c1 → Blk X' b2 t2 c2 → Blk X' b3 t3 c3 → Below W.heap.size W X' → Calls P f args X' Q) : Calls P f args X Q := h X h0 h1 h2 h3 hX
end
def dealA (s a : Int) : Int := belowI s a 65536
def dealB (s a : Int) : Int := belowI s (belowAt s a 65536) 65536
def dealC (s a : Int) : Int := belowI s (belowAt s (belowAt s a 65536) 65536) 2
def dealR (s a : Int) : Int := pick (dealC s a == 1) (dealB s a) (dealA s a)
def dealAt (s a : Int) : Int := belowAt s (belowAt s (belowAt s a 65536) 65536) 2
theorem deal_at {s a : Int} (h1 : tapeOkB s a = true) (h2 : a ≤ 900000) : dealAt s a = a + 3 := by
  have hs : isWordB s = true := by unfold tapeOkB at h1; simp only [Bool.and_eq_true] at h1; exact h1.1
  have ha := tapeOkB_range h1
  have ok : ∀ x n, 0 ≤ x → x ≤ 900010 → 1 ≤ n → n ≤ 65536 → belowAt s x n = x + 1 := fun x n x0 x1 n0 n1 => by
    have hg : tapeGoB s x = true := by
      unfold tapeGoB tapeOkB
      rw [hs, show inB x 0 1000000 = true from inB_iff.2 (by omega), show (x == 1000000) = false by simp; omega]
      rfl
    exact (below_yes (inB_iff.2 ⟨n0, n1⟩) hg).2
  unfold dealAt
  rw [ok a 65536 (by omega) (by omega) (by omega) (by omega), ok (a + 1) 65536 (by omega) (by omega) (by omega) (by omega), ok (a + 1 + 1) 2 (by omega) (by omega) (by omega) (by omega)]
  omega
theorem deal_c (s a : Int) : inB (dealC s a) 0 1 = true := by
  unfold dealC belowI
  cases h : belowB s (belowAt s (belowAt s a 65536) 65536) 2
  · rfl
  · rw [pick_yes]
    exact inB_iff.2 (by omega)
theorem dealR_label (s a : Int) : labelB (dealR s a) = true := by
  unfold dealR
  cases dealC s a == 1
  · exact below_label _ _ _
  · exact below_label _ _ _
set_option maxHeartbeats 1600000 in
theorem iOtDeal (s a : Int) (w : World) (h1 : tapeOkB s a = true) (h2 : a ≤ 900000) :
    Calls Try.prog 34 #[.agg #[.int .i64 s, .int .i64 a]] w fun e w' => e = .returned (.tuple #[.agg #[.int .i64 (dealA s a), .int .i64 (dealB s a)], .agg #[.int .i64 (dealC s a), .int .i64 (dealR s a)], .agg #[.int .i64 s, .int .i64 (dealAt s a)]]) ∧ Below w.heap.size w w' := by
  have h3 : decide (900000 < a) = false := by simp; omega
  clear h2
  have TA := hid (fun w => iTapeBelow s a 65536 w)
  have TB := hid (fun w => iTapeBelow s (belowAt s a 65536) 65536 w)
  have TC := hid (fun w => iTapeBelow s (belowAt s (belowAt s a 65536) 65536) 2 w)
  obtain ⟨a1, e1⟩ : ∃ x, belowAt s a 65536 = x := ⟨_, rfl⟩
  unfold dealR dealAt dealA dealB dealC
  rw [e1] at TA TB TC ⊢
  obtain ⟨a2, e2⟩ : ∃ x, belowAt s a1 65536 = x := ⟨_, rfl⟩
  rw [e2] at TB TC ⊢
  obtain ⟨a3, e3⟩ : ∃ x, belowAt s a2 2 = x := ⟨_, rfl⟩
  obtain ⟨r0, f0⟩ : ∃ x, belowI s a 65536 = x := ⟨_, rfl⟩
  obtain ⟨r1, f1⟩ : ∃ x, belowI s a1 65536 = x := ⟨_, rfl⟩
  obtain ⟨cc, f2⟩ : ∃ x, belowI s a2 2 = x := ⟨_, rfl⟩
  rw [f0] at TA ⊢
  rw [f1] at TB ⊢
  rw [f2, e3] at TC ⊢
  clear e1 e2 e3 f0 f1 f2
  cases hcc : cc == 1
  · rw [pick_no]
    go_enter Try.func34, Try.ntmps34
    have b_0 := (Below.refl w.heap.size w)
    have s_0 := b_0.size
    go_wp2_with fail
    refine calls_forget4 (W := w) (b0 := w.heap.size) (t0 := 27) (c0 := #[.int .i64 s, .int .i64 a]) (b1 := w.heap.size + 1) (t1 := 48) (c1 := #[.int .i64 0, .int .i64 0]) (b2 := w.heap.size + 2) (t2 := 50) (c2 := #[.int .i64 0, .int .i64 0]) (b3 := w.heap.size + 3) (t3 := 27) (c3 := #[.int .i64 0, .int .i64 0]) ?_ ?_ ?_ ?_ ?_ ?_
    (focus (first | ((repeat (first | (with_reducible assumption) | (with_reducible apply Blk.drew) | (with_reducible apply Blk.drewN) | (with_reducible apply Blk.new; first | rfl | (simp; done)) | (with_reducible apply Blk.alloc) | (with_reducible apply Blk.set_) | (with_reducible apply Blk.past; focus assumption) | (with_reducible apply Blk.far; focus (first | (simp; done) | (simp; omega) | (dsimp only; omega))))); done) | (apply Blk.cast; (case h => (repeat (first | (with_reducible assumption) | (with_reducible apply Blk.drew) | (with_reducible apply Blk.drewN) | (with_reducible apply Blk.new; first | rfl | (simp; done)) | (with_reducible apply Blk.alloc) | (with_reducible apply Blk.set_) | (with_reducible apply Blk.past; focus assumption) | (with_reducible apply Blk.far; focus (first | (simp; done) | (simp; omega) | (dsimp only; omega)))))); (case e => rfl))))
    (focus (first | ((repeat (first | (with_reducible assumption) | (with_reducible apply Blk.drew) | (with_reducible apply Blk.drewN) | (with_reducible apply Blk.new; first | rfl | (simp; done)) | (with_reducible apply Blk.alloc) | (with_reducible apply Blk.set_) | (with_reducible apply Blk.past; focus assumption) | (with_reducible apply Blk.far; focus (first | (simp; done) | (simp; omega) | (dsimp only; omega))))); done) | (apply Blk.cast; (case h => (repeat (first | (with_reducible assumption) | (with_reducible apply Blk.drew) | (with_reducible apply Blk.drewN) | (with_reducible apply Blk.new; first | rfl | (simp; done)) | (with_reducible apply Blk.alloc) | (with_reducible apply Blk.set_) | (with_reducible apply Blk.past; focus assumption) | (with_reducible apply Blk.far; focus (first | (simp; done) | (simp; omega) | (dsimp only; omega)))))); (case e => rfl))))
    (focus (first | ((repeat (first | (with_reducible assumption) | (with_reducible apply Blk.drew) | (with_reducible apply Blk.drewN) | (with_reducible apply Blk.new; first | rfl | (simp; done)) | (with_reducible apply Blk.alloc) | (with_reducible apply Blk.set_) | (with_reducible apply Blk.past; focus assumption) | (with_reducible apply Blk.far; focus (first | (simp; done) | (simp; omega) | (dsimp only; omega))))); done) | (apply Blk.cast; (case h => (repeat (first | (with_reducible assumption) | (with_reducible apply Blk.drew) | (with_reducible apply Blk.drewN) | (with_reducible apply Blk.new; first | rfl | (simp; done)) | (with_reducible apply Blk.alloc) | (with_reducible apply Blk.set_) | (with_reducible apply Blk.past; focus assumption) | (with_reducible apply Blk.far; focus (first | (simp; done) | (simp; omega) | (dsimp only; omega)))))); (case e => rfl))))
    (focus (first | ((repeat (first | (with_reducible assumption) | (with_reducible apply Blk.drew) | (with_reducible apply Blk.drewN) | (with_reducible apply Blk.new; first | rfl | (simp; done)) | (with_reducible apply Blk.alloc) | (with_reducible apply Blk.set_) | (with_reducible apply Blk.past; focus assumption) | (with_reducible apply Blk.far; focus (first | (simp; done) | (simp; omega) | (dsimp only; omega))))); done) | (apply Blk.cast; (case h => (repeat (first | (with_reducible assumption) | (with_reducible apply Blk.drew) | (with_reducible apply Blk.drewN) | (with_reducible apply Blk.new; first | rfl | (simp; done)) | (with_reducible apply Blk.alloc) | (with_reducible apply Blk.set_) | (with_reducible apply Blk.past; focus assumption) | (with_reducible apply Blk.far; focus (first | (simp; done) | (simp; omega) | (dsimp only; omega)))))); (case e => rfl))))
    (focus (repeat (first | (with_reducible exact Below.refl _ _) | (with_reducible refine Below.trans ?_ (Below.mono (by assumption) (by first | omega | (simp; done) | (simp; omega) | (simp [*]; done)))) | (with_reducible refine Below.alloc ?_ (by first | omega | (simp; done) | (simp; omega) | (simp [*]; done)) _) | (with_reducible refine Below.setCell ?_ (by first | omega | (simp; done) | (simp; omega) | (simp [*]; done)) _) | (with_reducible refine Below.drew ?_) | (with_reducible refine below_drewN ?_))))
    intro X1 t_n p_n q_n u_n hX1
    have sX1 := hX1.size
    have t_lt := t_n.lt
    have p_lt := p_n.lt
    have q_lt := q_n.lt
    have u_lt := u_n.lt
    refine (iTapeOk _ _ _).mono ?_
    rintro e w1 ⟨rfl, hb1⟩
    have s1 := hb1.size
    have hT1 := hX1.trans (hb1.mono sX1)
    have b_1 := b_0.trans (hT1.mono (by omega))
    have t_1 := Blk.past hb1 t_n
    have p_1 := Blk.past hb1 p_n
    have q_1 := Blk.past hb1 q_n
    have u_1 := Blk.past hb1 u_n
    clear b_0 t_n p_n q_n u_n hX1 hT1 hb1
    have cell_t := t_1.cell
    have froz_t := t_1.frozen
    have lt_t := t_1.lt
    have cell_p := p_1.cell
    have froz_p := p_1.frozen
    have lt_p := p_1.lt
    have cell_q := q_1.cell
    have froz_q := q_1.frozen
    have lt_q := q_1.lt
    have cell_u := u_1.cell
    have froz_u := u_1.frozen
    have lt_u := u_1.lt
    go_wp2_with fail
    refine calls_forget2 (W := w1) (b0 := w1.heap.size) (t0 := 48) (c0 := #[.int .i64 0, .int .i64 0]) (b1 := w1.heap.size + 1) (t1 := 50) (c1 := #[.int .i64 0, .int .i64 0]) ?_ ?_ ?_ ?_
    (focus (first | ((repeat (first | (with_reducible assumption) | (with_reducible apply Blk.drew) | (with_reducible apply Blk.drewN) | (with_reducible apply Blk.new; first | rfl | (simp; done)) | (with_reducible apply Blk.alloc) | (with_reducible apply Blk.set_) | (with_reducible apply Blk.past; focus assumption) | (with_reducible apply Blk.far; focus (first | (simp; done) | (simp; omega) | (dsimp only; omega))))); done) | (apply Blk.cast; (case h => (repeat (first | (with_reducible assumption) | (with_reducible apply Blk.drew) | (with_reducible apply Blk.drewN) | (with_reducible apply Blk.new; first | rfl | (simp; done)) | (with_reducible apply Blk.alloc) | (with_reducible apply Blk.set_) | (with_reducible apply Blk.past; focus assumption) | (with_reducible apply Blk.far; focus (first | (simp; done) | (simp; omega) | (dsimp only; omega)))))); (case e => rfl))))
    (focus (first | ((repeat (first | (with_reducible assumption) | (with_reducible apply Blk.drew) | (with_reducible apply Blk.drewN) | (with_reducible apply Blk.new; first | rfl | (simp; done)) | (with_reducible apply Blk.alloc) | (with_reducible apply Blk.set_) | (with_reducible apply Blk.past; focus assumption) | (with_reducible apply Blk.far; focus (first | (simp; done) | (simp; omega) | (dsimp only; omega))))); done) | (apply Blk.cast; (case h => (repeat (first | (with_reducible assumption) | (with_reducible apply Blk.drew) | (with_reducible apply Blk.drewN) | (with_reducible apply Blk.new; first | rfl | (simp; done)) | (with_reducible apply Blk.alloc) | (with_reducible apply Blk.set_) | (with_reducible apply Blk.past; focus assumption) | (with_reducible apply Blk.far; focus (first | (simp; done) | (simp; omega) | (dsimp only; omega)))))); (case e => rfl))))
    (focus (repeat (first | (with_reducible exact Below.refl _ _) | (with_reducible refine Below.trans ?_ (Below.mono (by assumption) (by first | omega | (simp; done) | (simp; omega) | (simp [*]; done)))) | (with_reducible refine Below.alloc ?_ (by first | omega | (simp; done) | (simp; omega) | (simp [*]; done)) _) | (with_reducible refine Below.setCell ?_ (by first | omega | (simp; done) | (simp; omega) | (simp [*]; done)) _) | (with_reducible refine Below.drew ?_) | (with_reducible refine below_drewN ?_))))
    intro X2 x_n y_n hX2
    have sX2 := hX2.size
    have x_lt := x_n.lt
    have y_lt := y_n.lt
    refine (TA.out _).mono ?_
    rintro e w2 ⟨rfl, hb2⟩
    have s2 := hb2.size
    have hT2 := hX2.trans (hb2.mono sX2)
    have b_2 := b_1.trans (hT2.mono (by omega))
    have t_2 := Blk.past hT2 t_1
    have p_2 := Blk.past hT2 p_1
    have q_2 := Blk.past hT2 q_1
    have u_2 := Blk.past hT2 u_1
    have x_2 := Blk.past hb2 x_n
    have y_2 := Blk.past hb2 y_n
    clear t_1 p_1 q_1 u_1 b_1 cell_t froz_t lt_t cell_p froz_p lt_p cell_q froz_q lt_q cell_u froz_u lt_u x_n y_n hX2 hT2 hb2
    have cell_t := t_2.cell
    have froz_t := t_2.frozen
    have lt_t := t_2.lt
    have cell_p := p_2.cell
    have froz_p := p_2.frozen
    have lt_p := p_2.lt
    have cell_q := q_2.cell
    have froz_q := q_2.frozen
    have lt_q := q_2.lt
    have cell_u := u_2.cell
    have froz_u := u_2.frozen
    have lt_u := u_2.lt
    have cell_x := x_2.cell
    have froz_x := x_2.frozen
    have lt_x := x_2.lt
    have cell_y := y_2.cell
    have froz_y := y_2.frozen
    have lt_y := y_2.lt
    go_wp2_with fail
    refine calls_touch2 (w0 := w2) (L := [w1.heap.size, w.heap.size]) (b0 := w1.heap.size) (t0 := 48) (c0 := #[.int .i64 r0, .int .i64 0]) (b1 := w.heap.size) (t1 := 27) (c1 := #[.int .i64 s, .int .i64 a1]) ?_ ?_ ?_ ?_
    (focus (first | ((repeat (first | (with_reducible assumption) | (with_reducible apply Blk.drew) | (with_reducible apply Blk.drewN) | (with_reducible apply Blk.new; first | rfl | (simp; done)) | (with_reducible apply Blk.alloc) | (with_reducible apply Blk.set_) | (with_reducible apply Blk.past; focus assumption) | (with_reducible apply Blk.far; focus (first | (simp; done) | (simp; omega) | (dsimp only; omega))))); done) | (apply Blk.cast; (case h => (repeat (first | (with_reducible assumption) | (with_reducible apply Blk.drew) | (with_reducible apply Blk.drewN) | (with_reducible apply Blk.new; first | rfl | (simp; done)) | (with_reducible apply Blk.alloc) | (with_reducible apply Blk.set_) | (with_reducible apply Blk.past; focus assumption) | (with_reducible apply Blk.far; focus (first | (simp; done) | (simp; omega) | (dsimp only; omega)))))); (case e => rfl))))
    (focus (first | ((repeat (first | (with_reducible assumption) | (with_reducible apply Blk.drew) | (with_reducible apply Blk.drewN) | (with_reducible apply Blk.new; first | rfl | (simp; done)) | (with_reducible apply Blk.alloc) | (with_reducible apply Blk.set_) | (with_reducible apply Blk.past; focus assumption) | (with_reducible apply Blk.far; focus (first | (simp; done) | (simp; omega) | (dsimp only; omega))))); done) | (apply Blk.cast; (case h => (repeat (first | (with_reducible assumption) | (with_reducible apply Blk.drew) | (with_reducible apply Blk.drewN) | (with_reducible apply Blk.new; first | rfl | (simp; done)) | (with_reducible apply Blk.alloc) | (with_reducible apply Blk.set_) | (with_reducible apply Blk.past; focus assumption) | (with_reducible apply Blk.far; focus (first | (simp; done) | (simp; omega) | (dsimp only; omega)))))); (case e => rfl))))
    (focus (repeat (first | (with_reducible exact Touch.refl _ _) | (with_reducible assumption) | (with_reducible apply Touch.drew) | (with_reducible apply Touch.drewN) | (with_reducible apply Touch.alloc) | (with_reducible refine Touch.set_ ?_ _ _ (by simp; done)) | (with_reducible refine Touch.set_new ?_ _ _ (by first | omega | (simp; omega) | (dsimp only; omega))))))
    intro w3 x_3 t_3 hX3
    have sX3 := hX3.size
    have b_3 := hX3.below b_2 (by first | (simp; done) | (simp; omega))
    have p_3 := Blk.touch hX3 p_2 (by first | (simp; done) | (simp; omega))
    have q_3 := Blk.touch hX3 q_2 (by first | (simp; done) | (simp; omega))
    have u_3 := Blk.touch hX3 u_2 (by first | (simp; done) | (simp; omega))
    have y_3 := Blk.touch hX3 y_2 (by first | (simp; done) | (simp; omega))
    clear t_2 p_2 q_2 u_2 x_2 y_2 b_2 cell_t froz_t lt_t cell_p froz_p lt_p cell_q froz_q lt_q cell_u froz_u lt_u cell_x froz_x lt_x cell_y froz_y lt_y hX3
    have cell_t := t_3.cell
    have froz_t := t_3.frozen
    have lt_t := t_3.lt
    have cell_p := p_3.cell
    have froz_p := p_3.frozen
    have lt_p := p_3.lt
    have cell_q := q_3.cell
    have froz_q := q_3.frozen
    have lt_q := q_3.lt
    have cell_u := u_3.cell
    have froz_u := u_3.frozen
    have lt_u := u_3.lt
    have cell_x := x_3.cell
    have froz_x := x_3.frozen
    have lt_x := x_3.lt
    have cell_y := y_3.cell
    have froz_y := y_3.frozen
    have lt_y := y_3.lt
    go_wp2_with fail
    refine calls_forget0 (W := w3) ?_ ?_
    (focus (repeat (first | (with_reducible exact Below.refl _ _) | (with_reducible refine Below.trans ?_ (Below.mono (by assumption) (by first | omega | (simp; done) | (simp; omega) | (simp [*]; done)))) | (with_reducible refine Below.alloc ?_ (by first | omega | (simp; done) | (simp; omega) | (simp [*]; done)) _) | (with_reducible refine Below.setCell ?_ (by first | omega | (simp; done) | (simp; omega) | (simp [*]; done)) _) | (with_reducible refine Below.drew ?_) | (with_reducible refine below_drewN ?_))))
    intro X4 hX4
    have sX4 := hX4.size
    refine (TB.out _).mono ?_
    rintro e w4 ⟨rfl, hb4⟩
    have s4 := hb4.size
    have hT4 := hX4.trans (hb4.mono sX4)
    have b_4 := b_3.trans (hT4.mono (by omega))
    have t_4 := Blk.past hT4 t_3
    have p_4 := Blk.past hT4 p_3
    have q_4 := Blk.past hT4 q_3
    have u_4 := Blk.past hT4 u_3
    have x_4 := Blk.past hT4 x_3
    have y_4 := Blk.past hT4 y_3
    clear t_3 p_3 q_3 u_3 x_3 y_3 b_3 cell_t froz_t lt_t cell_p froz_p lt_p cell_q froz_q lt_q cell_u froz_u lt_u cell_x froz_x lt_x cell_y froz_y lt_y hX4 hT4 hb4
    have cell_t := t_4.cell
    have froz_t := t_4.frozen
    have lt_t := t_4.lt
    have cell_p := p_4.cell
    have froz_p := p_4.frozen
    have lt_p := p_4.lt
    have cell_q := q_4.cell
    have froz_q := q_4.frozen
    have lt_q := q_4.lt
    have cell_u := u_4.cell
    have froz_u := u_4.frozen
    have lt_u := u_4.lt
    have cell_x := x_4.cell
    have froz_x := x_4.frozen
    have lt_x := x_4.lt
    have cell_y := y_4.cell
    have froz_y := y_4.frozen
    have lt_y := y_4.lt
    go_wp2_with fail
    refine calls_touch2 (w0 := w4) (L := [w1.heap.size, w.heap.size]) (b0 := w1.heap.size) (t0 := 48) (c0 := #[.int .i64 r0, .int .i64 r1]) (b1 := w.heap.size) (t1 := 27) (c1 := #[.int .i64 s, .int .i64 a2]) ?_ ?_ ?_ ?_
    (focus (first | ((repeat (first | (with_reducible assumption) | (with_reducible apply Blk.drew) | (with_reducible apply Blk.drewN) | (with_reducible apply Blk.new; first | rfl | (simp; done)) | (with_reducible apply Blk.alloc) | (with_reducible apply Blk.set_) | (with_reducible apply Blk.past; focus assumption) | (with_reducible apply Blk.far; focus (first | (simp; done) | (simp; omega) | (dsimp only; omega))))); done) | (apply Blk.cast; (case h => (repeat (first | (with_reducible assumption) | (with_reducible apply Blk.drew) | (with_reducible apply Blk.drewN) | (with_reducible apply Blk.new; first | rfl | (simp; done)) | (with_reducible apply Blk.alloc) | (with_reducible apply Blk.set_) | (with_reducible apply Blk.past; focus assumption) | (with_reducible apply Blk.far; focus (first | (simp; done) | (simp; omega) | (dsimp only; omega)))))); (case e => rfl))))
    (focus (first | ((repeat (first | (with_reducible assumption) | (with_reducible apply Blk.drew) | (with_reducible apply Blk.drewN) | (with_reducible apply Blk.new; first | rfl | (simp; done)) | (with_reducible apply Blk.alloc) | (with_reducible apply Blk.set_) | (with_reducible apply Blk.past; focus assumption) | (with_reducible apply Blk.far; focus (first | (simp; done) | (simp; omega) | (dsimp only; omega))))); done) | (apply Blk.cast; (case h => (repeat (first | (with_reducible assumption) | (with_reducible apply Blk.drew) | (with_reducible apply Blk.drewN) | (with_reducible apply Blk.new; first | rfl | (simp; done)) | (with_reducible apply Blk.alloc) | (with_reducible apply Blk.set_) | (with_reducible apply Blk.past; focus assumption) | (with_reducible apply Blk.far; focus (first | (simp; done) | (simp; omega) | (dsimp only; omega)))))); (case e => rfl))))
    (focus (repeat (first | (with_reducible exact Touch.refl _ _) | (with_reducible assumption) | (with_reducible apply Touch.drew) | (with_reducible apply Touch.drewN) | (with_reducible apply Touch.alloc) | (with_reducible refine Touch.set_ ?_ _ _ (by simp; done)) | (with_reducible refine Touch.set_new ?_ _ _ (by first | omega | (simp; omega) | (dsimp only; omega))))))
    intro w5 x_5 t_5 hX5
    have sX5 := hX5.size
    have b_5 := hX5.below b_4 (by first | (simp; done) | (simp; omega))
    have p_5 := Blk.touch hX5 p_4 (by first | (simp; done) | (simp; omega))
    have q_5 := Blk.touch hX5 q_4 (by first | (simp; done) | (simp; omega))
    have u_5 := Blk.touch hX5 u_4 (by first | (simp; done) | (simp; omega))
    have y_5 := Blk.touch hX5 y_4 (by first | (simp; done) | (simp; omega))
    clear t_4 p_4 q_4 u_4 x_4 y_4 b_4 cell_t froz_t lt_t cell_p froz_p lt_p cell_q froz_q lt_q cell_u froz_u lt_u cell_x froz_x lt_x cell_y froz_y lt_y hX5
    have cell_t := t_5.cell
    have froz_t := t_5.frozen
    have lt_t := t_5.lt
    have cell_p := p_5.cell
    have froz_p := p_5.frozen
    have lt_p := p_5.lt
    have cell_q := q_5.cell
    have froz_q := q_5.frozen
    have lt_q := q_5.lt
    have cell_u := u_5.cell
    have froz_u := u_5.frozen
    have lt_u := u_5.lt
    have cell_x := x_5.cell
    have froz_x := x_5.frozen
    have lt_x := x_5.lt
    have cell_y := y_5.cell
    have froz_y := y_5.frozen
    have lt_y := y_5.lt
    go_wp2_with fail
    refine calls_forget0 (W := w5) ?_ ?_
    (focus (repeat (first | (with_reducible exact Below.refl _ _) | (with_reducible refine Below.trans ?_ (Below.mono (by assumption) (by first | omega | (simp; done) | (simp; omega) | (simp [*]; done)))) | (with_reducible refine Below.alloc ?_ (by first | omega | (simp; done) | (simp; omega) | (simp [*]; done)) _) | (with_reducible refine Below.setCell ?_ (by first | omega | (simp; done) | (simp; omega) | (simp [*]; done)) _) | (with_reducible refine Below.drew ?_) | (with_reducible refine below_drewN ?_))))
    intro X6 hX6
    have sX6 := hX6.size
    refine (TC.out _).mono ?_
    rintro e w6 ⟨rfl, hb6⟩
    have s6 := hb6.size
    have hT6 := hX6.trans (hb6.mono sX6)
    have b_6 := b_5.trans (hT6.mono (by omega))
    have t_6 := Blk.past hT6 t_5
    have p_6 := Blk.past hT6 p_5
    have q_6 := Blk.past hT6 q_5
    have u_6 := Blk.past hT6 u_5
    have x_6 := Blk.past hT6 x_5
    have y_6 := Blk.past hT6 y_5
    clear t_5 p_5 q_5 u_5 x_5 y_5 b_5 cell_t froz_t lt_t cell_p froz_p lt_p cell_q froz_q lt_q cell_u froz_u lt_u cell_x froz_x lt_x cell_y froz_y lt_y hX6 hT6 hb6
    have cell_t := t_6.cell
    have froz_t := t_6.frozen
    have lt_t := t_6.lt
    have cell_p := p_6.cell
    have froz_p := p_6.frozen
    have lt_p := p_6.lt
    have cell_q := q_6.cell
    have froz_q := q_6.frozen
    have lt_q := q_6.lt
    have cell_u := u_6.cell
    have froz_u := u_6.frozen
    have lt_u := u_6.lt
    have cell_x := x_6.cell
    have froz_x := x_6.frozen
    have lt_x := x_6.lt
    have cell_y := y_6.cell
    have froz_y := y_6.frozen
    have lt_y := y_6.lt
    go_upto_region 11 with fail
    refine wp_touch2 (w0 := w6) (L := [w1.heap.size + 1, w.heap.size]) (b0 := w1.heap.size + 1) (t0 := 50) (c0 := #[.int .i64 cc, .int .i64 r0]) (b1 := w.heap.size) (t1 := 27) (c1 := #[.int .i64 s, .int .i64 a3]) ?_ ?_ ?_ ?_
    (focus (first | ((repeat (first | (with_reducible assumption) | (with_reducible apply Blk.drew) | (with_reducible apply Blk.drewN) | (with_reducible apply Blk.new; first | rfl | (simp; done)) | (with_reducible apply Blk.alloc) | (with_reducible apply Blk.set_) | (with_reducible apply Blk.past; focus assumption) | (with_reducible apply Blk.far; focus (first | (simp; done) | (simp; omega) | (dsimp only; omega))))); done) | (apply Blk.cast; (case h => (repeat (first | (with_reducible assumption) | (with_reducible apply Blk.drew) | (with_reducible apply Blk.drewN) | (with_reducible apply Blk.new; first | rfl | (simp; done)) | (with_reducible apply Blk.alloc) | (with_reducible apply Blk.set_) | (with_reducible apply Blk.past; focus assumption) | (with_reducible apply Blk.far; focus (first | (simp; done) | (simp; omega) | (dsimp only; omega)))))); (case e => rfl))))
    (focus (first | ((repeat (first | (with_reducible assumption) | (with_reducible apply Blk.drew) | (with_reducible apply Blk.drewN) | (with_reducible apply Blk.new; first | rfl | (simp; done)) | (with_reducible apply Blk.alloc) | (with_reducible apply Blk.set_) | (with_reducible apply Blk.past; focus assumption) | (with_reducible apply Blk.far; focus (first | (simp; done) | (simp; omega) | (dsimp only; omega))))); done) | (apply Blk.cast; (case h => (repeat (first | (with_reducible assumption) | (with_reducible apply Blk.drew) | (with_reducible apply Blk.drewN) | (with_reducible apply Blk.new; first | rfl | (simp; done)) | (with_reducible apply Blk.alloc) | (with_reducible apply Blk.set_) | (with_reducible apply Blk.past; focus assumption) | (with_reducible apply Blk.far; focus (first | (simp; done) | (simp; omega) | (dsimp only; omega)))))); (case e => rfl))))
    (focus (repeat (first | (with_reducible exact Touch.refl _ _) | (with_reducible assumption) | (with_reducible apply Touch.drew) | (with_reducible apply Touch.drewN) | (with_reducible apply Touch.alloc) | (with_reducible refine Touch.set_ ?_ _ _ (by simp; done)) | (with_reducible refine Touch.set_new ?_ _ _ (by first | omega | (simp; omega) | (dsimp only; omega))))))
    intro w7 y_7 t_7 hX7
    have sX7 := hX7.size
    have b_7 := hX7.below b_6 (by first | (simp; done) | (simp; omega))
    have p_7 := Blk.touch hX7 p_6 (by first | (simp; done) | (simp; omega))
    have q_7 := Blk.touch hX7 q_6 (by first | (simp; done) | (simp; omega))
    have u_7 := Blk.touch hX7 u_6 (by first | (simp; done) | (simp; omega))
    have x_7 := Blk.touch hX7 x_6 (by first | (simp; done) | (simp; omega))
    clear t_6 p_6 q_6 u_6 x_6 y_6 b_6 cell_t froz_t lt_t cell_p froz_p lt_p cell_q froz_q lt_q cell_u froz_u lt_u cell_x froz_x lt_x cell_y froz_y lt_y hX7
    have cell_t := t_7.cell
    have froz_t := t_7.frozen
    have lt_t := t_7.lt
    have cell_p := p_7.cell
    have froz_p := p_7.frozen
    have lt_p := p_7.lt
    have cell_q := q_7.cell
    have froz_q := q_7.frozen
    have lt_q := q_7.lt
    have cell_u := u_7.cell
    have froz_u := u_7.frozen
    have lt_u := u_7.lt
    have cell_x := x_7.cell
    have froz_x := x_7.frozen
    have lt_x := x_7.lt
    have cell_y := y_7.cell
    have froz_y := y_7.frozen
    have lt_y := y_7.lt
    go_wp2_with fail
    go_region_held3 (fun w' => w'.cell? ⟨w.heap.size, 0, none⟩ = some (.int .i64 s) ∧ w'.cell? ⟨w.heap.size, 1, none⟩ = some (.int .i64 a3) ∧ w'.cell? ⟨w1.heap.size, 0, none⟩ = some (.int .i64 r0) ∧ w'.cell? ⟨w1.heap.size, 1, none⟩ = some (.int .i64 r1) ∧ w'.cell? ⟨w1.heap.size + 1, 0, none⟩ = some (.int .i64 cc) ∧ w'.cell? ⟨w1.heap.size + 1, 1, none⟩ = some (.int .i64 r0)) (exact ⟨(Blk.cell (t := 27) (cs := #[.int .i64 s, .int .i64 a3]) (by repeat (first | (with_reducible assumption) | (with_reducible apply Blk.drew) | (with_reducible apply Blk.drewN) | (with_reducible apply Blk.new; first | rfl | (simp; done)) | (with_reducible apply Blk.alloc) | (with_reducible apply Blk.set_) | (with_reducible apply Blk.past; focus assumption) | (with_reducible apply Blk.far; focus (first | (simp; done) | (simp; omega) | (dsimp only; omega))))) 0), (Blk.cell (t := 27) (cs := #[.int .i64 s, .int .i64 a3]) (by repeat (first | (with_reducible assumption) | (with_reducible apply Blk.drew) | (with_reducible apply Blk.drewN) | (with_reducible apply Blk.new; first | rfl | (simp; done)) | (with_reducible apply Blk.alloc) | (with_reducible apply Blk.set_) | (with_reducible apply Blk.past; focus assumption) | (with_reducible apply Blk.far; focus (first | (simp; done) | (simp; omega) | (dsimp only; omega))))) 1), (Blk.cell (t := 48) (cs := #[.int .i64 r0, .int .i64 r1]) (by repeat (first | (with_reducible assumption) | (with_reducible apply Blk.drew) | (with_reducible apply Blk.drewN) | (with_reducible apply Blk.new; first | rfl | (simp; done)) | (with_reducible apply Blk.alloc) | (with_reducible apply Blk.set_) | (with_reducible apply Blk.past; focus assumption) | (with_reducible apply Blk.far; focus (first | (simp; done) | (simp; omega) | (dsimp only; omega))))) 0), (Blk.cell (t := 48) (cs := #[.int .i64 r0, .int .i64 r1]) (by repeat (first | (with_reducible assumption) | (with_reducible apply Blk.drew) | (with_reducible apply Blk.drewN) | (with_reducible apply Blk.new; first | rfl | (simp; done)) | (with_reducible apply Blk.alloc) | (with_reducible apply Blk.set_) | (with_reducible apply Blk.past; focus assumption) | (with_reducible apply Blk.far; focus (first | (simp; done) | (simp; omega) | (dsimp only; omega))))) 1), (Blk.cell (t := 50) (cs := #[.int .i64 cc, .int .i64 r0]) (by repeat (first | (with_reducible assumption) | (with_reducible apply Blk.drew) | (with_reducible apply Blk.drewN) | (with_reducible apply Blk.new; first | rfl | (simp; done)) | (with_reducible apply Blk.alloc) | (with_reducible apply Blk.set_) | (with_reducible apply Blk.past; focus assumption) | (with_reducible apply Blk.far; focus (first | (simp; done) | (simp; omega) | (dsimp only; omega))))) 0), (Blk.cell (t := 50) (cs := #[.int .i64 cc, .int .i64 r0]) (by repeat (first | (with_reducible assumption) | (with_reducible apply Blk.drew) | (with_reducible apply Blk.drewN) | (with_reducible apply Blk.new; first | rfl | (simp; done)) | (with_reducible apply Blk.alloc) | (with_reducible apply Blk.set_) | (with_reducible apply Blk.past; focus assumption) | (with_reducible apply Blk.far; focus (first | (simp; done) | (simp; omega) | (dsimp only; omega))))) 1)⟩) (fail)
    all_goals
      go_wp2_with fail
      ((try simp only [Exit.inBlock, Exit.then]); apply bodyPost_ret0; focus ((try simp only [results, Try.results34]); (try go_simp); (try rfl)))
      refine ⟨rfl, ?_⟩
      repeat (first | (with_reducible exact Below.refl _ _) | (with_reducible refine Below.trans ?_ (Below.mono (by assumption) (by first | omega | (simp; done) | (simp; omega) | (simp [*]; done)))) | (with_reducible refine Below.alloc ?_ (by first | omega | (simp; done) | (simp; omega) | (simp [*]; done)) _) | (with_reducible refine Below.setCell ?_ (by first | omega | (simp; done) | (simp; omega) | (simp [*]; done)) _) | (with_reducible refine Below.drew ?_) | (with_reducible refine below_drewN ?_))
  · rw [pick_yes]
    go_enter Try.func34, Try.ntmps34
    have b_0 := (Below.refl w.heap.size w)
    have s_0 := b_0.size
    go_wp2_with fail
    refine calls_forget4 (W := w) (b0 := w.heap.size) (t0 := 27) (c0 := #[.int .i64 s, .int .i64 a]) (b1 := w.heap.size + 1) (t1 := 48) (c1 := #[.int .i64 0, .int .i64 0]) (b2 := w.heap.size + 2) (t2 := 50) (c2 := #[.int .i64 0, .int .i64 0]) (b3 := w.heap.size + 3) (t3 := 27) (c3 := #[.int .i64 0, .int .i64 0]) ?_ ?_ ?_ ?_ ?_ ?_
    (focus (first | ((repeat (first | (with_reducible assumption) | (with_reducible apply Blk.drew) | (with_reducible apply Blk.drewN) | (with_reducible apply Blk.new; first | rfl | (simp; done)) | (with_reducible apply Blk.alloc) | (with_reducible apply Blk.set_) | (with_reducible apply Blk.past; focus assumption) | (with_reducible apply Blk.far; focus (first | (simp; done) | (simp; omega) | (dsimp only; omega))))); done) | (apply Blk.cast; (case h => (repeat (first | (with_reducible assumption) | (with_reducible apply Blk.drew) | (with_reducible apply Blk.drewN) | (with_reducible apply Blk.new; first | rfl | (simp; done)) | (with_reducible apply Blk.alloc) | (with_reducible apply Blk.set_) | (with_reducible apply Blk.past; focus assumption) | (with_reducible apply Blk.far; focus (first | (simp; done) | (simp; omega) | (dsimp only; omega)))))); (case e => rfl))))
    (focus (first | ((repeat (first | (with_reducible assumption) | (with_reducible apply Blk.drew) | (with_reducible apply Blk.drewN) | (with_reducible apply Blk.new; first | rfl | (simp; done)) | (with_reducible apply Blk.alloc) | (with_reducible apply Blk.set_) | (with_reducible apply Blk.past; focus assumption) | (with_reducible apply Blk.far; focus (first | (simp; done) | (simp; omega) | (dsimp only; omega))))); done) | (apply Blk.cast; (case h => (repeat (first | (with_reducible assumption) | (with_reducible apply Blk.drew) | (with_reducible apply Blk.drewN) | (with_reducible apply Blk.new; first | rfl | (simp; done)) | (with_reducible apply Blk.alloc) | (with_reducible apply Blk.set_) | (with_reducible apply Blk.past; focus assumption) | (with_reducible apply Blk.far; focus (first | (simp; done) | (simp; omega) | (dsimp only; omega)))))); (case e => rfl))))
    (focus (first | ((repeat (first | (with_reducible assumption) | (with_reducible apply Blk.drew) | (with_reducible apply Blk.drewN) | (with_reducible apply Blk.new; first | rfl | (simp; done)) | (with_reducible apply Blk.alloc) | (with_reducible apply Blk.set_) | (with_reducible apply Blk.past; focus assumption) | (with_reducible apply Blk.far; focus (first | (simp; done) | (simp; omega) | (dsimp only; omega))))); done) | (apply Blk.cast; (case h => (repeat (first | (with_reducible assumption) | (with_reducible apply Blk.drew) | (with_reducible apply Blk.drewN) | (with_reducible apply Blk.new; first | rfl | (simp; done)) | (with_reducible apply Blk.alloc) | (with_reducible apply Blk.set_) | (with_reducible apply Blk.past; focus assumption) | (with_reducible apply Blk.far; focus (first | (simp; done) | (simp; omega) | (dsimp only; omega)))))); (case e => rfl))))
    (focus (first | ((repeat (first | (with_reducible assumption) | (with_reducible apply Blk.drew) | (with_reducible apply Blk.drewN) | (with_reducible apply Blk.new; first | rfl | (simp; done)) | (with_reducible apply Blk.alloc) | (with_reducible apply Blk.set_) | (with_reducible apply Blk.past; focus assumption) | (with_reducible apply Blk.far; focus (first | (simp; done) | (simp; omega) | (dsimp only; omega))))); done) | (apply Blk.cast; (case h => (repeat (first | (with_reducible assumption) | (with_reducible apply Blk.drew) | (with_reducible apply Blk.drewN) | (with_reducible apply Blk.new; first | rfl | (simp; done)) | (with_reducible apply Blk.alloc) | (with_reducible apply Blk.set_) | (with_reducible apply Blk.past; focus assumption) | (with_reducible apply Blk.far; focus (first | (simp; done) | (simp; omega) | (dsimp only; omega)))))); (case e => rfl))))
    (focus (repeat (first | (with_reducible exact Below.refl _ _) | (with_reducible refine Below.trans ?_ (Below.mono (by assumption) (by first | omega | (simp; done) | (simp; omega) | (simp [*]; done)))) | (with_reducible refine Below.alloc ?_ (by first | omega | (simp; done) | (simp; omega) | (simp [*]; done)) _) | (with_reducible refine Below.setCell ?_ (by first | omega | (simp; done) | (simp; omega) | (simp [*]; done)) _) | (with_reducible refine Below.drew ?_) | (with_reducible refine below_drewN ?_))))
    intro X1 t_n p_n q_n u_n hX1
    have sX1 := hX1.size
    have t_lt := t_n.lt
    have p_lt := p_n.lt
    have q_lt := q_n.lt
    have u_lt := u_n.lt
    refine (iTapeOk _ _ _).mono ?_
    rintro e w1 ⟨rfl, hb1⟩
    have s1 := hb1.size
    have hT1 := hX1.trans (hb1.mono sX1)
    have b_1 := b_0.trans (hT1.mono (by omega))
    have t_1 := Blk.past hb1 t_n
    have p_1 := Blk.past hb1 p_n
    have q_1 := Blk.past hb1 q_n
    have u_1 := Blk.past hb1 u_n
    clear b_0 t_n p_n q_n u_n hX1 hT1 hb1
    have cell_t := t_1.cell
    have froz_t := t_1.frozen
    have lt_t := t_1.lt
    have cell_p := p_1.cell
    have froz_p := p_1.frozen
    have lt_p := p_1.lt
    have cell_q := q_1.cell
    have froz_q := q_1.frozen
    have lt_q := q_1.lt
    have cell_u := u_1.cell
    have froz_u := u_1.frozen
    have lt_u := u_1.lt
    go_wp2_with fail
    refine calls_forget2 (W := w1) (b0 := w1.heap.size) (t0 := 48) (c0 := #[.int .i64 0, .int .i64 0]) (b1 := w1.heap.size + 1) (t1 := 50) (c1 := #[.int .i64 0, .int .i64 0]) ?_ ?_ ?_ ?_
    (focus (first | ((repeat (first | (with_reducible assumption) | (with_reducible apply Blk.drew) | (with_reducible apply Blk.drewN) | (with_reducible apply Blk.new; first | rfl | (simp; done)) | (with_reducible apply Blk.alloc) | (with_reducible apply Blk.set_) | (with_reducible apply Blk.past; focus assumption) | (with_reducible apply Blk.far; focus (first | (simp; done) | (simp; omega) | (dsimp only; omega))))); done) | (apply Blk.cast; (case h => (repeat (first | (with_reducible assumption) | (with_reducible apply Blk.drew) | (with_reducible apply Blk.drewN) | (with_reducible apply Blk.new; first | rfl | (simp; done)) | (with_reducible apply Blk.alloc) | (with_reducible apply Blk.set_) | (with_reducible apply Blk.past; focus assumption) | (with_reducible apply Blk.far; focus (first | (simp; done) | (simp; omega) | (dsimp only; omega)))))); (case e => rfl))))
    (focus (first | ((repeat (first | (with_reducible assumption) | (with_reducible apply Blk.drew) | (with_reducible apply Blk.drewN) | (with_reducible apply Blk.new; first | rfl | (simp; done)) | (with_reducible apply Blk.alloc) | (with_reducible apply Blk.set_) | (with_reducible apply Blk.past; focus assumption) | (with_reducible apply Blk.far; focus (first | (simp; done) | (simp; omega) | (dsimp only; omega))))); done) | (apply Blk.cast; (case h => (repeat (first | (with_reducible assumption) | (with_reducible apply Blk.drew) | (with_reducible apply Blk.drewN) | (with_reducible apply Blk.new; first | rfl | (simp; done)) | (with_reducible apply Blk.alloc) | (with_reducible apply Blk.set_) | (with_reducible apply Blk.past; focus assumption) | (with_reducible apply Blk.far; focus (first | (simp; done) | (simp; omega) | (dsimp only; omega)))))); (case e => rfl))))
    (focus (repeat (first | (with_reducible exact Below.refl _ _) | (with_reducible refine Below.trans ?_ (Below.mono (by assumption) (by first | omega | (simp; done) | (simp; omega) | (simp [*]; done)))) | (with_reducible refine Below.alloc ?_ (by first | omega | (simp; done) | (simp; omega) | (simp [*]; done)) _) | (with_reducible refine Below.setCell ?_ (by first | omega | (simp; done) | (simp; omega) | (simp [*]; done)) _) | (with_reducible refine Below.drew ?_) | (with_reducible refine below_drewN ?_))))
    intro X2 x_n y_n hX2
    have sX2 := hX2.size
    have x_lt := x_n.lt
    have y_lt := y_n.lt
    refine (TA.out _).mono ?_
    rintro e w2 ⟨rfl, hb2⟩
    have s2 := hb2.size
    have hT2 := hX2.trans (hb2.mono sX2)
    have b_2 := b_1.trans (hT2.mono (by omega))
    have t_2 := Blk.past hT2 t_1
    have p_2 := Blk.past hT2 p_1
    have q_2 := Blk.past hT2 q_1
    have u_2 := Blk.past hT2 u_1
    have x_2 := Blk.past hb2 x_n
    have y_2 := Blk.past hb2 y_n
    clear t_1 p_1 q_1 u_1 b_1 cell_t froz_t lt_t cell_p froz_p lt_p cell_q froz_q lt_q cell_u froz_u lt_u x_n y_n hX2 hT2 hb2
    have cell_t := t_2.cell
    have froz_t := t_2.frozen
    have lt_t := t_2.lt
    have cell_p := p_2.cell
    have froz_p := p_2.frozen
    have lt_p := p_2.lt
    have cell_q := q_2.cell
    have froz_q := q_2.frozen
    have lt_q := q_2.lt
    have cell_u := u_2.cell
    have froz_u := u_2.frozen
    have lt_u := u_2.lt
    have cell_x := x_2.cell
    have froz_x := x_2.frozen
    have lt_x := x_2.lt
    have cell_y := y_2.cell
    have froz_y := y_2.frozen
    have lt_y := y_2.lt
    go_wp2_with fail
    refine calls_touch2 (w0 := w2) (L := [w1.heap.size, w.heap.size]) (b0 := w1.heap.size) (t0 := 48) (c0 := #[.int .i64 r0, .int .i64 0]) (b1 := w.heap.size) (t1 := 27) (c1 := #[.int .i64 s, .int .i64 a1]) ?_ ?_ ?_ ?_
    (focus (first | ((repeat (first | (with_reducible assumption) | (with_reducible apply Blk.drew) | (with_reducible apply Blk.drewN) | (with_reducible apply Blk.new; first | rfl | (simp; done)) | (with_reducible apply Blk.alloc) | (with_reducible apply Blk.set_) | (with_reducible apply Blk.past; focus assumption) | (with_reducible apply Blk.far; focus (first | (simp; done) | (simp; omega) | (dsimp only; omega))))); done) | (apply Blk.cast; (case h => (repeat (first | (with_reducible assumption) | (with_reducible apply Blk.drew) | (with_reducible apply Blk.drewN) | (with_reducible apply Blk.new; first | rfl | (simp; done)) | (with_reducible apply Blk.alloc) | (with_reducible apply Blk.set_) | (with_reducible apply Blk.past; focus assumption) | (with_reducible apply Blk.far; focus (first | (simp; done) | (simp; omega) | (dsimp only; omega)))))); (case e => rfl))))
    (focus (first | ((repeat (first | (with_reducible assumption) | (with_reducible apply Blk.drew) | (with_reducible apply Blk.drewN) | (with_reducible apply Blk.new; first | rfl | (simp; done)) | (with_reducible apply Blk.alloc) | (with_reducible apply Blk.set_) | (with_reducible apply Blk.past; focus assumption) | (with_reducible apply Blk.far; focus (first | (simp; done) | (simp; omega) | (dsimp only; omega))))); done) | (apply Blk.cast; (case h => (repeat (first | (with_reducible assumption) | (with_reducible apply Blk.drew) | (with_reducible apply Blk.drewN) | (with_reducible apply Blk.new; first | rfl | (simp; done)) | (with_reducible apply Blk.alloc) | (with_reducible apply Blk.set_) | (with_reducible apply Blk.past; focus assumption) | (with_reducible apply Blk.far; focus (first | (simp; done) | (simp; omega) | (dsimp only; omega)))))); (case e => rfl))))
    (focus (repeat (first | (with_reducible exact Touch.refl _ _) | (with_reducible assumption) | (with_reducible apply Touch.drew) | (with_reducible apply Touch.drewN) | (with_reducible apply Touch.alloc) | (with_reducible refine Touch.set_ ?_ _ _ (by simp; done)) | (with_reducible refine Touch.set_new ?_ _ _ (by first | omega | (simp; omega) | (dsimp only; omega))))))
    intro w3 x_3 t_3 hX3
    have sX3 := hX3.size
    have b_3 := hX3.below b_2 (by first | (simp; done) | (simp; omega))
    have p_3 := Blk.touch hX3 p_2 (by first | (simp; done) | (simp; omega))
    have q_3 := Blk.touch hX3 q_2 (by first | (simp; done) | (simp; omega))
    have u_3 := Blk.touch hX3 u_2 (by first | (simp; done) | (simp; omega))
    have y_3 := Blk.touch hX3 y_2 (by first | (simp; done) | (simp; omega))
    clear t_2 p_2 q_2 u_2 x_2 y_2 b_2 cell_t froz_t lt_t cell_p froz_p lt_p cell_q froz_q lt_q cell_u froz_u lt_u cell_x froz_x lt_x cell_y froz_y lt_y hX3
    have cell_t := t_3.cell
    have froz_t := t_3.frozen
    have lt_t := t_3.lt
    have cell_p := p_3.cell
    have froz_p := p_3.frozen
    have lt_p := p_3.lt
    have cell_q := q_3.cell
    have froz_q := q_3.frozen
    have lt_q := q_3.lt
    have cell_u := u_3.cell
    have froz_u := u_3.frozen
    have lt_u := u_3.lt
    have cell_x := x_3.cell
    have froz_x := x_3.frozen
    have lt_x := x_3.lt
    have cell_y := y_3.cell
    have froz_y := y_3.frozen
    have lt_y := y_3.lt
    go_wp2_with fail
    refine calls_forget0 (W := w3) ?_ ?_
    (focus (repeat (first | (with_reducible exact Below.refl _ _) | (with_reducible refine Below.trans ?_ (Below.mono (by assumption) (by first | omega | (simp; done) | (simp; omega) | (simp [*]; done)))) | (with_reducible refine Below.alloc ?_ (by first | omega | (simp; done) | (simp; omega) | (simp [*]; done)) _) | (with_reducible refine Below.setCell ?_ (by first | omega | (simp; done) | (simp; omega) | (simp [*]; done)) _) | (with_reducible refine Below.drew ?_) | (with_reducible refine below_drewN ?_))))
    intro X4 hX4
    have sX4 := hX4.size
    refine (TB.out _).mono ?_
    rintro e w4 ⟨rfl, hb4⟩
    have s4 := hb4.size
    have hT4 := hX4.trans (hb4.mono sX4)
    have b_4 := b_3.trans (hT4.mono (by omega))
    have t_4 := Blk.past hT4 t_3
    have p_4 := Blk.past hT4 p_3
    have q_4 := Blk.past hT4 q_3
    have u_4 := Blk.past hT4 u_3
    have x_4 := Blk.past hT4 x_3
    have y_4 := Blk.past hT4 y_3
    clear t_3 p_3 q_3 u_3 x_3 y_3 b_3 cell_t froz_t lt_t cell_p froz_p lt_p cell_q froz_q lt_q cell_u froz_u lt_u cell_x froz_x lt_x cell_y froz_y lt_y hX4 hT4 hb4
    have cell_t := t_4.cell
    have froz_t := t_4.frozen
    have lt_t := t_4.lt
    have cell_p := p_4.cell
    have froz_p := p_4.frozen
    have lt_p := p_4.lt
    have cell_q := q_4.cell
    have froz_q := q_4.frozen
    have lt_q := q_4.lt
    have cell_u := u_4.cell
    have froz_u := u_4.frozen
    have lt_u := u_4.lt
    have cell_x := x_4.cell
    have froz_x := x_4.frozen
    have lt_x := x_4.lt
    have cell_y := y_4.cell
    have froz_y := y_4.frozen
    have lt_y := y_4.lt
    go_wp2_with fail
    refine calls_touch2 (w0 := w4) (L := [w1.heap.size, w.heap.size]) (b0 := w1.heap.size) (t0 := 48) (c0 := #[.int .i64 r0, .int .i64 r1]) (b1 := w.heap.size) (t1 := 27) (c1 := #[.int .i64 s, .int .i64 a2]) ?_ ?_ ?_ ?_
    (focus (first | ((repeat (first | (with_reducible assumption) | (with_reducible apply Blk.drew) | (with_reducible apply Blk.drewN) | (with_reducible apply Blk.new; first | rfl | (simp; done)) | (with_reducible apply Blk.alloc) | (with_reducible apply Blk.set_) | (with_reducible apply Blk.past; focus assumption) | (with_reducible apply Blk.far; focus (first | (simp; done) | (simp; omega) | (dsimp only; omega))))); done) | (apply Blk.cast; (case h => (repeat (first | (with_reducible assumption) | (with_reducible apply Blk.drew) | (with_reducible apply Blk.drewN) | (with_reducible apply Blk.new; first | rfl | (simp; done)) | (with_reducible apply Blk.alloc) | (with_reducible apply Blk.set_) | (with_reducible apply Blk.past; focus assumption) | (with_reducible apply Blk.far; focus (first | (simp; done) | (simp; omega) | (dsimp only; omega)))))); (case e => rfl))))
    (focus (first | ((repeat (first | (with_reducible assumption) | (with_reducible apply Blk.drew) | (with_reducible apply Blk.drewN) | (with_reducible apply Blk.new; first | rfl | (simp; done)) | (with_reducible apply Blk.alloc) | (with_reducible apply Blk.set_) | (with_reducible apply Blk.past; focus assumption) | (with_reducible apply Blk.far; focus (first | (simp; done) | (simp; omega) | (dsimp only; omega))))); done) | (apply Blk.cast; (case h => (repeat (first | (with_reducible assumption) | (with_reducible apply Blk.drew) | (with_reducible apply Blk.drewN) | (with_reducible apply Blk.new; first | rfl | (simp; done)) | (with_reducible apply Blk.alloc) | (with_reducible apply Blk.set_) | (with_reducible apply Blk.past; focus assumption) | (with_reducible apply Blk.far; focus (first | (simp; done) | (simp; omega) | (dsimp only; omega)))))); (case e => rfl))))
    (focus (repeat (first | (with_reducible exact Touch.refl _ _) | (with_reducible assumption) | (with_reducible apply Touch.drew) | (with_reducible apply Touch.drewN) | (with_reducible apply Touch.alloc) | (with_reducible refine Touch.set_ ?_ _ _ (by simp; done)) | (with_reducible refine Touch.set_new ?_ _ _ (by first | omega | (simp; omega) | (dsimp only; omega))))))
    intro w5 x_5 t_5 hX5
    have sX5 := hX5.size
    have b_5 := hX5.below b_4 (by first | (simp; done) | (simp; omega))
    have p_5 := Blk.touch hX5 p_4 (by first | (simp; done) | (simp; omega))
    have q_5 := Blk.touch hX5 q_4 (by first | (simp; done) | (simp; omega))
    have u_5 := Blk.touch hX5 u_4 (by first | (simp; done) | (simp; omega))
    have y_5 := Blk.touch hX5 y_4 (by first | (simp; done) | (simp; omega))
    clear t_4 p_4 q_4 u_4 x_4 y_4 b_4 cell_t froz_t lt_t cell_p froz_p lt_p cell_q froz_q lt_q cell_u froz_u lt_u cell_x froz_x lt_x cell_y froz_y lt_y hX5
    have cell_t := t_5.cell
    have froz_t := t_5.frozen
    have lt_t := t_5.lt
    have cell_p := p_5.cell
    have froz_p := p_5.frozen
    have lt_p := p_5.lt
    have cell_q := q_5.cell
    have froz_q := q_5.frozen
    have lt_q := q_5.lt
    have cell_u := u_5.cell
    have froz_u := u_5.frozen
    have lt_u := u_5.lt
    have cell_x := x_5.cell
    have froz_x := x_5.frozen
    have lt_x := x_5.lt
    have cell_y := y_5.cell
    have froz_y := y_5.frozen
    have lt_y := y_5.lt
    go_wp2_with fail
    refine calls_forget0 (W := w5) ?_ ?_
    (focus (repeat (first | (with_reducible exact Below.refl _ _) | (with_reducible refine Below.trans ?_ (Below.mono (by assumption) (by first | omega | (simp; done) | (simp; omega) | (simp [*]; done)))) | (with_reducible refine Below.alloc ?_ (by first | omega | (simp; done) | (simp; omega) | (simp [*]; done)) _) | (with_reducible refine Below.setCell ?_ (by first | omega | (simp; done) | (simp; omega) | (simp [*]; done)) _) | (with_reducible refine Below.drew ?_) | (with_reducible refine below_drewN ?_))))
    intro X6 hX6
    have sX6 := hX6.size
    refine (TC.out _).mono ?_
    rintro e w6 ⟨rfl, hb6⟩
    have s6 := hb6.size
    have hT6 := hX6.trans (hb6.mono sX6)
    have b_6 := b_5.trans (hT6.mono (by omega))
    have t_6 := Blk.past hT6 t_5
    have p_6 := Blk.past hT6 p_5
    have q_6 := Blk.past hT6 q_5
    have u_6 := Blk.past hT6 u_5
    have x_6 := Blk.past hT6 x_5
    have y_6 := Blk.past hT6 y_5
    clear t_5 p_5 q_5 u_5 x_5 y_5 b_5 cell_t froz_t lt_t cell_p froz_p lt_p cell_q froz_q lt_q cell_u froz_u lt_u cell_x froz_x lt_x cell_y froz_y lt_y hX6 hT6 hb6
    have cell_t := t_6.cell
    have froz_t := t_6.frozen
    have lt_t := t_6.lt
    have cell_p := p_6.cell
    have froz_p := p_6.frozen
    have lt_p := p_6.lt
    have cell_q := q_6.cell
    have froz_q := q_6.frozen
    have lt_q := q_6.lt
    have cell_u := u_6.cell
    have froz_u := u_6.frozen
    have lt_u := u_6.lt
    have cell_x := x_6.cell
    have froz_x := x_6.frozen
    have lt_x := x_6.lt
    have cell_y := y_6.cell
    have froz_y := y_6.frozen
    have lt_y := y_6.lt
    go_upto_region 11 with fail
    refine wp_touch2 (w0 := w6) (L := [w1.heap.size + 1, w.heap.size]) (b0 := w1.heap.size + 1) (t0 := 50) (c0 := #[.int .i64 cc, .int .i64 r1]) (b1 := w.heap.size) (t1 := 27) (c1 := #[.int .i64 s, .int .i64 a3]) ?_ ?_ ?_ ?_
    (focus (first | ((repeat (first | (with_reducible assumption) | (with_reducible apply Blk.drew) | (with_reducible apply Blk.drewN) | (with_reducible apply Blk.new; first | rfl | (simp; done)) | (with_reducible apply Blk.alloc) | (with_reducible apply Blk.set_) | (with_reducible apply Blk.past; focus assumption) | (with_reducible apply Blk.far; focus (first | (simp; done) | (simp; omega) | (dsimp only; omega))))); done) | (apply Blk.cast; (case h => (repeat (first | (with_reducible assumption) | (with_reducible apply Blk.drew) | (with_reducible apply Blk.drewN) | (with_reducible apply Blk.new; first | rfl | (simp; done)) | (with_reducible apply Blk.alloc) | (with_reducible apply Blk.set_) | (with_reducible apply Blk.past; focus assumption) | (with_reducible apply Blk.far; focus (first | (simp; done) | (simp; omega) | (dsimp only; omega)))))); (case e => rfl))))
    (focus (first | ((repeat (first | (with_reducible assumption) | (with_reducible apply Blk.drew) | (with_reducible apply Blk.drewN) | (with_reducible apply Blk.new; first | rfl | (simp; done)) | (with_reducible apply Blk.alloc) | (with_reducible apply Blk.set_) | (with_reducible apply Blk.past; focus assumption) | (with_reducible apply Blk.far; focus (first | (simp; done) | (simp; omega) | (dsimp only; omega))))); done) | (apply Blk.cast; (case h => (repeat (first | (with_reducible assumption) | (with_reducible apply Blk.drew) | (with_reducible apply Blk.drewN) | (with_reducible apply Blk.new; first | rfl | (simp; done)) | (with_reducible apply Blk.alloc) | (with_reducible apply Blk.set_) | (with_reducible apply Blk.past; focus assumption) | (with_reducible apply Blk.far; focus (first | (simp; done) | (simp; omega) | (dsimp only; omega)))))); (case e => rfl))))
    (focus (repeat (first | (with_reducible exact Touch.refl _ _) | (with_reducible assumption) | (with_reducible apply Touch.drew) | (with_reducible apply Touch.drewN) | (with_reducible apply Touch.alloc) | (with_reducible refine Touch.set_ ?_ _ _ (by simp; done)) | (with_reducible refine Touch.set_new ?_ _ _ (by first | omega | (simp; omega) | (dsimp only; omega))))))
    intro w7 y_7 t_7 hX7
    have sX7 := hX7.size
    have b_7 := hX7.below b_6 (by first | (simp; done) | (simp; omega))
    have p_7 := Blk.touch hX7 p_6 (by first | (simp; done) | (simp; omega))
    have q_7 := Blk.touch hX7 q_6 (by first | (simp; done) | (simp; omega))
    have u_7 := Blk.touch hX7 u_6 (by first | (simp; done) | (simp; omega))
    have x_7 := Blk.touch hX7 x_6 (by first | (simp; done) | (simp; omega))
    clear t_6 p_6 q_6 u_6 x_6 y_6 b_6 cell_t froz_t lt_t cell_p froz_p lt_p cell_q froz_q lt_q cell_u froz_u lt_u cell_x froz_x lt_x cell_y froz_y lt_y hX7
    have cell_t := t_7.cell
    have froz_t := t_7.frozen
    have lt_t := t_7.lt
    have cell_p := p_7.cell
    have froz_p := p_7.frozen
    have lt_p := p_7.lt
    have cell_q := q_7.cell
    have froz_q := q_7.frozen
    have lt_q := q_7.lt
    have cell_u := u_7.cell
    have froz_u := u_7.frozen
    have lt_u := u_7.lt
    have cell_x := x_7.cell
    have froz_x := x_7.frozen
    have lt_x := x_7.lt
    have cell_y := y_7.cell
    have froz_y := y_7.frozen
    have lt_y := y_7.lt
    go_wp2_with fail
    go_region_held3 (fun w' => w'.cell? ⟨w.heap.size, 0, none⟩ = some (.int .i64 s) ∧ w'.cell? ⟨w.heap.size, 1, none⟩ = some (.int .i64 a3) ∧ w'.cell? ⟨w1.heap.size, 0, none⟩ = some (.int .i64 r0) ∧ w'.cell? ⟨w1.heap.size, 1, none⟩ = some (.int .i64 r1) ∧ w'.cell? ⟨w1.heap.size + 1, 0, none⟩ = some (.int .i64 cc) ∧ w'.cell? ⟨w1.heap.size + 1, 1, none⟩ = some (.int .i64 r1)) (exact ⟨(Blk.cell (t := 27) (cs := #[.int .i64 s, .int .i64 a3]) (by repeat (first | (with_reducible assumption) | (with_reducible apply Blk.drew) | (with_reducible apply Blk.drewN) | (with_reducible apply Blk.new; first | rfl | (simp; done)) | (with_reducible apply Blk.alloc) | (with_reducible apply Blk.set_) | (with_reducible apply Blk.past; focus assumption) | (with_reducible apply Blk.far; focus (first | (simp; done) | (simp; omega) | (dsimp only; omega))))) 0), (Blk.cell (t := 27) (cs := #[.int .i64 s, .int .i64 a3]) (by repeat (first | (with_reducible assumption) | (with_reducible apply Blk.drew) | (with_reducible apply Blk.drewN) | (with_reducible apply Blk.new; first | rfl | (simp; done)) | (with_reducible apply Blk.alloc) | (with_reducible apply Blk.set_) | (with_reducible apply Blk.past; focus assumption) | (with_reducible apply Blk.far; focus (first | (simp; done) | (simp; omega) | (dsimp only; omega))))) 1), (Blk.cell (t := 48) (cs := #[.int .i64 r0, .int .i64 r1]) (by repeat (first | (with_reducible assumption) | (with_reducible apply Blk.drew) | (with_reducible apply Blk.drewN) | (with_reducible apply Blk.new; first | rfl | (simp; done)) | (with_reducible apply Blk.alloc) | (with_reducible apply Blk.set_) | (with_reducible apply Blk.past; focus assumption) | (with_reducible apply Blk.far; focus (first | (simp; done) | (simp; omega) | (dsimp only; omega))))) 0), (Blk.cell (t := 48) (cs := #[.int .i64 r0, .int .i64 r1]) (by repeat (first | (with_reducible assumption) | (with_reducible apply Blk.drew) | (with_reducible apply Blk.drewN) | (with_reducible apply Blk.new; first | rfl | (simp; done)) | (with_reducible apply Blk.alloc) | (with_reducible apply Blk.set_) | (with_reducible apply Blk.past; focus assumption) | (with_reducible apply Blk.far; focus (first | (simp; done) | (simp; omega) | (dsimp only; omega))))) 1), (Blk.cell (t := 50) (cs := #[.int .i64 cc, .int .i64 r1]) (by repeat (first | (with_reducible assumption) | (with_reducible apply Blk.drew) | (with_reducible apply Blk.drewN) | (with_reducible apply Blk.new; first | rfl | (simp; done)) | (with_reducible apply Blk.alloc) | (with_reducible apply Blk.set_) | (with_reducible apply Blk.past; focus assumption) | (with_reducible apply Blk.far; focus (first | (simp; done) | (simp; omega) | (dsimp only; omega))))) 0), (Blk.cell (t := 50) (cs := #[.int .i64 cc, .int .i64 r1]) (by repeat (first | (with_reducible assumption) | (with_reducible apply Blk.drew) | (with_reducible apply Blk.drewN) | (with_reducible apply Blk.new; first | rfl | (simp; done)) | (with_reducible apply Blk.alloc) | (with_reducible apply Blk.set_) | (with_reducible apply Blk.past; focus assumption) | (with_reducible apply Blk.far; focus (first | (simp; done) | (simp; omega) | (dsimp only; omega))))) 1)⟩) (fail)
    all_goals
      go_wp2_with fail
      ((try simp only [Exit.inBlock, Exit.then]); apply bodyPost_ret0; focus ((try simp only [results, Try.results34]); (try go_simp); (try rfl)))
      refine ⟨rfl, ?_⟩
      repeat (first | (with_reducible exact Below.refl _ _) | (with_reducible refine Below.trans ?_ (Below.mono (by assumption) (by first | omega | (simp; done) | (simp; omega) | (simp [*]; done)))) | (with_reducible refine Below.alloc ?_ (by first | omega | (simp; done) | (simp; omega) | (simp [*]; done)) _) | (with_reducible refine Below.setCell ?_ (by first | omega | (simp; done) | (simp; omega) | (simp [*]; done)) _) | (with_reducible refine Below.drew ?_) | (with_reducible refine below_drewN ?_))
set_option maxHeartbeats 1600000 in
theorem sOtDeal (s a : Int) (w : World) (h1 : tapeOkB s a = true) (h2 : a ≤ 900000) :
    Calls Try.prog 23 #[.agg #[.int .i64 s, .int .i64 a]] w fun e w' => e = .returned (.tuple #[.agg #[.int .i64 (dealA s a), .int .i64 (dealB s a)], .agg #[.int .i64 (dealC s a), .int .i64 (dealR s a)], .agg #[.int .i64 s, .int .i64 (dealAt s a)]]) ∧ Below w.heap.size w w' := by
  have h3 : (tapeOkB s a && decide (a ≤ 900000)) = true := by simp [h1, h2]
  clear h2
  have TA := hid (fun w => sTapeBelow s a 65536 w)
  have TB := hid (fun w => sTapeBelow s (belowAt s a 65536) 65536 w)
  have TC := hid (fun w => sTapeBelow s (belowAt s (belowAt s a 65536) 65536) 2 w)
  obtain ⟨a1, e1⟩ : ∃ x, belowAt s a 65536 = x := ⟨_, rfl⟩
  unfold dealR dealAt dealA dealB dealC
  rw [e1] at TA TB TC ⊢
  obtain ⟨a2, e2⟩ : ∃ x, belowAt s a1 65536 = x := ⟨_, rfl⟩
  rw [e2] at TB TC ⊢
  obtain ⟨a3, e3⟩ : ∃ x, belowAt s a2 2 = x := ⟨_, rfl⟩
  obtain ⟨r0, f0⟩ : ∃ x, belowI s a 65536 = x := ⟨_, rfl⟩
  obtain ⟨r1, f1⟩ : ∃ x, belowI s a1 65536 = x := ⟨_, rfl⟩
  obtain ⟨cc, f2⟩ : ∃ x, belowI s a2 2 = x := ⟨_, rfl⟩
  rw [f0] at TA ⊢
  rw [f1] at TB ⊢
  rw [f2, e3] at TC ⊢
  clear e1 e2 e3 f0 f1 f2
  cases hcc : cc == 1
  · rw [pick_no]
    go_enter Try.func23, Try.ntmps23
    have b_0 := (Below.refl w.heap.size w)
    have s_0 := b_0.size
    go_wp2_with fail
    refine calls_forget4 (W := w) (b0 := w.heap.size) (t0 := 27) (c0 := #[.int .i64 s, .int .i64 a]) (b1 := w.heap.size + 1) (t1 := 48) (c1 := #[.int .i64 0, .int .i64 0]) (b2 := w.heap.size + 2) (t2 := 50) (c2 := #[.int .i64 0, .int .i64 0]) (b3 := w.heap.size + 3) (t3 := 27) (c3 := #[.int .i64 0, .int .i64 0]) ?_ ?_ ?_ ?_ ?_ ?_
    (focus (first | ((repeat (first | (with_reducible assumption) | (with_reducible apply Blk.drew) | (with_reducible apply Blk.drewN) | (with_reducible apply Blk.new; first | rfl | (simp; done)) | (with_reducible apply Blk.alloc) | (with_reducible apply Blk.set_) | (with_reducible apply Blk.past; focus assumption) | (with_reducible apply Blk.far; focus (first | (simp; done) | (simp; omega) | (dsimp only; omega))))); done) | (apply Blk.cast; (case h => (repeat (first | (with_reducible assumption) | (with_reducible apply Blk.drew) | (with_reducible apply Blk.drewN) | (with_reducible apply Blk.new; first | rfl | (simp; done)) | (with_reducible apply Blk.alloc) | (with_reducible apply Blk.set_) | (with_reducible apply Blk.past; focus assumption) | (with_reducible apply Blk.far; focus (first | (simp; done) | (simp; omega) | (dsimp only; omega)))))); (case e => rfl))))
    (focus (first | ((repeat (first | (with_reducible assumption) | (with_reducible apply Blk.drew) | (with_reducible apply Blk.drewN) | (with_reducible apply Blk.new; first | rfl | (simp; done)) | (with_reducible apply Blk.alloc) | (with_reducible apply Blk.set_) | (with_reducible apply Blk.past; focus assumption) | (with_reducible apply Blk.far; focus (first | (simp; done) | (simp; omega) | (dsimp only; omega))))); done) | (apply Blk.cast; (case h => (repeat (first | (with_reducible assumption) | (with_reducible apply Blk.drew) | (with_reducible apply Blk.drewN) | (with_reducible apply Blk.new; first | rfl | (simp; done)) | (with_reducible apply Blk.alloc) | (with_reducible apply Blk.set_) | (with_reducible apply Blk.past; focus assumption) | (with_reducible apply Blk.far; focus (first | (simp; done) | (simp; omega) | (dsimp only; omega)))))); (case e => rfl))))
    (focus (first | ((repeat (first | (with_reducible assumption) | (with_reducible apply Blk.drew) | (with_reducible apply Blk.drewN) | (with_reducible apply Blk.new; first | rfl | (simp; done)) | (with_reducible apply Blk.alloc) | (with_reducible apply Blk.set_) | (with_reducible apply Blk.past; focus assumption) | (with_reducible apply Blk.far; focus (first | (simp; done) | (simp; omega) | (dsimp only; omega))))); done) | (apply Blk.cast; (case h => (repeat (first | (with_reducible assumption) | (with_reducible apply Blk.drew) | (with_reducible apply Blk.drewN) | (with_reducible apply Blk.new; first | rfl | (simp; done)) | (with_reducible apply Blk.alloc) | (with_reducible apply Blk.set_) | (with_reducible apply Blk.past; focus assumption) | (with_reducible apply Blk.far; focus (first | (simp; done) | (simp; omega) | (dsimp only; omega)))))); (case e => rfl))))
    (focus (first | ((repeat (first | (with_reducible assumption) | (with_reducible apply Blk.drew) | (with_reducible apply Blk.drewN) | (with_reducible apply Blk.new; first | rfl | (simp; done)) | (with_reducible apply Blk.alloc) | (with_reducible apply Blk.set_) | (with_reducible apply Blk.past; focus assumption) | (with_reducible apply Blk.far; focus (first | (simp; done) | (simp; omega) | (dsimp only; omega))))); done) | (apply Blk.cast; (case h => (repeat (first | (with_reducible assumption) | (with_reducible apply Blk.drew) | (with_reducible apply Blk.drewN) | (with_reducible apply Blk.new; first | rfl | (simp; done)) | (with_reducible apply Blk.alloc) | (with_reducible apply Blk.set_) | (with_reducible apply Blk.past; focus assumption) | (with_reducible apply Blk.far; focus (first | (simp; done) | (simp; omega) | (dsimp only; omega)))))); (case e => rfl))))
    (focus (repeat (first | (with_reducible exact Below.refl _ _) | (with_reducible refine Below.trans ?_ (Below.mono (by assumption) (by first | omega | (simp; done) | (simp; omega) | (simp [*]; done)))) | (with_reducible refine Below.alloc ?_ (by first | omega | (simp; done) | (simp; omega) | (simp [*]; done)) _) | (with_reducible refine Below.setCell ?_ (by first | omega | (simp; done) | (simp; omega) | (simp [*]; done)) _) | (with_reducible refine Below.drew ?_) | (with_reducible refine below_drewN ?_))))
    intro X1 t_n p_n q_n u_n hX1
    have sX1 := hX1.size
    have t_lt := t_n.lt
    have p_lt := p_n.lt
    have q_lt := q_n.lt
    have u_lt := u_n.lt
    refine (s_l06 _ _ _).mono ?_
    rintro e w1 ⟨rfl, hb1⟩
    have s1 := hb1.size
    have hT1 := hX1.trans (hb1.mono sX1)
    have b_1 := b_0.trans (hT1.mono (by omega))
    have t_1 := Blk.past hb1 t_n
    have p_1 := Blk.past hb1 p_n
    have q_1 := Blk.past hb1 q_n
    have u_1 := Blk.past hb1 u_n
    clear b_0 t_n p_n q_n u_n hX1 hT1 hb1
    have cell_t := t_1.cell
    have froz_t := t_1.frozen
    have lt_t := t_1.lt
    have cell_p := p_1.cell
    have froz_p := p_1.frozen
    have lt_p := p_1.lt
    have cell_q := q_1.cell
    have froz_q := q_1.frozen
    have lt_q := q_1.lt
    have cell_u := u_1.cell
    have froz_u := u_1.frozen
    have lt_u := u_1.lt
    rw [h3]
    go_wp2_with fail
    refine calls_forget0 (W := w1) ?_ ?_
    (focus (repeat (first | (with_reducible exact Below.refl _ _) | (with_reducible refine Below.trans ?_ (Below.mono (by assumption) (by first | omega | (simp; done) | (simp; omega) | (simp [*]; done)))) | (with_reducible refine Below.alloc ?_ (by first | omega | (simp; done) | (simp; omega) | (simp [*]; done)) _) | (with_reducible refine Below.setCell ?_ (by first | omega | (simp; done) | (simp; omega) | (simp [*]; done)) _) | (with_reducible refine Below.drew ?_) | (with_reducible refine below_drewN ?_))))
    intro X2 hX2
    have sX2 := hX2.size
    refine (TA.out _).mono ?_
    rintro e w2 ⟨rfl, hb2⟩
    have s2 := hb2.size
    have hT2 := hX2.trans (hb2.mono sX2)
    have b_2 := b_1.trans (hT2.mono (by omega))
    have t_2 := Blk.past hT2 t_1
    have p_2 := Blk.past hT2 p_1
    have q_2 := Blk.past hT2 q_1
    have u_2 := Blk.past hT2 u_1
    clear t_1 p_1 q_1 u_1 b_1 cell_t froz_t lt_t cell_p froz_p lt_p cell_q froz_q lt_q cell_u froz_u lt_u hX2 hT2 hb2
    have cell_t := t_2.cell
    have froz_t := t_2.frozen
    have lt_t := t_2.lt
    have cell_p := p_2.cell
    have froz_p := p_2.frozen
    have lt_p := p_2.lt
    have cell_q := q_2.cell
    have froz_q := q_2.frozen
    have lt_q := q_2.lt
    have cell_u := u_2.cell
    have froz_u := u_2.frozen
    have lt_u := u_2.lt
    go_wp2_with fail
    refine calls_forget1 (W := w2) (b0 := w2.heap.size) (t0 := 27) (c0 := #[.int .i64 s, .int .i64 a1]) ?_ ?_ ?_
    (focus (first | ((repeat (first | (with_reducible assumption) | (with_reducible apply Blk.drew) | (with_reducible apply Blk.drewN) | (with_reducible apply Blk.new; first | rfl | (simp; done)) | (with_reducible apply Blk.alloc) | (with_reducible apply Blk.set_) | (with_reducible apply Blk.past; focus assumption) | (with_reducible apply Blk.far; focus (first | (simp; done) | (simp; omega) | (dsimp only; omega))))); done) | (apply Blk.cast; (case h => (repeat (first | (with_reducible assumption) | (with_reducible apply Blk.drew) | (with_reducible apply Blk.drewN) | (with_reducible apply Blk.new; first | rfl | (simp; done)) | (with_reducible apply Blk.alloc) | (with_reducible apply Blk.set_) | (with_reducible apply Blk.past; focus assumption) | (with_reducible apply Blk.far; focus (first | (simp; done) | (simp; omega) | (dsimp only; omega)))))); (case e => rfl))))
    (focus (repeat (first | (with_reducible exact Below.refl _ _) | (with_reducible refine Below.trans ?_ (Below.mono (by assumption) (by first | omega | (simp; done) | (simp; omega) | (simp [*]; done)))) | (with_reducible refine Below.alloc ?_ (by first | omega | (simp; done) | (simp; omega) | (simp [*]; done)) _) | (with_reducible refine Below.setCell ?_ (by first | omega | (simp; done) | (simp; omega) | (simp [*]; done)) _) | (with_reducible refine Below.drew ?_) | (with_reducible refine below_drewN ?_))))
    intro X3 x1_n hX3
    have sX3 := hX3.size
    have x1_lt := x1_n.lt
    refine (TB.out _).mono ?_
    rintro e w3 ⟨rfl, hb3⟩
    have s3 := hb3.size
    have hT3 := hX3.trans (hb3.mono sX3)
    have b_3 := b_2.trans (hT3.mono (by omega))
    have t_3 := Blk.past hT3 t_2
    have p_3 := Blk.past hT3 p_2
    have q_3 := Blk.past hT3 q_2
    have u_3 := Blk.past hT3 u_2
    have x1_3 := Blk.past hb3 x1_n
    clear t_2 p_2 q_2 u_2 b_2 cell_t froz_t lt_t cell_p froz_p lt_p cell_q froz_q lt_q cell_u froz_u lt_u x1_n hX3 hT3 hb3
    have cell_t := t_3.cell
    have froz_t := t_3.frozen
    have lt_t := t_3.lt
    have cell_p := p_3.cell
    have froz_p := p_3.frozen
    have lt_p := p_3.lt
    have cell_q := q_3.cell
    have froz_q := q_3.frozen
    have lt_q := q_3.lt
    have cell_u := u_3.cell
    have froz_u := u_3.frozen
    have lt_u := u_3.lt
    have cell_x1 := x1_3.cell
    have froz_x1 := x1_3.frozen
    have lt_x1 := x1_3.lt
    go_wp2_with fail
    refine calls_forget1 (W := w3) (b0 := w3.heap.size) (t0 := 27) (c0 := #[.int .i64 s, .int .i64 a2]) ?_ ?_ ?_
    (focus (first | ((repeat (first | (with_reducible assumption) | (with_reducible apply Blk.drew) | (with_reducible apply Blk.drewN) | (with_reducible apply Blk.new; first | rfl | (simp; done)) | (with_reducible apply Blk.alloc) | (with_reducible apply Blk.set_) | (with_reducible apply Blk.past; focus assumption) | (with_reducible apply Blk.far; focus (first | (simp; done) | (simp; omega) | (dsimp only; omega))))); done) | (apply Blk.cast; (case h => (repeat (first | (with_reducible assumption) | (with_reducible apply Blk.drew) | (with_reducible apply Blk.drewN) | (with_reducible apply Blk.new; first | rfl | (simp; done)) | (with_reducible apply Blk.alloc) | (with_reducible apply Blk.set_) | (with_reducible apply Blk.past; focus assumption) | (with_reducible apply Blk.far; focus (first | (simp; done) | (simp; omega) | (dsimp only; omega)))))); (case e => rfl))))
    (focus (repeat (first | (with_reducible exact Below.refl _ _) | (with_reducible refine Below.trans ?_ (Below.mono (by assumption) (by first | omega | (simp; done) | (simp; omega) | (simp [*]; done)))) | (with_reducible refine Below.alloc ?_ (by first | omega | (simp; done) | (simp; omega) | (simp [*]; done)) _) | (with_reducible refine Below.setCell ?_ (by first | omega | (simp; done) | (simp; omega) | (simp [*]; done)) _) | (with_reducible refine Below.drew ?_) | (with_reducible refine below_drewN ?_))))
    intro X4 x2_n hX4
    have sX4 := hX4.size
    have x2_lt := x2_n.lt
    refine (TC.out _).mono ?_
    rintro e w4 ⟨rfl, hb4⟩
    have s4 := hb4.size
    have hT4 := hX4.trans (hb4.mono sX4)
    have b_4 := b_3.trans (hT4.mono (by omega))
    have t_4 := Blk.past hT4 t_3
    have p_4 := Blk.past hT4 p_3
    have q_4 := Blk.past hT4 q_3
    have u_4 := Blk.past hT4 u_3
    have x1_4 := Blk.past hT4 x1_3
    have x2_4 := Blk.past hb4 x2_n
    clear t_3 p_3 q_3 u_3 x1_3 b_3 cell_t froz_t lt_t cell_p froz_p lt_p cell_q froz_q lt_q cell_u froz_u lt_u cell_x1 froz_x1 lt_x1 x2_n hX4 hT4 hb4
    have cell_t := t_4.cell
    have froz_t := t_4.frozen
    have lt_t := t_4.lt
    have cell_p := p_4.cell
    have froz_p := p_4.frozen
    have lt_p := p_4.lt
    have cell_q := q_4.cell
    have froz_q := q_4.frozen
    have lt_q := q_4.lt
    have cell_u := u_4.cell
    have froz_u := u_4.frozen
    have lt_u := u_4.lt
    have cell_x1 := x1_4.cell
    have froz_x1 := x1_4.frozen
    have lt_x1 := x1_4.lt
    have cell_x2 := x2_4.cell
    have froz_x2 := x2_4.frozen
    have lt_x2 := x2_4.lt
    go_upto_region 9 with fail
    refine wp_forget1 (w0 := w4) (B := w4.heap.size) (b0 := w4.heap.size) (t0 := 27) (c0 := #[.int .i64 s, .int .i64 a3]) ?_ ?_ ?_
    (focus (first | ((repeat (first | (with_reducible assumption) | (with_reducible apply Blk.drew) | (with_reducible apply Blk.drewN) | (with_reducible apply Blk.new; first | rfl | (simp; done)) | (with_reducible apply Blk.alloc) | (with_reducible apply Blk.set_) | (with_reducible apply Blk.past; focus assumption) | (with_reducible apply Blk.far; focus (first | (simp; done) | (simp; omega) | (dsimp only; omega))))); done) | (apply Blk.cast; (case h => (repeat (first | (with_reducible assumption) | (with_reducible apply Blk.drew) | (with_reducible apply Blk.drewN) | (with_reducible apply Blk.new; first | rfl | (simp; done)) | (with_reducible apply Blk.alloc) | (with_reducible apply Blk.set_) | (with_reducible apply Blk.past; focus assumption) | (with_reducible apply Blk.far; focus (first | (simp; done) | (simp; omega) | (dsimp only; omega)))))); (case e => rfl))))
    (focus (repeat (first | (with_reducible exact Below.refl _ _) | (with_reducible refine Below.trans ?_ (Below.mono (by assumption) (by first | omega | (simp; done) | (simp; omega) | (simp [*]; done)))) | (with_reducible refine Below.alloc ?_ (by first | omega | (simp; done) | (simp; omega) | (simp [*]; done)) _) | (with_reducible refine Below.setCell ?_ (by first | omega | (simp; done) | (simp; omega) | (simp [*]; done)) _) | (with_reducible refine Below.drew ?_) | (with_reducible refine below_drewN ?_))))
    intro w5 x3_5 hX5
    have sX5 := hX5.size
    have x3_lt := x3_5.lt
    have b_5 := b_4.trans (hX5.mono (by omega))
    have t_5 := Blk.past hX5 t_4
    have p_5 := Blk.past hX5 p_4
    have q_5 := Blk.past hX5 q_4
    have u_5 := Blk.past hX5 u_4
    have x1_5 := Blk.past hX5 x1_4
    have x2_5 := Blk.past hX5 x2_4
    clear t_4 p_4 q_4 u_4 x1_4 x2_4 b_4 cell_t froz_t lt_t cell_p froz_p lt_p cell_q froz_q lt_q cell_u froz_u lt_u cell_x1 froz_x1 lt_x1 cell_x2 froz_x2 lt_x2 hX5
    have cell_t := t_5.cell
    have froz_t := t_5.frozen
    have lt_t := t_5.lt
    have cell_p := p_5.cell
    have froz_p := p_5.frozen
    have lt_p := p_5.lt
    have cell_q := q_5.cell
    have froz_q := q_5.frozen
    have lt_q := q_5.lt
    have cell_u := u_5.cell
    have froz_u := u_5.frozen
    have lt_u := u_5.lt
    have cell_x1 := x1_5.cell
    have froz_x1 := x1_5.frozen
    have lt_x1 := x1_5.lt
    have cell_x2 := x2_5.cell
    have froz_x2 := x2_5.frozen
    have lt_x2 := x2_5.lt
    have cell_x3 := x3_5.cell
    have froz_x3 := x3_5.frozen
    have lt_x3 := x3_5.lt
    go_wp2_with fail
    go_region_held3 (fun w' => w'.cell? ⟨w4.heap.size, 0, none⟩ = some (.int .i64 s) ∧ w'.cell? ⟨w4.heap.size, 1, none⟩ = some (.int .i64 a3)) (exact ⟨(Blk.cell (t := 27) (cs := #[.int .i64 s, .int .i64 a3]) (by repeat (first | (with_reducible assumption) | (with_reducible apply Blk.drew) | (with_reducible apply Blk.drewN) | (with_reducible apply Blk.new; first | rfl | (simp; done)) | (with_reducible apply Blk.alloc) | (with_reducible apply Blk.set_) | (with_reducible apply Blk.past; focus assumption) | (with_reducible apply Blk.far; focus (first | (simp; done) | (simp; omega) | (dsimp only; omega))))) 0), (Blk.cell (t := 27) (cs := #[.int .i64 s, .int .i64 a3]) (by repeat (first | (with_reducible assumption) | (with_reducible apply Blk.drew) | (with_reducible apply Blk.drewN) | (with_reducible apply Blk.new; first | rfl | (simp; done)) | (with_reducible apply Blk.alloc) | (with_reducible apply Blk.set_) | (with_reducible apply Blk.past; focus assumption) | (with_reducible apply Blk.far; focus (first | (simp; done) | (simp; omega) | (dsimp only; omega))))) 1)⟩) (fail)
    all_goals
      go_wp2_with fail
      ((try simp only [Exit.inBlock, Exit.then]); apply bodyPost_ret0; focus ((try simp only [results, Try.results23]); (try go_simp); (try rfl)))
      refine ⟨rfl, ?_⟩
      repeat (first | (with_reducible exact Below.refl _ _) | (with_reducible refine Below.trans ?_ (Below.mono (by assumption) (by first | omega | (simp; done) | (simp; omega) | (simp [*]; done)))) | (with_reducible refine Below.alloc ?_ (by first | omega | (simp; done) | (simp; omega) | (simp [*]; done)) _) | (with_reducible refine Below.setCell ?_ (by first | omega | (simp; done) | (simp; omega) | (simp [*]; done)) _) | (with_reducible refine Below.drew ?_) | (with_reducible refine below_drewN ?_))
  · rw [pick_yes]
    go_enter Try.func23, Try.ntmps23
    have b_0 := (Below.refl w.heap.size w)
    have s_0 := b_0.size
    go_wp2_with fail
    refine calls_forget4 (W := w) (b0 := w.heap.size) (t0 := 27) (c0 := #[.int .i64 s, .int .i64 a]) (b1 := w.heap.size + 1) (t1 := 48) (c1 := #[.int .i64 0, .int .i64 0]) (b2 := w.heap.size + 2) (t2 := 50) (c2 := #[.int .i64 0, .int .i64 0]) (b3 := w.heap.size + 3) (t3 := 27) (c3 := #[.int .i64 0, .int .i64 0]) ?_ ?_ ?_ ?_ ?_ ?_
    (focus (first | ((repeat (first | (with_reducible assumption) | (with_reducible apply Blk.drew) | (with_reducible apply Blk.drewN) | (with_reducible apply Blk.new; first | rfl | (simp; done)) | (with_reducible apply Blk.alloc) | (with_reducible apply Blk.set_) | (with_reducible apply Blk.past; focus assumption) | (with_reducible apply Blk.far; focus (first | (simp; done) | (simp; omega) | (dsimp only; omega))))); done) | (apply Blk.cast; (case h => (repeat (first | (with_reducible assumption) | (with_reducible apply Blk.drew) | (with_reducible apply Blk.drewN) | (with_reducible apply Blk.new; first | rfl | (simp; done)) | (with_reducible apply Blk.alloc) | (with_reducible apply Blk.set_) | (with_reducible apply Blk.past; focus assumption) | (with_reducible apply Blk.far; focus (first | (simp; done) | (simp; omega) | (dsimp only; omega)))))); (case e => rfl))))
    (focus (first | ((repeat (first | (with_reducible assumption) | (with_reducible apply Blk.drew) | (with_reducible apply Blk.drewN) | (with_reducible apply Blk.new; first | rfl | (simp; done)) | (with_reducible apply Blk.alloc) | (with_reducible apply Blk.set_) | (with_reducible apply Blk.past; focus assumption) | (with_reducible apply Blk.far; focus (first | (simp; done) | (simp; omega) | (dsimp only; omega))))); done) | (apply Blk.cast; (case h => (repeat (first | (with_reducible assumption) | (with_reducible apply Blk.drew) | (with_reducible apply Blk.drewN) | (with_reducible apply Blk.new; first | rfl | (simp; done)) | (with_reducible apply Blk.alloc) | (with_reducible apply Blk.set_) | (with_reducible apply Blk.past; focus assumption) | (with_reducible apply Blk.far; focus (first | (simp; done) | (simp; omega) | (dsimp only; omega)))))); (case e => rfl))))
    (focus (first | ((repeat (first | (with_reducible assumption) | (with_reducible apply Blk.drew) | (with_reducible apply Blk.drewN) | (with_reducible apply Blk.new; first | rfl | (simp; done)) | (with_reducible apply Blk.alloc) | (with_reducible apply Blk.set_) | (with_reducible apply Blk.past; focus assumption) | (with_reducible apply Blk.far; focus (first | (simp; done) | (simp; omega) | (dsimp only; omega))))); done) | (apply Blk.cast; (case h => (repeat (first | (with_reducible assumption) | (with_reducible apply Blk.drew) | (with_reducible apply Blk.drewN) | (with_reducible apply Blk.new; first | rfl | (simp; done)) | (with_reducible apply Blk.alloc) | (with_reducible apply Blk.set_) | (with_reducible apply Blk.past; focus assumption) | (with_reducible apply Blk.far; focus (first | (simp; done) | (simp; omega) | (dsimp only; omega)))))); (case e => rfl))))
    (focus (first | ((repeat (first | (with_reducible assumption) | (with_reducible apply Blk.drew) | (with_reducible apply Blk.drewN) | (with_reducible apply Blk.new; first | rfl | (simp; done)) | (with_reducible apply Blk.alloc) | (with_reducible apply Blk.set_) | (with_reducible apply Blk.past; focus assumption) | (with_reducible apply Blk.far; focus (first | (simp; done) | (simp; omega) | (dsimp only; omega))))); done) | (apply Blk.cast; (case h => (repeat (first | (with_reducible assumption) | (with_reducible apply Blk.drew) | (with_reducible apply Blk.drewN) | (with_reducible apply Blk.new; first | rfl | (simp; done)) | (with_reducible apply Blk.alloc) | (with_reducible apply Blk.set_) | (with_reducible apply Blk.past; focus assumption) | (with_reducible apply Blk.far; focus (first | (simp; done) | (simp; omega) | (dsimp only; omega)))))); (case e => rfl))))
    (focus (repeat (first | (with_reducible exact Below.refl _ _) | (with_reducible refine Below.trans ?_ (Below.mono (by assumption) (by first | omega | (simp; done) | (simp; omega) | (simp [*]; done)))) | (with_reducible refine Below.alloc ?_ (by first | omega | (simp; done) | (simp; omega) | (simp [*]; done)) _) | (with_reducible refine Below.setCell ?_ (by first | omega | (simp; done) | (simp; omega) | (simp [*]; done)) _) | (with_reducible refine Below.drew ?_) | (with_reducible refine below_drewN ?_))))
    intro X1 t_n p_n q_n u_n hX1
    have sX1 := hX1.size
    have t_lt := t_n.lt
    have p_lt := p_n.lt
    have q_lt := q_n.lt
    have u_lt := u_n.lt
    refine (s_l06 _ _ _).mono ?_
    rintro e w1 ⟨rfl, hb1⟩
    have s1 := hb1.size
    have hT1 := hX1.trans (hb1.mono sX1)
    have b_1 := b_0.trans (hT1.mono (by omega))
    have t_1 := Blk.past hb1 t_n
    have p_1 := Blk.past hb1 p_n
    have q_1 := Blk.past hb1 q_n
    have u_1 := Blk.past hb1 u_n
    clear b_0 t_n p_n q_n u_n hX1 hT1 hb1
    have cell_t := t_1.cell
    have froz_t := t_1.frozen
    have lt_t := t_1.lt
    have cell_p := p_1.cell
    have froz_p := p_1.frozen
    have lt_p := p_1.lt
    have cell_q := q_1.cell
    have froz_q := q_1.frozen
    have lt_q := q_1.lt
    have cell_u := u_1.cell
    have froz_u := u_1.frozen
    have lt_u := u_1.lt
    rw [h3]
    go_wp2_with fail
    refine calls_forget0 (W := w1) ?_ ?_
    (focus (repeat (first | (with_reducible exact Below.refl _ _) | (with_reducible refine Below.trans ?_ (Below.mono (by assumption) (by first | omega | (simp; done) | (simp; omega) | (simp [*]; done)))) | (with_reducible refine Below.alloc ?_ (by first | omega | (simp; done) | (simp; omega) | (simp [*]; done)) _) | (with_reducible refine Below.setCell ?_ (by first | omega | (simp; done) | (simp; omega) | (simp [*]; done)) _) | (with_reducible refine Below.drew ?_) | (with_reducible refine below_drewN ?_))))
    intro X2 hX2
    have sX2 := hX2.size
    refine (TA.out _).mono ?_
    rintro e w2 ⟨rfl, hb2⟩
    have s2 := hb2.size
    have hT2 := hX2.trans (hb2.mono sX2)
    have b_2 := b_1.trans (hT2.mono (by omega))
    have t_2 := Blk.past hT2 t_1
    have p_2 := Blk.past hT2 p_1
    have q_2 := Blk.past hT2 q_1
    have u_2 := Blk.past hT2 u_1
    clear t_1 p_1 q_1 u_1 b_1 cell_t froz_t lt_t cell_p froz_p lt_p cell_q froz_q lt_q cell_u froz_u lt_u hX2 hT2 hb2
    have cell_t := t_2.cell
    have froz_t := t_2.frozen
    have lt_t := t_2.lt
    have cell_p := p_2.cell
    have froz_p := p_2.frozen
    have lt_p := p_2.lt
    have cell_q := q_2.cell
    have froz_q := q_2.frozen
    have lt_q := q_2.lt
    have cell_u := u_2.cell
    have froz_u := u_2.frozen
    have lt_u := u_2.lt
    go_wp2_with fail
    refine calls_forget1 (W := w2) (b0 := w2.heap.size) (t0 := 27) (c0 := #[.int .i64 s, .int .i64 a1]) ?_ ?_ ?_
    (focus (first | ((repeat (first | (with_reducible assumption) | (with_reducible apply Blk.drew) | (with_reducible apply Blk.drewN) | (with_reducible apply Blk.new; first | rfl | (simp; done)) | (with_reducible apply Blk.alloc) | (with_reducible apply Blk.set_) | (with_reducible apply Blk.past; focus assumption) | (with_reducible apply Blk.far; focus (first | (simp; done) | (simp; omega) | (dsimp only; omega))))); done) | (apply Blk.cast; (case h => (repeat (first | (with_reducible assumption) | (with_reducible apply Blk.drew) | (with_reducible apply Blk.drewN) | (with_reducible apply Blk.new; first | rfl | (simp; done)) | (with_reducible apply Blk.alloc) | (with_reducible apply Blk.set_) | (with_reducible apply Blk.past; focus assumption) | (with_reducible apply Blk.far; focus (first | (simp; done) | (simp; omega) | (dsimp only; omega)))))); (case e => rfl))))
    (focus (repeat (first | (with_reducible exact Below.refl _ _) | (with_reducible refine Below.trans ?_ (Below.mono (by assumption) (by first | omega | (simp; done) | (simp; omega) | (simp [*]; done)))) | (with_reducible refine Below.alloc ?_ (by first | omega | (simp; done) | (simp; omega) | (simp [*]; done)) _) | (with_reducible refine Below.setCell ?_ (by first | omega | (simp; done) | (simp; omega) | (simp [*]; done)) _) | (with_reducible refine Below.drew ?_) | (with_reducible refine below_drewN ?_))))
    intro X3 x1_n hX3
    have sX3 := hX3.size
    have x1_lt := x1_n.lt
    refine (TB.out _).mono ?_
    rintro e w3 ⟨rfl, hb3⟩
    have s3 := hb3.size
    have hT3 := hX3.trans (hb3.mono sX3)
    have b_3 := b_2.trans (hT3.mono (by omega))
    have t_3 := Blk.past hT3 t_2
    have p_3 := Blk.past hT3 p_2
    have q_3 := Blk.past hT3 q_2
    have u_3 := Blk.past hT3 u_2
    have x1_3 := Blk.past hb3 x1_n
    clear t_2 p_2 q_2 u_2 b_2 cell_t froz_t lt_t cell_p froz_p lt_p cell_q froz_q lt_q cell_u froz_u lt_u x1_n hX3 hT3 hb3
    have cell_t := t_3.cell
    have froz_t := t_3.frozen
    have lt_t := t_3.lt
    have cell_p := p_3.cell
    have froz_p := p_3.frozen
    have lt_p := p_3.lt
    have cell_q := q_3.cell
    have froz_q := q_3.frozen
    have lt_q := q_3.lt
    have cell_u := u_3.cell
    have froz_u := u_3.frozen
    have lt_u := u_3.lt
    have cell_x1 := x1_3.cell
    have froz_x1 := x1_3.frozen
    have lt_x1 := x1_3.lt
    go_wp2_with fail
    refine calls_forget1 (W := w3) (b0 := w3.heap.size) (t0 := 27) (c0 := #[.int .i64 s, .int .i64 a2]) ?_ ?_ ?_
    (focus (first | ((repeat (first | (with_reducible assumption) | (with_reducible apply Blk.drew) | (with_reducible apply Blk.drewN) | (with_reducible apply Blk.new; first | rfl | (simp; done)) | (with_reducible apply Blk.alloc) | (with_reducible apply Blk.set_) | (with_reducible apply Blk.past; focus assumption) | (with_reducible apply Blk.far; focus (first | (simp; done) | (simp; omega) | (dsimp only; omega))))); done) | (apply Blk.cast; (case h => (repeat (first | (with_reducible assumption) | (with_reducible apply Blk.drew) | (with_reducible apply Blk.drewN) | (with_reducible apply Blk.new; first | rfl | (simp; done)) | (with_reducible apply Blk.alloc) | (with_reducible apply Blk.set_) | (with_reducible apply Blk.past; focus assumption) | (with_reducible apply Blk.far; focus (first | (simp; done) | (simp; omega) | (dsimp only; omega)))))); (case e => rfl))))
    (focus (repeat (first | (with_reducible exact Below.refl _ _) | (with_reducible refine Below.trans ?_ (Below.mono (by assumption) (by first | omega | (simp; done) | (simp; omega) | (simp [*]; done)))) | (with_reducible refine Below.alloc ?_ (by first | omega | (simp; done) | (simp; omega) | (simp [*]; done)) _) | (with_reducible refine Below.setCell ?_ (by first | omega | (simp; done) | (simp; omega) | (simp [*]; done)) _) | (with_reducible refine Below.drew ?_) | (with_reducible refine below_drewN ?_))))
    intro X4 x2_n hX4
    have sX4 := hX4.size
    have x2_lt := x2_n.lt
    refine (TC.out _).mono ?_
    rintro e w4 ⟨rfl, hb4⟩
    have s4 := hb4.size
    have hT4 := hX4.trans (hb4.mono sX4)
    have b_4 := b_3.trans (hT4.mono (by omega))
    have t_4 := Blk.past hT4 t_3
    have p_4 := Blk.past hT4 p_3
    have q_4 := Blk.past hT4 q_3
    have u_4 := Blk.past hT4 u_3
    have x1_4 := Blk.past hT4 x1_3
    have x2_4 := Blk.past hb4 x2_n
    clear t_3 p_3 q_3 u_3 x1_3 b_3 cell_t froz_t lt_t cell_p froz_p lt_p cell_q froz_q lt_q cell_u froz_u lt_u cell_x1 froz_x1 lt_x1 x2_n hX4 hT4 hb4
    have cell_t := t_4.cell
    have froz_t := t_4.frozen
    have lt_t := t_4.lt
    have cell_p := p_4.cell
    have froz_p := p_4.frozen
    have lt_p := p_4.lt
    have cell_q := q_4.cell
    have froz_q := q_4.frozen
    have lt_q := q_4.lt
    have cell_u := u_4.cell
    have froz_u := u_4.frozen
    have lt_u := u_4.lt
    have cell_x1 := x1_4.cell
    have froz_x1 := x1_4.frozen
    have lt_x1 := x1_4.lt
    have cell_x2 := x2_4.cell
    have froz_x2 := x2_4.frozen
    have lt_x2 := x2_4.lt
    go_upto_region 9 with fail
    refine wp_forget1 (w0 := w4) (B := w4.heap.size) (b0 := w4.heap.size) (t0 := 27) (c0 := #[.int .i64 s, .int .i64 a3]) ?_ ?_ ?_
    (focus (first | ((repeat (first | (with_reducible assumption) | (with_reducible apply Blk.drew) | (with_reducible apply Blk.drewN) | (with_reducible apply Blk.new; first | rfl | (simp; done)) | (with_reducible apply Blk.alloc) | (with_reducible apply Blk.set_) | (with_reducible apply Blk.past; focus assumption) | (with_reducible apply Blk.far; focus (first | (simp; done) | (simp; omega) | (dsimp only; omega))))); done) | (apply Blk.cast; (case h => (repeat (first | (with_reducible assumption) | (with_reducible apply Blk.drew) | (with_reducible apply Blk.drewN) | (with_reducible apply Blk.new; first | rfl | (simp; done)) | (with_reducible apply Blk.alloc) | (with_reducible apply Blk.set_) | (with_reducible apply Blk.past; focus assumption) | (with_reducible apply Blk.far; focus (first | (simp; done) | (simp; omega) | (dsimp only; omega)))))); (case e => rfl))))
    (focus (repeat (first | (with_reducible exact Below.refl _ _) | (with_reducible refine Below.trans ?_ (Below.mono (by assumption) (by first | omega | (simp; done) | (simp; omega) | (simp [*]; done)))) | (with_reducible refine Below.alloc ?_ (by first | omega | (simp; done) | (simp; omega) | (simp [*]; done)) _) | (with_reducible refine Below.setCell ?_ (by first | omega | (simp; done) | (simp; omega) | (simp [*]; done)) _) | (with_reducible refine Below.drew ?_) | (with_reducible refine below_drewN ?_))))
    intro w5 x3_5 hX5
    have sX5 := hX5.size
    have x3_lt := x3_5.lt
    have b_5 := b_4.trans (hX5.mono (by omega))
    have t_5 := Blk.past hX5 t_4
    have p_5 := Blk.past hX5 p_4
    have q_5 := Blk.past hX5 q_4
    have u_5 := Blk.past hX5 u_4
    have x1_5 := Blk.past hX5 x1_4
    have x2_5 := Blk.past hX5 x2_4
    clear t_4 p_4 q_4 u_4 x1_4 x2_4 b_4 cell_t froz_t lt_t cell_p froz_p lt_p cell_q froz_q lt_q cell_u froz_u lt_u cell_x1 froz_x1 lt_x1 cell_x2 froz_x2 lt_x2 hX5
    have cell_t := t_5.cell
    have froz_t := t_5.frozen
    have lt_t := t_5.lt
    have cell_p := p_5.cell
    have froz_p := p_5.frozen
    have lt_p := p_5.lt
    have cell_q := q_5.cell
    have froz_q := q_5.frozen
    have lt_q := q_5.lt
    have cell_u := u_5.cell
    have froz_u := u_5.frozen
    have lt_u := u_5.lt
    have cell_x1 := x1_5.cell
    have froz_x1 := x1_5.frozen
    have lt_x1 := x1_5.lt
    have cell_x2 := x2_5.cell
    have froz_x2 := x2_5.frozen
    have lt_x2 := x2_5.lt
    have cell_x3 := x3_5.cell
    have froz_x3 := x3_5.frozen
    have lt_x3 := x3_5.lt
    go_wp2_with fail
    go_region_held3 (fun w' => w'.cell? ⟨w4.heap.size, 0, none⟩ = some (.int .i64 s) ∧ w'.cell? ⟨w4.heap.size, 1, none⟩ = some (.int .i64 a3)) (exact ⟨(Blk.cell (t := 27) (cs := #[.int .i64 s, .int .i64 a3]) (by repeat (first | (with_reducible assumption) | (with_reducible apply Blk.drew) | (with_reducible apply Blk.drewN) | (with_reducible apply Blk.new; first | rfl | (simp; done)) | (with_reducible apply Blk.alloc) | (with_reducible apply Blk.set_) | (with_reducible apply Blk.past; focus assumption) | (with_reducible apply Blk.far; focus (first | (simp; done) | (simp; omega) | (dsimp only; omega))))) 0), (Blk.cell (t := 27) (cs := #[.int .i64 s, .int .i64 a3]) (by repeat (first | (with_reducible assumption) | (with_reducible apply Blk.drew) | (with_reducible apply Blk.drewN) | (with_reducible apply Blk.new; first | rfl | (simp; done)) | (with_reducible apply Blk.alloc) | (with_reducible apply Blk.set_) | (with_reducible apply Blk.past; focus assumption) | (with_reducible apply Blk.far; focus (first | (simp; done) | (simp; omega) | (dsimp only; omega))))) 1)⟩) (fail)
    all_goals
      go_wp2_with fail
      ((try simp only [Exit.inBlock, Exit.then]); apply bodyPost_ret0; focus ((try simp only [results, Try.results23]); (try go_simp); (try rfl)))
      refine ⟨rfl, ?_⟩
      repeat (first | (with_reducible exact Below.refl _ _) | (with_reducible refine Below.trans ?_ (Below.mono (by assumption) (by first | omega | (simp; done) | (simp; omega) | (simp [*]; done)))) | (with_reducible refine Below.alloc ?_ (by first | omega | (simp; done) | (simp; omega) | (simp [*]; done)) _) | (with_reducible refine Below.setCell ?_ (by first | omega | (simp; done) | (simp; omega) | (simp [*]; done)) _) | (with_reducible refine Below.drew ?_) | (with_reducible refine below_drewN ?_))
end Go.Proofs.Ytonanjcojfjbdaa
