/- The law that a frame whose body was changed is rejected (FnChanged). No conditions. -/
import Derived.Test.YtdfomahaplcgoaaRunI
import Derived.Test.YtdfomahaplcgoaaDraw
import Derived.Test.YtdfomahaplcgoaaMixLaw
import Derived.Test.YtdfomahaplcgoaaHead
import Derived.Outline
set_option linter.unusedVariables false
namespace Go.Proofs.Ytdfomahaplcgoaa
open Go.RowKit Go.ChangeShapes Go.WideShapes Go.ChangeAt

namespace changed
theorem recvB_first {k x y : Int} (hk : isWordB k = true) (hx : isWordB x = true) (hy : isWordB y = true) (hne : x ≠ y) : recvB k 0 0 1 y (keyedI k 1 x) = false := by
  unfold recvB
  have h1 : isWordB 1 = true := isWordB_iff.2 (by omega)
  have h : (keyedI k 1 x != keyedI k 1 y) = true := by
    rw [bne_iff_ne]
    intro e
    exact hne (keyedI_inj hk h1 hx hy e)
  rw [h]
  simp
theorem recvB_twice (k x t : Int) : recvB k 0 1 1 x t = false := by
  unfold recvB
  simp
theorem iNew_ok (k : Int) (w : World) (hs : isWordB k = true) :
    Calls Try.prog 13 #[.int .i64 k] w fun e w' => e = .returned (.tuple #[.agg #[.int .i64 k, .int .i64 0, .int .i64 0], .bool true]) ∧ Below w.heap.size w w' := by
  have h := iSessionNew k w
  rw [hs] at h
  exact h
theorem iOk_yes (k s g : Int) (w : World) (hs : sessOkB k s g = true) :
    Calls Try.prog 16 #[.agg #[.int .i64 k, .int .i64 s, .int .i64 g]] w fun e w' => e = .returned (.bool true) ∧ Below w.heap.size w w' := by
  have h := iSessionOk k s g w
  rw [hs] at h
  exact h
set_option maxRecDepth 100000 in
set_option maxHeartbeats 3200000 in
theorem walk (A : Option Addr) (c : Nat) (bs : List Int) (w : World) (hb : Bytes w w.heap.size A bs) :
    Calls Try.prog 3 #[.slice A bs.length c] w fun e w' => e = .returned (.bool true) ∧ Below w.heap.size w w' := by
  have hl := hb.len
  have HB := hid hb
  clear hb
  by_cases h1 : (1048576 : Int) < (bs.length : Int)
  · go_enter Try.func3, Try.ntmps3
    go_wp2_with (go_at_call 11; refine (big_any _ _ _ _ hl).mono ?_; rintro e w' ⟨rfl, rfl⟩)
    go_ret
    exact ⟨rfl, Below.refl _ _⟩
  go_enter Try.func3, Try.ntmps3
  go_wp2_with fail
  refine (big_any _ _ _ _ hl).mono ?_
  rintro e w' ⟨rfl, rfl⟩
  go_wp2_with fail
  refine (places_any _ _ _ _ HB.out).mono ?_
  rintro e w0 ⟨xs, hlen, hsm, Ap, cp, he, hop, hb0⟩
  rw [hlen] at he hop
  subst he
  have HOP := hid hop
  have HB0 := hid hb0
  have zw := hb0.size
  obtain ⟨g, rfl, hg0, hg1, hgc⟩ := own_at HOP.out (by omega)
  obtain ⟨x0, e0⟩ : ∃ x, xs[0]? = some x := ⟨_, List.getElem?_eq_getElem (by omega)⟩
  obtain ⟨x1, e1⟩ : ∃ x, xs[1]? = some x := ⟨_, List.getElem?_eq_getElem (by omega)⟩
  obtain ⟨x2, e2⟩ : ∃ x, xs[2]? = some x := ⟨_, List.getElem?_eq_getElem (by omega)⟩
  obtain ⟨p0, q0⟩ := hsm x0 (List.mem_of_getElem? e0)
  obtain ⟨p1, q1⟩ := hsm x1 (List.mem_of_getElem? e1)
  obtain ⟨p2, q2⟩ := hsm x2 (List.mem_of_getElem? e2)
  have r0 := hgc 0 _ (ints_get e0)
  have r1 := hgc 1 _ (ints_get e1)
  have r2 := hgc 2 _ (ints_get e2)
  have k0 : isWordB x0 = true := isWordB_iff.2 (by omega)
  have k1 : isWordB x1 = true := isWordB_iff.2 (by omega)
  have k3 : isWordB (x1 + 1 + x2) = true := isWordB_iff.2 (by omega)
  have hs0 : sendB x0 0 0 x1 = true := by
    have := sendB_word (x := x1) (j := 0) k0 (by omega)
    simpa [k1] using this
  have hok : sessOkB x0 0 1 = true := by
    unfold sessOkB
    rw [k0, inB_iff.2 (show (0 : Int) ≤ 0 ∧ (0 : Int) ≤ 1000000 by omega), inB_iff.2 (show (0 : Int) ≤ 1 ∧ (1 : Int) ≤ 1000000 by omega)]
    rfl
  have HOK := hid hok
  have hr0 : recvB x0 0 0 1 x1 (keyedI x0 1 x1) = true := by
    have := recvB_frame (k := x0) (x := x1) (i := 0) (g := 0) k0 k1 (by omega)
    simpa using this
  have hr2 := recvB_first k0 k1 k3 (by omega)
  have HW := hid (show isWordB x0 = true from k0)
  have HS0 := hid hs0
  have HR0 := hid hr0
  have HR2 := hid hr2
  clear hok hb0 hop hgc e0 e1 e2 hlen hsm k0 k1 k3 hs0 hr0 hr2
  have b_0 := HB0.out
  have s_0 := b_0.size
  have c0_0 := r0
  clear r0
  have lt_c0 : g < w0.heap.size := by omega
  have c1_0 := r1
  clear r1
  have lt_c1 : g < w0.heap.size := by omega
  have c2_0 := r2
  clear r2
  have lt_c2 : g < w0.heap.size := by omega
  go_wp2_with fail
  refine calls_forget0 (W := w0) ?_ ?_
  (focus (repeat (first | (with_reducible exact Below.refl _ _) | (with_reducible refine Below.trans ?_ (Below.mono (by assumption) (by first | omega | (simp; done) | (simp; omega) | (simp [*]; done)))) | (with_reducible refine Below.alloc ?_ (by first | omega | (simp; done) | (simp; omega) | (simp [*]; done)) _) | (with_reducible refine Below.setCell ?_ (by first | omega | (simp; done) | (simp; omega) | (simp [*]; done)) _) | (with_reducible refine Below.drew ?_))))
  intro X1 hX1
  have sX1 := hX1.size
  refine (iNew_ok _ _ HW.out).mono ?_
  rintro e w1 ⟨rfl, hb1⟩
  have s1 := hb1.size
  have hT1 := hX1.trans (hb1.mono sX1)
  have b_1 := b_0.trans (hT1.mono (by omega))
  have c0_1 := cell_kept c0_0 hT1 (by dsimp only; omega)
  have c1_1 := cell_kept c1_0 hT1 (by dsimp only; omega)
  have c2_1 := cell_kept c2_0 hT1 (by dsimp only; omega)
  clear c0_0 c1_0 c2_0 b_0 lt_c0 lt_c1 lt_c2 hX1 hT1 hb1
  have lt_c0 : g < w1.heap.size := by omega
  have lt_c1 : g < w1.heap.size := by omega
  have lt_c2 : g < w1.heap.size := by omega
  go_upto_region 5 with fail
  refine wp_forget1 (w0 := w1) (B := w1.heap.size) (b0 := w1.heap.size) (t0 := 27) (c0 := #[.int .i64 x0, .int .i64 0, .int .i64 0]) ?_ ?_ ?_
  (focus (first | ((repeat (first | (with_reducible assumption) | (with_reducible apply Blk.drew) | (with_reducible apply Blk.drewN) | (with_reducible apply Blk.new; first | rfl | (simp; done)) | (with_reducible apply Blk.alloc) | (with_reducible apply Blk.set_) | (with_reducible apply Blk.past; focus assumption) | (with_reducible apply Blk.far; focus (first | (simp; done) | (simp; omega) | (dsimp only; omega))))); done) | (apply Blk.cast; (case h => (repeat (first | (with_reducible assumption) | (with_reducible apply Blk.drew) | (with_reducible apply Blk.drewN) | (with_reducible apply Blk.new; first | rfl | (simp; done)) | (with_reducible apply Blk.alloc) | (with_reducible apply Blk.set_) | (with_reducible apply Blk.past; focus assumption) | (with_reducible apply Blk.far; focus (first | (simp; done) | (simp; omega) | (dsimp only; omega)))))); (case e => rfl))))
  (focus (repeat (first | (with_reducible exact Below.refl _ _) | (with_reducible refine Below.trans ?_ (Below.mono (by assumption) (by first | omega | (simp; done) | (simp; omega) | (simp [*]; done)))) | (with_reducible refine Below.alloc ?_ (by first | omega | (simp; done) | (simp; omega) | (simp [*]; done)) _) | (with_reducible refine Below.setCell ?_ (by first | omega | (simp; done) | (simp; omega) | (simp [*]; done)) _) | (with_reducible refine Below.drew ?_))))
  intro w2 sx_2 hX2
  have sX2 := hX2.size
  have sx_lt := sx_2.lt
  have b_2 := b_1.trans (hX2.mono (by omega))
  have c0_2 := cell_kept c0_1 hX2 (by dsimp only; omega)
  have c1_2 := cell_kept c1_1 hX2 (by dsimp only; omega)
  have c2_2 := cell_kept c2_1 hX2 (by dsimp only; omega)
  clear c0_1 c1_1 c2_1 b_1 lt_c0 lt_c1 lt_c2 hX2
  have cell_sx := sx_2.cell
  have froz_sx := sx_2.frozen
  have lt_sx := sx_2.lt
  have lt_c0 : g < w2.heap.size := by omega
  have lt_c1 : g < w2.heap.size := by omega
  have lt_c2 : g < w2.heap.size := by omega
  go_cut [6, 7, 8] (fun v6 v7 v8 wx => ∃ b6 b7, v6 = .pointer (some ⟨b6, 0, none⟩) ∧ v7 = .pointer (some ⟨b7, 0, none⟩) ∧ v8 = .bool true ∧ w2.heap.size ≤ b6 ∧ w2.heap.size ≤ b7 ∧ b6 ≠ b7 ∧ Blk wx b6 27 #[.int .i64 x0, .int .i64 1, .int .i64 0] ∧ Blk wx b7 31 #[.int .i64 1, .int .i64 x1, .int .i64 (keyedI x0 1 x1)] ∧ Below w2.heap.size w2 wx)
  case first =>
    go_region_held3 (fun w' => w'.cell? ⟨w1.heap.size, 0, none⟩ = some (.int .i64 x0) ∧ w'.cell? ⟨w1.heap.size, 1, none⟩ = some (.int .i64 0) ∧ w'.cell? ⟨w1.heap.size, 2, none⟩ = some (.int .i64 0) ∧ w'.cell? ⟨g, 1, none⟩ = some (.int .i64 x1)) (exact ⟨(Blk.cell (t := 27) (cs := #[.int .i64 x0, .int .i64 0, .int .i64 0]) (by repeat (first | (with_reducible assumption) | (with_reducible apply Blk.drew) | (with_reducible apply Blk.drewN) | (with_reducible apply Blk.new; first | rfl | (simp; done)) | (with_reducible apply Blk.alloc) | (with_reducible apply Blk.set_) | (with_reducible apply Blk.past; focus assumption) | (with_reducible apply Blk.far; focus (first | (simp; done) | (simp; omega) | (dsimp only; omega))))) 0), (Blk.cell (t := 27) (cs := #[.int .i64 x0, .int .i64 0, .int .i64 0]) (by repeat (first | (with_reducible assumption) | (with_reducible apply Blk.drew) | (with_reducible apply Blk.drewN) | (with_reducible apply Blk.new; first | rfl | (simp; done)) | (with_reducible apply Blk.alloc) | (with_reducible apply Blk.set_) | (with_reducible apply Blk.past; focus assumption) | (with_reducible apply Blk.far; focus (first | (simp; done) | (simp; omega) | (dsimp only; omega))))) 1), (Blk.cell (t := 27) (cs := #[.int .i64 x0, .int .i64 0, .int .i64 0]) (by repeat (first | (with_reducible assumption) | (with_reducible apply Blk.drew) | (with_reducible apply Blk.drewN) | (with_reducible apply Blk.new; first | rfl | (simp; done)) | (with_reducible apply Blk.alloc) | (with_reducible apply Blk.set_) | (with_reducible apply Blk.past; focus assumption) | (with_reducible apply Blk.far; focus (first | (simp; done) | (simp; omega) | (dsimp only; omega))))) 2), (by first | ((repeat (first | (with_reducible assumption) | (with_reducible refine cell_drew ?_) | (with_reducible refine cell_alloc ?_ (by first | (dsimp only; omega) | (simp; omega))) | (with_reducible refine cell_far ?_ (by first | (dsimp only; omega) | (simp; omega))))); done) | exact cell_kept c1_2 (by repeat (first | (with_reducible exact Below.refl _ _) | (with_reducible refine Below.trans ?_ (Below.mono (by assumption) (by first | omega | (simp; done) | (simp; omega) | (simp [*]; done)))) | (with_reducible refine Below.alloc ?_ (by first | omega | (simp; done) | (simp; omega) | (simp [*]; done)) _) | (with_reducible refine Below.setCell ?_ (by first | omega | (simp; done) | (simp; omega) | (simp [*]; done)) _) | (with_reducible refine Below.drew ?_))) (by dsimp only; omega))⟩) (((go_at_call 14; refine (iSend_ok _ _ _ _ _ HS0.out).mono ?_; rintro e wz ⟨rfl, hbz⟩; (first | (with_reducible refine use_top2d hbz ?_; intro zt ct ft kt zt2 ct2 ft2 kt2; try simp only [World.size_alloc] at zt ct ft kt zt2 ct2 ft2 kt2) | (with_reducible refine use_topd hbz ?_; intro zt ct ft kt; try simp only [World.size_alloc] at zt ct ft kt) | skip); have sz := hbz.size; try simp at sz)))
    all_goals
      go_wp2_with fail
      go_meet
      exact ⟨_, _, rfl, rfl, rfl, by first | exact Nat.le_refl _ | omega | (simp; done) | (simp; omega), by first | exact Nat.le_refl _ | omega | (simp; done) | (simp; omega), by first | omega | (simp; done) | (simp; omega), by (first | ((repeat (first | (with_reducible assumption) | (with_reducible apply Blk.drew) | (with_reducible apply Blk.drewN) | (with_reducible apply Blk.new; first | rfl | (simp; done)) | (with_reducible apply Blk.alloc) | (with_reducible apply Blk.set_) | (with_reducible apply Blk.past; focus assumption) | (with_reducible apply Blk.far; focus (first | (simp; done) | (simp; omega) | (dsimp only; omega))))); done) | (apply Blk.cast; (case h => (repeat (first | (with_reducible assumption) | (with_reducible apply Blk.drew) | (with_reducible apply Blk.drewN) | (with_reducible apply Blk.new; first | rfl | (simp; done)) | (with_reducible apply Blk.alloc) | (with_reducible apply Blk.set_) | (with_reducible apply Blk.past; focus assumption) | (with_reducible apply Blk.far; focus (first | (simp; done) | (simp; omega) | (dsimp only; omega)))))); (case e => rfl))), by (first | ((repeat (first | (with_reducible assumption) | (with_reducible apply Blk.drew) | (with_reducible apply Blk.drewN) | (with_reducible apply Blk.new; first | rfl | (simp; done)) | (with_reducible apply Blk.alloc) | (with_reducible apply Blk.set_) | (with_reducible apply Blk.past; focus assumption) | (with_reducible apply Blk.far; focus (first | (simp; done) | (simp; omega) | (dsimp only; omega))))); done) | (apply Blk.cast; (case h => (repeat (first | (with_reducible assumption) | (with_reducible apply Blk.drew) | (with_reducible apply Blk.drewN) | (with_reducible apply Blk.new; first | rfl | (simp; done)) | (with_reducible apply Blk.alloc) | (with_reducible apply Blk.set_) | (with_reducible apply Blk.past; focus assumption) | (with_reducible apply Blk.far; focus (first | (simp; done) | (simp; omega) | (dsimp only; omega)))))); (case e => rfl))), by repeat (first | (with_reducible exact Below.refl _ _) | (with_reducible refine Below.trans ?_ (Below.mono (by assumption) (by first | omega | (simp; done) | (simp; omega) | (simp [*]; done)))) | (with_reducible refine Below.alloc ?_ (by first | omega | (simp; done) | (simp; omega) | (simp [*]; done)) _) | (with_reducible refine Below.setCell ?_ (by first | omega | (simp; done) | (simp; omega) | (simp [*]; done)) _) | (with_reducible refine Below.drew ?_))⟩
  case rest =>
    obtain ⟨b_sa, b_ff, rfl, rfl, rfl, sa_ge, ff_ge, sa_ne, sa_3, ff_3, hb3⟩ := hcut
    obtain ⟨w3, rfl⟩ : ∃ z : World, z = wc := ⟨_, rfl⟩
    have s3 := hb3.size
    have b_3 := b_2.trans (hb3.mono (by omega))
    have sx_3 := Blk.past hb3 sx_2
    have c0_3 := cell_kept c0_2 hb3 (by dsimp only; omega)
    have c1_3 := cell_kept c1_2 hb3 (by dsimp only; omega)
    have c2_3 := cell_kept c2_2 hb3 (by dsimp only; omega)
    clear sx_2 c0_2 c1_2 c2_2 b_2 cell_sx froz_sx lt_sx lt_c0 lt_c1 lt_c2 hb3
    have sa_lt := sa_3.lt
    have ff_lt := ff_3.lt
    have cell_sx := sx_3.cell
    have froz_sx := sx_3.frozen
    have lt_sx := sx_3.lt
    have cell_sa := sa_3.cell
    have froz_sa := sa_3.frozen
    have lt_sa := sa_3.lt
    have cell_ff := ff_3.cell
    have froz_ff := ff_3.frozen
    have lt_ff := ff_3.lt
    have lt_c0 : g < w3.heap.size := by omega
    have lt_c1 : g < w3.heap.size := by omega
    have lt_c2 : g < w3.heap.size := by omega
    go_wp2_with fail
    refine calls_forget0 (W := w3) ?_ ?_
    (focus (repeat (first | (with_reducible exact Below.refl _ _) | (with_reducible refine Below.trans ?_ (Below.mono (by assumption) (by first | omega | (simp; done) | (simp; omega) | (simp [*]; done)))) | (with_reducible refine Below.alloc ?_ (by first | omega | (simp; done) | (simp; omega) | (simp [*]; done)) _) | (with_reducible refine Below.setCell ?_ (by first | omega | (simp; done) | (simp; omega) | (simp [*]; done)) _) | (with_reducible refine Below.drew ?_))))
    intro X4 hX4
    have sX4 := hX4.size
    refine (iRecv_ok _ _ _ _ _ _ _ HR0.out).mono ?_
    rintro e w4 ⟨rfl, hb4⟩
    have s4 := hb4.size
    have hT4 := hX4.trans (hb4.mono sX4)
    have b_4 := b_3.trans (hT4.mono (by omega))
    have sx_4 := Blk.past hT4 sx_3
    have sa_4 := Blk.past hT4 sa_3
    have ff_4 := Blk.past hT4 ff_3
    have c0_4 := cell_kept c0_3 hT4 (by dsimp only; omega)
    have c1_4 := cell_kept c1_3 hT4 (by dsimp only; omega)
    have c2_4 := cell_kept c2_3 hT4 (by dsimp only; omega)
    clear sx_3 sa_3 ff_3 c0_3 c1_3 c2_3 b_3 cell_sx froz_sx lt_sx cell_sa froz_sa lt_sa cell_ff froz_ff lt_ff lt_c0 lt_c1 lt_c2 hX4 hT4 hb4
    have cell_sx := sx_4.cell
    have froz_sx := sx_4.frozen
    have lt_sx := sx_4.lt
    have cell_sa := sa_4.cell
    have froz_sa := sa_4.frozen
    have lt_sa := sa_4.lt
    have cell_ff := ff_4.cell
    have froz_ff := ff_4.frozen
    have lt_ff := ff_4.lt
    have lt_c0 : g < w4.heap.size := by omega
    have lt_c1 : g < w4.heap.size := by omega
    have lt_c2 : g < w4.heap.size := by omega
    go_wp2_with fail
    refine calls_forget1 (W := w4) (b0 := w4.heap.size) (t0 := 27) (c0 := #[.int .i64 x0, .int .i64 0, .int .i64 1]) ?_ ?_ ?_
    (focus (first | ((repeat (first | (with_reducible assumption) | (with_reducible apply Blk.drew) | (with_reducible apply Blk.drewN) | (with_reducible apply Blk.new; first | rfl | (simp; done)) | (with_reducible apply Blk.alloc) | (with_reducible apply Blk.set_) | (with_reducible apply Blk.past; focus assumption) | (with_reducible apply Blk.far; focus (first | (simp; done) | (simp; omega) | (dsimp only; omega))))); done) | (apply Blk.cast; (case h => (repeat (first | (with_reducible assumption) | (with_reducible apply Blk.drew) | (with_reducible apply Blk.drewN) | (with_reducible apply Blk.new; first | rfl | (simp; done)) | (with_reducible apply Blk.alloc) | (with_reducible apply Blk.set_) | (with_reducible apply Blk.past; focus assumption) | (with_reducible apply Blk.far; focus (first | (simp; done) | (simp; omega) | (dsimp only; omega)))))); (case e => rfl))))
    (focus (repeat (first | (with_reducible exact Below.refl _ _) | (with_reducible refine Below.trans ?_ (Below.mono (by assumption) (by first | omega | (simp; done) | (simp; omega) | (simp [*]; done)))) | (with_reducible refine Below.alloc ?_ (by first | omega | (simp; done) | (simp; omega) | (simp [*]; done)) _) | (with_reducible refine Below.setCell ?_ (by first | omega | (simp; done) | (simp; omega) | (simp [*]; done)) _) | (with_reducible refine Below.drew ?_))))
    intro X5 rb_n hX5
    have sX5 := hX5.size
    have rb_lt := rb_n.lt
    refine (iRecv_no _ _ _ _ _ _ _ (recvB_twice _ _ _)).mono ?_
    rintro e w5 ⟨rfl, hb5⟩
    have s5 := hb5.size
    have hT5 := hX5.trans (hb5.mono sX5)
    have b_5 := b_4.trans (hT5.mono (by omega))
    have sx_5 := Blk.past hT5 sx_4
    have sa_5 := Blk.past hT5 sa_4
    have ff_5 := Blk.past hT5 ff_4
    have c0_5 := cell_kept c0_4 hT5 (by dsimp only; omega)
    have c1_5 := cell_kept c1_4 hT5 (by dsimp only; omega)
    have c2_5 := cell_kept c2_4 hT5 (by dsimp only; omega)
    have rb_5 := Blk.past hb5 rb_n
    clear sx_4 sa_4 ff_4 c0_4 c1_4 c2_4 b_4 cell_sx froz_sx lt_sx cell_sa froz_sa lt_sa cell_ff froz_ff lt_ff lt_c0 lt_c1 lt_c2 rb_n hX5 hT5 hb5
    have cell_sx := sx_5.cell
    have froz_sx := sx_5.frozen
    have lt_sx := sx_5.lt
    have cell_sa := sa_5.cell
    have froz_sa := sa_5.frozen
    have lt_sa := sa_5.lt
    have cell_ff := ff_5.cell
    have froz_ff := ff_5.frozen
    have lt_ff := ff_5.lt
    have cell_rb := rb_5.cell
    have froz_rb := rb_5.frozen
    have lt_rb := rb_5.lt
    have lt_c0 : g < w5.heap.size := by omega
    have lt_c1 : g < w5.heap.size := by omega
    have lt_c2 : g < w5.heap.size := by omega
    go_upto_region 9 with fail
    refine wp_forget2 (w0 := w5) (B := w5.heap.size) (b0 := w5.heap.size) (t0 := 27) (c0 := #[.int .i64 x0, .int .i64 0, .int .i64 1]) (b1 := w5.heap.size + 1) (t1 := 31) (c1 := #[.int .i64 1, .int .i64 x1, .int .i64 (keyedI x0 1 x1)]) ?_ ?_ ?_ ?_
    (focus (first | ((repeat (first | (with_reducible assumption) | (with_reducible apply Blk.drew) | (with_reducible apply Blk.drewN) | (with_reducible apply Blk.new; first | rfl | (simp; done)) | (with_reducible apply Blk.alloc) | (with_reducible apply Blk.set_) | (with_reducible apply Blk.past; focus assumption) | (with_reducible apply Blk.far; focus (first | (simp; done) | (simp; omega) | (dsimp only; omega))))); done) | (apply Blk.cast; (case h => (repeat (first | (with_reducible assumption) | (with_reducible apply Blk.drew) | (with_reducible apply Blk.drewN) | (with_reducible apply Blk.new; first | rfl | (simp; done)) | (with_reducible apply Blk.alloc) | (with_reducible apply Blk.set_) | (with_reducible apply Blk.past; focus assumption) | (with_reducible apply Blk.far; focus (first | (simp; done) | (simp; omega) | (dsimp only; omega)))))); (case e => rfl))))
    (focus (first | ((repeat (first | (with_reducible assumption) | (with_reducible apply Blk.drew) | (with_reducible apply Blk.drewN) | (with_reducible apply Blk.new; first | rfl | (simp; done)) | (with_reducible apply Blk.alloc) | (with_reducible apply Blk.set_) | (with_reducible apply Blk.past; focus assumption) | (with_reducible apply Blk.far; focus (first | (simp; done) | (simp; omega) | (dsimp only; omega))))); done) | (apply Blk.cast; (case h => (repeat (first | (with_reducible assumption) | (with_reducible apply Blk.drew) | (with_reducible apply Blk.drewN) | (with_reducible apply Blk.new; first | rfl | (simp; done)) | (with_reducible apply Blk.alloc) | (with_reducible apply Blk.set_) | (with_reducible apply Blk.past; focus assumption) | (with_reducible apply Blk.far; focus (first | (simp; done) | (simp; omega) | (dsimp only; omega)))))); (case e => rfl))))
    (focus (repeat (first | (with_reducible exact Below.refl _ _) | (with_reducible refine Below.trans ?_ (Below.mono (by assumption) (by first | omega | (simp; done) | (simp; omega) | (simp [*]; done)))) | (with_reducible refine Below.alloc ?_ (by first | omega | (simp; done) | (simp; omega) | (simp [*]; done)) _) | (with_reducible refine Below.setCell ?_ (by first | omega | (simp; done) | (simp; omega) | (simp [*]; done)) _) | (with_reducible refine Below.drew ?_))))
    intro w6 rc_6 gg_6 hX6
    have sX6 := hX6.size
    have rc_lt := rc_6.lt
    have gg_lt := gg_6.lt
    have b_6 := b_5.trans (hX6.mono (by omega))
    have sx_6 := Blk.past hX6 sx_5
    have sa_6 := Blk.past hX6 sa_5
    have ff_6 := Blk.past hX6 ff_5
    have rb_6 := Blk.past hX6 rb_5
    have c0_6 := cell_kept c0_5 hX6 (by dsimp only; omega)
    have c1_6 := cell_kept c1_5 hX6 (by dsimp only; omega)
    have c2_6 := cell_kept c2_5 hX6 (by dsimp only; omega)
    clear sx_5 sa_5 ff_5 rb_5 c0_5 c1_5 c2_5 b_5 cell_sx froz_sx lt_sx cell_sa froz_sa lt_sa cell_ff froz_ff lt_ff cell_rb froz_rb lt_rb lt_c0 lt_c1 lt_c2 hX6
    have cell_sx := sx_6.cell
    have froz_sx := sx_6.frozen
    have lt_sx := sx_6.lt
    have cell_sa := sa_6.cell
    have froz_sa := sa_6.frozen
    have lt_sa := sa_6.lt
    have cell_ff := ff_6.cell
    have froz_ff := ff_6.frozen
    have lt_ff := ff_6.lt
    have cell_rb := rb_6.cell
    have froz_rb := rb_6.frozen
    have lt_rb := rb_6.lt
    have cell_rc := rc_6.cell
    have froz_rc := rc_6.frozen
    have lt_rc := rc_6.lt
    have cell_gg := gg_6.cell
    have froz_gg := gg_6.frozen
    have lt_gg := gg_6.lt
    have lt_c0 : g < w6.heap.size := by omega
    have lt_c1 : g < w6.heap.size := by omega
    have lt_c2 : g < w6.heap.size := by omega
    go_wp2_with fail
    go_region_held3 (fun w' => w'.cell? ⟨b_ff, 0, none⟩ = some (.int .i64 1) ∧ w'.cell? ⟨b_ff, 1, none⟩ = some (.int .i64 x1) ∧ w'.cell? ⟨b_ff, 2, none⟩ = some (.int .i64 (keyedI x0 1 x1)) ∧ w'.cell? ⟨g, 2, none⟩ = some (.int .i64 x2)) (exact ⟨(Blk.cell (t := 31) (cs := #[.int .i64 1, .int .i64 x1, .int .i64 (keyedI x0 1 x1)]) (by repeat (first | (with_reducible assumption) | (with_reducible apply Blk.drew) | (with_reducible apply Blk.drewN) | (with_reducible apply Blk.new; first | rfl | (simp; done)) | (with_reducible apply Blk.alloc) | (with_reducible apply Blk.set_) | (with_reducible apply Blk.past; focus assumption) | (with_reducible apply Blk.far; focus (first | (simp; done) | (simp; omega) | (dsimp only; omega))))) 0), (Blk.cell (t := 31) (cs := #[.int .i64 1, .int .i64 x1, .int .i64 (keyedI x0 1 x1)]) (by repeat (first | (with_reducible assumption) | (with_reducible apply Blk.drew) | (with_reducible apply Blk.drewN) | (with_reducible apply Blk.new; first | rfl | (simp; done)) | (with_reducible apply Blk.alloc) | (with_reducible apply Blk.set_) | (with_reducible apply Blk.past; focus assumption) | (with_reducible apply Blk.far; focus (first | (simp; done) | (simp; omega) | (dsimp only; omega))))) 1), (Blk.cell (t := 31) (cs := #[.int .i64 1, .int .i64 x1, .int .i64 (keyedI x0 1 x1)]) (by repeat (first | (with_reducible assumption) | (with_reducible apply Blk.drew) | (with_reducible apply Blk.drewN) | (with_reducible apply Blk.new; first | rfl | (simp; done)) | (with_reducible apply Blk.alloc) | (with_reducible apply Blk.set_) | (with_reducible apply Blk.past; focus assumption) | (with_reducible apply Blk.far; focus (first | (simp; done) | (simp; omega) | (dsimp only; omega))))) 2), (by first | ((repeat (first | (with_reducible assumption) | (with_reducible refine cell_drew ?_) | (with_reducible refine cell_alloc ?_ (by first | (dsimp only; omega) | (simp; omega))) | (with_reducible refine cell_far ?_ (by first | (dsimp only; omega) | (simp; omega))))); done) | exact cell_kept c2_6 (by repeat (first | (with_reducible exact Below.refl _ _) | (with_reducible refine Below.trans ?_ (Below.mono (by assumption) (by first | omega | (simp; done) | (simp; omega) | (simp [*]; done)))) | (with_reducible refine Below.alloc ?_ (by first | omega | (simp; done) | (simp; omega) | (simp [*]; done)) _) | (with_reducible refine Below.setCell ?_ (by first | omega | (simp; done) | (simp; omega) | (simp [*]; done)) _) | (with_reducible refine Below.drew ?_))) (by dsimp only; omega))⟩) (fail)
    go_wp2_with fail
    refine calls_touch1 (w0 := w6) (L := [w5.heap.size + 1]) (b0 := w5.heap.size + 1) (t0 := 31) (c0 := #[.int .i64 1, .int .i64 (x1 + 1 + x2), .int .i64 (keyedI x0 1 x1)]) ?_ ?_ ?_
    (focus (first | ((repeat (first | (with_reducible assumption) | (with_reducible apply Blk.drew) | (with_reducible apply Blk.drewN) | (with_reducible apply Blk.new; first | rfl | (simp; done)) | (with_reducible apply Blk.alloc) | (with_reducible apply Blk.set_) | (with_reducible apply Blk.past; focus assumption) | (with_reducible apply Blk.far; focus (first | (simp; done) | (simp; omega) | (dsimp only; omega))))); done) | (apply Blk.cast; (case h => (repeat (first | (with_reducible assumption) | (with_reducible apply Blk.drew) | (with_reducible apply Blk.drewN) | (with_reducible apply Blk.new; first | rfl | (simp; done)) | (with_reducible apply Blk.alloc) | (with_reducible apply Blk.set_) | (with_reducible apply Blk.past; focus assumption) | (with_reducible apply Blk.far; focus (first | (simp; done) | (simp; omega) | (dsimp only; omega)))))); (case e => rfl))))
    (focus (repeat (first | (with_reducible exact Touch.refl _ _) | (with_reducible assumption) | (with_reducible apply Touch.drew) | (with_reducible apply Touch.drewN) | (with_reducible apply Touch.alloc) | (with_reducible refine Touch.set_ ?_ _ _ (by simp; done)) | (with_reducible refine Touch.set_new ?_ _ _ (by first | omega | (simp; omega) | (dsimp only; omega))))))
    intro w7 gg_7 hX7
    have sX7 := hX7.size
    have b_7 := hX7.below b_6 (by first | (simp; done) | (simp; omega))
    have sx_7 := Blk.touch hX7 sx_6 (by first | (simp; done) | (simp; omega))
    have sa_7 := Blk.touch hX7 sa_6 (by first | (simp; done) | (simp; omega))
    have ff_7 := Blk.touch hX7 ff_6 (by first | (simp; done) | (simp; omega))
    have rb_7 := Blk.touch hX7 rb_6 (by first | (simp; done) | (simp; omega))
    have rc_7 := Blk.touch hX7 rc_6 (by first | (simp; done) | (simp; omega))
    have c0_7 := Touch.cell hX7 c0_6 (by dsimp only; omega) (by first | (simp; done) | (simp; omega))
    have c1_7 := Touch.cell hX7 c1_6 (by dsimp only; omega) (by first | (simp; done) | (simp; omega))
    have c2_7 := Touch.cell hX7 c2_6 (by dsimp only; omega) (by first | (simp; done) | (simp; omega))
    clear sx_6 sa_6 ff_6 rb_6 rc_6 gg_6 c0_6 c1_6 c2_6 b_6 cell_sx froz_sx lt_sx cell_sa froz_sa lt_sa cell_ff froz_ff lt_ff cell_rb froz_rb lt_rb cell_rc froz_rc lt_rc cell_gg froz_gg lt_gg lt_c0 lt_c1 lt_c2 hX7
    have cell_sx := sx_7.cell
    have froz_sx := sx_7.frozen
    have lt_sx := sx_7.lt
    have cell_sa := sa_7.cell
    have froz_sa := sa_7.frozen
    have lt_sa := sa_7.lt
    have cell_ff := ff_7.cell
    have froz_ff := ff_7.frozen
    have lt_ff := ff_7.lt
    have cell_rb := rb_7.cell
    have froz_rb := rb_7.frozen
    have lt_rb := rb_7.lt
    have cell_rc := rc_7.cell
    have froz_rc := rc_7.frozen
    have lt_rc := rc_7.lt
    have cell_gg := gg_7.cell
    have froz_gg := gg_7.frozen
    have lt_gg := gg_7.lt
    have lt_c0 : g < w7.heap.size := by omega
    have lt_c1 : g < w7.heap.size := by omega
    have lt_c2 : g < w7.heap.size := by omega
    go_wp2_with fail
    refine calls_forget0 (W := w7) ?_ ?_
    (focus (repeat (first | (with_reducible exact Below.refl _ _) | (with_reducible refine Below.trans ?_ (Below.mono (by assumption) (by first | omega | (simp; done) | (simp; omega) | (simp [*]; done)))) | (with_reducible refine Below.alloc ?_ (by first | omega | (simp; done) | (simp; omega) | (simp [*]; done)) _) | (with_reducible refine Below.setCell ?_ (by first | omega | (simp; done) | (simp; omega) | (simp [*]; done)) _) | (with_reducible refine Below.drew ?_))))
    intro X8 hX8
    have sX8 := hX8.size
    refine (iRecv_no _ _ _ _ _ _ _ HR2.out).mono ?_
    rintro e w8 ⟨rfl, hb8⟩
    have s8 := hb8.size
    have hT8 := hX8.trans (hb8.mono sX8)
    have b_8 := b_7.trans (hT8.mono (by omega))
    have sx_8 := Blk.past hT8 sx_7
    have sa_8 := Blk.past hT8 sa_7
    have ff_8 := Blk.past hT8 ff_7
    have rb_8 := Blk.past hT8 rb_7
    have rc_8 := Blk.past hT8 rc_7
    have gg_8 := Blk.past hT8 gg_7
    have c0_8 := cell_kept c0_7 hT8 (by dsimp only; omega)
    have c1_8 := cell_kept c1_7 hT8 (by dsimp only; omega)
    have c2_8 := cell_kept c2_7 hT8 (by dsimp only; omega)
    clear sx_7 sa_7 ff_7 rb_7 rc_7 gg_7 c0_7 c1_7 c2_7 b_7 cell_sx froz_sx lt_sx cell_sa froz_sa lt_sa cell_ff froz_ff lt_ff cell_rb froz_rb lt_rb cell_rc froz_rc lt_rc cell_gg froz_gg lt_gg lt_c0 lt_c1 lt_c2 hX8 hT8 hb8
    have cell_sx := sx_8.cell
    have froz_sx := sx_8.frozen
    have lt_sx := sx_8.lt
    have cell_sa := sa_8.cell
    have froz_sa := sa_8.frozen
    have lt_sa := sa_8.lt
    have cell_ff := ff_8.cell
    have froz_ff := ff_8.frozen
    have lt_ff := ff_8.lt
    have cell_rb := rb_8.cell
    have froz_rb := rb_8.frozen
    have lt_rb := rb_8.lt
    have cell_rc := rc_8.cell
    have froz_rc := rc_8.frozen
    have lt_rc := rc_8.lt
    have cell_gg := gg_8.cell
    have froz_gg := gg_8.frozen
    have lt_gg := gg_8.lt
    have lt_c0 : g < w8.heap.size := by omega
    have lt_c1 : g < w8.heap.size := by omega
    have lt_c2 : g < w8.heap.size := by omega
    go_wp2_with fail
    refine calls_forget1 (W := w8) (b0 := w8.heap.size) (t0 := 27) (c0 := #[.int .i64 x0, .int .i64 0, .int .i64 0]) ?_ ?_ ?_
    (focus (first | ((repeat (first | (with_reducible assumption) | (with_reducible apply Blk.drew) | (with_reducible apply Blk.drewN) | (with_reducible apply Blk.new; first | rfl | (simp; done)) | (with_reducible apply Blk.alloc) | (with_reducible apply Blk.set_) | (with_reducible apply Blk.past; focus assumption) | (with_reducible apply Blk.far; focus (first | (simp; done) | (simp; omega) | (dsimp only; omega))))); done) | (apply Blk.cast; (case h => (repeat (first | (with_reducible assumption) | (with_reducible apply Blk.drew) | (with_reducible apply Blk.drewN) | (with_reducible apply Blk.new; first | rfl | (simp; done)) | (with_reducible apply Blk.alloc) | (with_reducible apply Blk.set_) | (with_reducible apply Blk.past; focus assumption) | (with_reducible apply Blk.far; focus (first | (simp; done) | (simp; omega) | (dsimp only; omega)))))); (case e => rfl))))
    (focus (repeat (first | (with_reducible exact Below.refl _ _) | (with_reducible refine Below.trans ?_ (Below.mono (by assumption) (by first | omega | (simp; done) | (simp; omega) | (simp [*]; done)))) | (with_reducible refine Below.alloc ?_ (by first | omega | (simp; done) | (simp; omega) | (simp [*]; done)) _) | (with_reducible refine Below.setCell ?_ (by first | omega | (simp; done) | (simp; omega) | (simp [*]; done)) _) | (with_reducible refine Below.drew ?_))))
    intro X9 rd_n hX9
    have sX9 := hX9.size
    have rd_lt := rd_n.lt
    refine (iOk_yes _ _ _ _ HOK.out).mono ?_
    rintro e w9 ⟨rfl, hb9⟩
    have s9 := hb9.size
    have hT9 := hX9.trans (hb9.mono sX9)
    have b_9 := b_8.trans (hT9.mono (by omega))
    have sx_9 := Blk.past hT9 sx_8
    have sa_9 := Blk.past hT9 sa_8
    have ff_9 := Blk.past hT9 ff_8
    have rb_9 := Blk.past hT9 rb_8
    have rc_9 := Blk.past hT9 rc_8
    have gg_9 := Blk.past hT9 gg_8
    have c0_9 := cell_kept c0_8 hT9 (by dsimp only; omega)
    have c1_9 := cell_kept c1_8 hT9 (by dsimp only; omega)
    have c2_9 := cell_kept c2_8 hT9 (by dsimp only; omega)
    have rd_9 := Blk.past hb9 rd_n
    clear sx_8 sa_8 ff_8 rb_8 rc_8 gg_8 c0_8 c1_8 c2_8 b_8 cell_sx froz_sx lt_sx cell_sa froz_sa lt_sa cell_ff froz_ff lt_ff cell_rb froz_rb lt_rb cell_rc froz_rc lt_rc cell_gg froz_gg lt_gg lt_c0 lt_c1 lt_c2 rd_n hX9 hT9 hb9
    have cell_sx := sx_9.cell
    have froz_sx := sx_9.frozen
    have lt_sx := sx_9.lt
    have cell_sa := sa_9.cell
    have froz_sa := sa_9.frozen
    have lt_sa := sa_9.lt
    have cell_ff := ff_9.cell
    have froz_ff := ff_9.frozen
    have lt_ff := ff_9.lt
    have cell_rb := rb_9.cell
    have froz_rb := rb_9.frozen
    have lt_rb := rb_9.lt
    have cell_rc := rc_9.cell
    have froz_rc := rc_9.frozen
    have lt_rc := rc_9.lt
    have cell_gg := gg_9.cell
    have froz_gg := gg_9.frozen
    have lt_gg := gg_9.lt
    have cell_rd := rd_9.cell
    have froz_rd := rd_9.frozen
    have lt_rd := rd_9.lt
    have lt_c0 : g < w9.heap.size := by omega
    have lt_c1 : g < w9.heap.size := by omega
    have lt_c2 : g < w9.heap.size := by omega
    go_wp2
    go_ret
    refine ⟨rfl, b_9.trans ?_⟩
    repeat (first | (with_reducible exact Below.refl _ _) | (with_reducible refine Below.trans ?_ (Below.mono (by assumption) (by first | omega | (simp; done) | (simp; omega) | (simp [*]; done)))) | (with_reducible refine Below.alloc ?_ (by first | omega | (simp; done) | (simp; omega) | (simp [*]; done)) _) | (with_reducible refine Below.setCell ?_ (by first | omega | (simp; done) | (simp; omega) | (simp [*]; done)) _) | (with_reducible refine Below.drew ?_))
set_option maxRecDepth 100000 in
theorem lifted (os : Os) (started : os.Started) (H : Type) (enc : TypeId × Value → H) :
    ReturnsInHanded {} Try.checked os 3 .any (Rows.fnChangedSpec.pre6 enc Try.prog Try.f3 Rows.fnChangedRow.domain false) (Rows.fnChangedSpec.post enc Try.prog Try.f3 false true false false) := by
  refine returnsInHanded_of_change (C := Try.checked) own started (by kernel_rfl) Try.func3
    (ChangeSpec.witness6 (enc := enc) (C := Try.checked) false ⟨#[], #[.slice none 0 0], []⟩ 8 (by kernel_rfl) (by kernel_rfl) (by kernel_rfl) (by kernel_rfl)) ?_
  intro W base args ds gs before hval0 hW _ _
  have hval : ∀ (j : Nat) t v, Try.f3.params[j]? = some t → args[j]? = some v → Value.okWide Try.prog W .any base t v := hval0
  have hW' := hW
  obtain ⟨p, q, hA0, hV, rfl, _, _⟩ := hW
  have hA : DataW.TrodAll enc Try.prog W 0 (fun _ => true) true Try.f3.params.toList args.toList ds p := hA0
  rw [Try.params3] at hA hval
  obtain ⟨v0, vs0, d0, ds0, p0, q0, hargs, rfl, rfl, h0, r0⟩ := trodAll_cons hA
  obtain ⟨rfl, rfl, rfl⟩ := trodAll_nil r0
  obtain rfl : args = #[v0] := by cases args; simp_all
  obtain ⟨rfl, rfl⟩ := trodVars_none hV
  obtain ⟨A0, c0, xs0, rfl, hb0⟩ := view_bytes Try.underlying22 Try.underlying5 (by kernel_rfl) (hval 0 22 v0 rfl rfl) h0 (fun x hx => hW'.lt x (by simp [hx]))
  refine (walk A0 c0 xs0 W hb0).mono fun e W' ⟨he, hb⟩ => ?_
  subst he
  exact ⟨_, rfl, law_post rfl (by kernel_rfl) (by kernel_rfl) rfl Try.underlying4 hW' rfl rfl rfl hb⟩
theorem closed : joinedFacts Try.prog 3 Try.f3 Rows.fnChangedSpec Rows.fnChangedRow = true := by
  unfold joinedFacts
  rw [makeIs, mayIs, finalsIs]
  kernel_rfl
theorem over : Rows.fnChangedRow.holds Try.pinned (OpenSpec.ofChange Rows.fnChangedSpec) :=
  OpenClaim.holds_of_wide 3 Try.f3 rfl rfl rfl rfl rfl rfl rfl ⟨rfl, rfl, rfl, rfl, rfl⟩ rfl rfl rfl rfl rfl (by kernel_rfl) Try.func3 closed
    (of_decide_eq_true (by kernel_rfl)) (by unfold Func.isWrapper; first | (rw [if_pos (by decide +kernel)]; kernel_rfl) | (rw [if_neg (by decide +kernel)]; exact ⟨rfl, rfl⟩))
    (fun os started H enc _ => lifted os started H enc)
theorem proved : Rows.FnChangedSaid := over
#print axioms proved

end changed
end Go.Proofs.Ytdfomahaplcgoaa
