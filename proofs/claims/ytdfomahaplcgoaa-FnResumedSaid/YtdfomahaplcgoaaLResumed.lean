/- The law that after an interruption sending continues with the first frame that was not accepted (FnResumed). No conditions. -/
import Derived.Test.YtdfomahaplcgoaaSessYes
import Derived.Test.YtdfomahaplcgoaaDraw
import Derived.Test.YtdfomahaplcgoaaHead
import Derived.Outline
set_option linter.unusedVariables false
namespace Go.Proofs.Ytdfomahaplcgoaa
open Go.RowKit Go.ChangeShapes Go.WideShapes Go.ChangeAt

namespace resumed
theorem wrap_1j {j : Nat} (h : j < 6) : IntKind.i64.wrap (1 + (j : Int)) = 1 + (j : Int) := IntWalk.i64_in _ (by omega)
theorem toNat_1j {j : Nat} : (1 + (j : Int)).toNat = 1 + j := by omega
attribute [local go_sem] wrap_1j toNat_1j
set_option maxRecDepth 100000 in
set_option maxHeartbeats 6400000 in
theorem walk (A : Option Addr) (c : Nat) (bs : List Int) (w : World) (hb : Bytes w w.heap.size A bs) :
    Calls Try.prog 4 #[.slice A bs.length c] w fun e w' => e = .returned (.bool true) ∧ Below w.heap.size w w' := by
  have hl := hb.len
  have HB := hid hb
  clear hb
  by_cases h1 : (1048576 : Int) < (bs.length : Int)
  · go_enter Try.func4, Try.ntmps4
    go_wp2_with (go_at_call 11; refine (big_any _ _ _ _ hl).mono ?_; rintro e w' ⟨rfl, rfl⟩)
    go_ret
    exact ⟨rfl, Below.refl _ _⟩
  go_enter Try.func4, Try.ntmps4
  go_wp2_with fail
  refine (big_any _ _ _ _ hl).mono ?_
  rintro e w' ⟨rfl, rfl⟩
  go_wp2_with fail
  refine (places_any _ _ _ _ HB.out).mono ?_
  rintro e w0 ⟨xs, hlen, hsm, Ap, cp, he, hop, hb0⟩
  rw [hlen] at he hop
  subst he
  have HB0 := hid hb0
  have zw := hb0.size
  obtain ⟨g, rfl, hg0, hg1, hgc⟩ := own_at hop (by omega)
  have HGC := hid hgc
  have HSM := hid hsm
  have HLEN := hid hlen
  obtain ⟨x0, e0⟩ : ∃ x, xs[0]? = some x := ⟨_, List.getElem?_eq_getElem (by omega)⟩
  obtain ⟨x7, e7⟩ : ∃ x, xs[7]? = some x := ⟨_, List.getElem?_eq_getElem (by omega)⟩
  obtain ⟨p0, q0⟩ := hsm x0 (List.mem_of_getElem? e0)
  obtain ⟨p7, q7⟩ := hsm x7 (List.mem_of_getElem? e7)
  have r0 := hgc 0 _ (ints_get e0)
  have r7 := hgc 7 _ (ints_get e7)
  have R7 := hid r7
  have k0 : isWordB x0 = true := isWordB_iff.2 (by omega)
  have HW := hid k0
  obtain ⟨m, hm⟩ : ∃ m : Nat, x7 % 7 = (m : Int) := ⟨(x7 % 7).toNat, by omega⟩
  have hm6 : m ≤ 6 := by omega
  have HM := hid hm
  clear hop hgc e0 e7 hlen hsm hb0 k0 hm
  have b_0 := (Below.refl w0.heap.size w0)
  have s_0 := b_0.size
  have c0_0 := r0
  clear r0
  have lt_c0 : g < w0.heap.size := by omega
  have c7_0 := r7
  clear r7
  have lt_c7 : g < w0.heap.size := by omega
  go_wp2_with fail
  refine calls_forget0 (W := w0) ?_ ?_
  (focus (repeat (first | (with_reducible exact Below.refl _ _) | (with_reducible refine Below.trans ?_ (Below.mono (by assumption) (by first | omega | (simp; done) | (simp; omega) | (simp [*]; done)))) | (with_reducible refine Below.alloc ?_ (by first | omega | (simp; done) | (simp; omega) | (simp [*]; done)) _) | (with_reducible refine Below.setCell ?_ (by first | omega | (simp; done) | (simp; omega) | (simp [*]; done)) _) | (with_reducible refine Below.drew ?_))))
  intro X1 hX1
  have sX1 := hX1.size
  refine (iNew_ok _ _ HW.out).mono ?_
  rintro e w1 ⟨rfl, hb1⟩
  have s1 := hb1.size
  have hT1 := hX1.trans (hb1.mono sX1)
  have b_1 := b_0.trans (hT1.mono (by omega))
  have c0_1 := cell_kept c0_0 hT1 (by dsimp only; omega)
  have c7_1 := cell_kept c7_0 hT1 (by dsimp only; omega)
  clear c0_0 c7_0 b_0 lt_c0 lt_c7 hX1 hT1 hb1
  have lt_c0 : g < w1.heap.size := by omega
  have lt_c7 : g < w1.heap.size := by omega
  go_wp2_with fail
  refine wp_forget2 (w0 := w1) (B := w1.heap.size) (b0 := w1.heap.size) (t0 := 27) (c0 := #[.int .i64 x0, .int .i64 0, .int .i64 0]) (b1 := w1.heap.size + 1) (t1 := 27) (c1 := #[.int .i64 x0, .int .i64 0, .int .i64 0]) ?_ ?_ ?_ ?_
  (focus (first | ((repeat (first | (with_reducible assumption) | (with_reducible apply Blk.drew) | (with_reducible apply Blk.drewN) | (with_reducible apply Blk.new; first | rfl | (simp; done)) | (with_reducible apply Blk.alloc) | (with_reducible apply Blk.set_) | (with_reducible apply Blk.past; focus assumption) | (with_reducible apply Blk.far; focus (first | (simp; done) | (simp; omega) | (dsimp only; omega))))); done) | (apply Blk.cast; (case h => (repeat (first | (with_reducible assumption) | (with_reducible apply Blk.drew) | (with_reducible apply Blk.drewN) | (with_reducible apply Blk.new; first | rfl | (simp; done)) | (with_reducible apply Blk.alloc) | (with_reducible apply Blk.set_) | (with_reducible apply Blk.past; focus assumption) | (with_reducible apply Blk.far; focus (first | (simp; done) | (simp; omega) | (dsimp only; omega)))))); (case e => rfl))))
  (focus (first | ((repeat (first | (with_reducible assumption) | (with_reducible apply Blk.drew) | (with_reducible apply Blk.drewN) | (with_reducible apply Blk.new; first | rfl | (simp; done)) | (with_reducible apply Blk.alloc) | (with_reducible apply Blk.set_) | (with_reducible apply Blk.past; focus assumption) | (with_reducible apply Blk.far; focus (first | (simp; done) | (simp; omega) | (dsimp only; omega))))); done) | (apply Blk.cast; (case h => (repeat (first | (with_reducible assumption) | (with_reducible apply Blk.drew) | (with_reducible apply Blk.drewN) | (with_reducible apply Blk.new; first | rfl | (simp; done)) | (with_reducible apply Blk.alloc) | (with_reducible apply Blk.set_) | (with_reducible apply Blk.past; focus assumption) | (with_reducible apply Blk.far; focus (first | (simp; done) | (simp; omega) | (dsimp only; omega)))))); (case e => rfl))))
  (focus (repeat (first | (with_reducible exact Below.refl _ _) | (with_reducible refine Below.trans ?_ (Below.mono (by assumption) (by first | omega | (simp; done) | (simp; omega) | (simp [*]; done)))) | (with_reducible refine Below.alloc ?_ (by first | omega | (simp; done) | (simp; omega) | (simp [*]; done)) _) | (with_reducible refine Below.setCell ?_ (by first | omega | (simp; done) | (simp; omega) | (simp [*]; done)) _) | (with_reducible refine Below.drew ?_))))
  intro w2 sx_2 rx_2 hX2
  have sX2 := hX2.size
  have sx_lt := sx_2.lt
  have rx_lt := rx_2.lt
  have b_2 := b_1.trans (hX2.mono (by omega))
  have c0_2 := cell_kept c0_1 hX2 (by dsimp only; omega)
  have c7_2 := cell_kept c7_1 hX2 (by dsimp only; omega)
  clear c0_1 c7_1 b_1 lt_c0 lt_c7 hX2
  have cell_sx := sx_2.cell
  have froz_sx := sx_2.frozen
  have lt_sx := sx_2.lt
  have cell_rx := rx_2.cell
  have froz_rx := rx_2.frozen
  have lt_rx := rx_2.lt
  have lt_c0 : g < w2.heap.size := by omega
  have lt_c7 : g < w2.heap.size := by omega
  clear cell_sx froz_sx lt_sx cell_rx froz_rx lt_rx lt_c0 lt_c7 c0_2
  have HC7 := hid c7_2
  clear c7_2
  go_loopw [7, 8, 9, 10, 11, 12, 13] (fun i _ _ _ _ _ _ wr => ∃ j : Nat, j ≤ 6 ∧ i = .int .i64 j ∧ Blk wr w1.heap.size 27 #[.int .i64 x0, .int .i64 j, .int .i64 0] ∧
    Blk wr (w1.heap.size + 1) 27 #[.int .i64 x0, .int .i64 0, .int .i64 (min j m : Nat)] ∧ Below w0.heap.size w0 wr) (fun i _ _ _ _ _ _ _ => 6 - (intOf i).toNat)
  case atStart => exact ⟨0, by omega, rfl, sx_2, by rw [Nat.zero_min]; exact rx_2, b_2⟩
  case round =>
    obtain ⟨j, hj, rfl, ks, kr, hb⟩ := hrel
    have zr := hb.size
    have zs := ks.lt
    have r7 := cell_kept R7.out hb hg1
    by_cases hlt : j < 6
    · obtain ⟨x, hx⟩ : ∃ x, xs[1 + j]? = some x := ⟨_, List.getElem?_eq_getElem (by have := HLEN.out; omega)⟩
      obtain ⟨p1, q1⟩ := HSM.out x (List.mem_of_getElem? hx)
      have r1 := cell_kept (HGC.out (1 + j) _ (ints_get hx)) hb hg1
      have kx : isWordB x = true := isWordB_iff.2 (by omega)
      have hs := sendB_word (x := x) (j := j) HW.out (by omega)
      rw [kx] at hs
      have HS := hid hs
      have hjj : (0 : Int) ≤ 1 + (j : Int) := by omega
      have hjj2 : 1 + (j : Int) < 12 := by omega
      have hj6 : (j : Int) < 6 := by omega
      by_cases hjm : j < m
      · have hr := recvB_frame (k := x0) (x := x) (i := j) (g := j) HW.out kx (by omega)
        rw [decide_eq_true rfl] at hr
        have HR := hid hr
        have hmin : min j m = j := by omega
        rw [hmin] at kr
        have htest : (j : Int) < x7 % 7 := by have := HM.out; omega
        clear hs hr kx hx hmin
        have b_10 := hb
        have s_10 := b_10.size
        have sx_10 := ks
        clear ks
        have sx_lt := sx_10.lt
        have cell_sx := sx_10.cell
        have froz_sx := sx_10.frozen
        have lt_sx := sx_10.lt
        have rx_10 := kr
        clear kr
        have rx_lt := rx_10.lt
        have cell_rx := rx_10.cell
        have froz_rx := rx_10.frozen
        have lt_rx := rx_10.lt
        have c1_10 := r1
        clear r1
        have lt_c1 : g < wr.heap.size := by omega
        have c7_10 := r7
        clear r7
        have lt_c7 : g < wr.heap.size := by omega
        go_upto_region 9 with fail
        go_cut [8, 9, 10] (fun v8 v9 v10 wx => ∃ b8 b9, v8 = .pointer (some ⟨b8, 0, none⟩) ∧ v9 = .pointer (some ⟨b9, 0, none⟩) ∧ v10 = .bool true ∧ wr.heap.size ≤ b8 ∧ wr.heap.size ≤ b9 ∧ b8 ≠ b9 ∧ Blk wx b8 27 #[.int .i64 x0, .int .i64 (j + 1), .int .i64 0] ∧ Blk wx b9 31 #[.int .i64 (j + 1), .int .i64 x, .int .i64 (keyedI x0 (j + 1) x)] ∧ Below wr.heap.size wr wx)
        case first =>
          go_region_held3 (fun w' => w'.cell? ⟨w1.heap.size, 0, none⟩ = some (.int .i64 x0) ∧ w'.cell? ⟨w1.heap.size, 1, none⟩ = some (.int .i64 j) ∧ w'.cell? ⟨w1.heap.size, 2, none⟩ = some (.int .i64 0) ∧ w'.cell? ⟨g, 1 + j, none⟩ = some (.int .i64 x)) (exact ⟨(Blk.cell (t := 27) (cs := #[.int .i64 x0, .int .i64 j, .int .i64 0]) (by repeat (first | (with_reducible assumption) | (with_reducible apply Blk.drew) | (with_reducible apply Blk.drewN) | (with_reducible apply Blk.new; first | rfl | (simp; done)) | (with_reducible apply Blk.alloc) | (with_reducible apply Blk.set_) | (with_reducible apply Blk.past; focus assumption) | (with_reducible apply Blk.far; focus (first | (simp; done) | (simp; omega) | (dsimp only; omega))))) 0), (Blk.cell (t := 27) (cs := #[.int .i64 x0, .int .i64 j, .int .i64 0]) (by repeat (first | (with_reducible assumption) | (with_reducible apply Blk.drew) | (with_reducible apply Blk.drewN) | (with_reducible apply Blk.new; first | rfl | (simp; done)) | (with_reducible apply Blk.alloc) | (with_reducible apply Blk.set_) | (with_reducible apply Blk.past; focus assumption) | (with_reducible apply Blk.far; focus (first | (simp; done) | (simp; omega) | (dsimp only; omega))))) 1), (Blk.cell (t := 27) (cs := #[.int .i64 x0, .int .i64 j, .int .i64 0]) (by repeat (first | (with_reducible assumption) | (with_reducible apply Blk.drew) | (with_reducible apply Blk.drewN) | (with_reducible apply Blk.new; first | rfl | (simp; done)) | (with_reducible apply Blk.alloc) | (with_reducible apply Blk.set_) | (with_reducible apply Blk.past; focus assumption) | (with_reducible apply Blk.far; focus (first | (simp; done) | (simp; omega) | (dsimp only; omega))))) 2), (by first | ((repeat (first | (with_reducible assumption) | (with_reducible refine cell_drew ?_) | (with_reducible refine cell_alloc ?_ (by first | (dsimp only; omega) | (simp; omega))) | (with_reducible refine cell_far ?_ (by first | (dsimp only; omega) | (simp; omega))))); done) | exact cell_kept c1_10 (by repeat (first | (with_reducible exact Below.refl _ _) | (with_reducible refine Below.trans ?_ (Below.mono (by assumption) (by first | omega | (simp; done) | (simp; omega) | (simp [*]; done)))) | (with_reducible refine Below.alloc ?_ (by first | omega | (simp; done) | (simp; omega) | (simp [*]; done)) _) | (with_reducible refine Below.setCell ?_ (by first | omega | (simp; done) | (simp; omega) | (simp [*]; done)) _) | (with_reducible refine Below.drew ?_))) (by dsimp only; omega))⟩) (((go_at_call 14; refine (iSend_ok _ _ _ _ _ HS.out).mono ?_; rintro e wz ⟨rfl, hbz⟩; (first | (with_reducible refine use_top2d hbz ?_; intro zt ct ft kt zt2 ct2 ft2 kt2; try simp only [World.size_alloc] at zt ct ft kt zt2 ct2 ft2 kt2) | (with_reducible refine use_topd hbz ?_; intro zt ct ft kt; try simp only [World.size_alloc] at zt ct ft kt) | skip); have sz := hbz.size; try simp at sz)))
          all_goals
            go_wp2_with fail
            go_meet
            exact ⟨_, _, rfl, rfl, rfl, by first | exact Nat.le_refl _ | omega | (simp; done) | (simp; omega), by first | exact Nat.le_refl _ | omega | (simp; done) | (simp; omega), by first | omega | (simp; done) | (simp; omega), by (first | ((repeat (first | (with_reducible assumption) | (with_reducible apply Blk.drew) | (with_reducible apply Blk.drewN) | (with_reducible apply Blk.new; first | rfl | (simp; done)) | (with_reducible apply Blk.alloc) | (with_reducible apply Blk.set_) | (with_reducible apply Blk.past; focus assumption) | (with_reducible apply Blk.far; focus (first | (simp; done) | (simp; omega) | (dsimp only; omega))))); done) | (apply Blk.cast; (case h => (repeat (first | (with_reducible assumption) | (with_reducible apply Blk.drew) | (with_reducible apply Blk.drewN) | (with_reducible apply Blk.new; first | rfl | (simp; done)) | (with_reducible apply Blk.alloc) | (with_reducible apply Blk.set_) | (with_reducible apply Blk.past; focus assumption) | (with_reducible apply Blk.far; focus (first | (simp; done) | (simp; omega) | (dsimp only; omega)))))); (case e => rfl))), by (first | ((repeat (first | (with_reducible assumption) | (with_reducible apply Blk.drew) | (with_reducible apply Blk.drewN) | (with_reducible apply Blk.new; first | rfl | (simp; done)) | (with_reducible apply Blk.alloc) | (with_reducible apply Blk.set_) | (with_reducible apply Blk.past; focus assumption) | (with_reducible apply Blk.far; focus (first | (simp; done) | (simp; omega) | (dsimp only; omega))))); done) | (apply Blk.cast; (case h => (repeat (first | (with_reducible assumption) | (with_reducible apply Blk.drew) | (with_reducible apply Blk.drewN) | (with_reducible apply Blk.new; first | rfl | (simp; done)) | (with_reducible apply Blk.alloc) | (with_reducible apply Blk.set_) | (with_reducible apply Blk.past; focus assumption) | (with_reducible apply Blk.far; focus (first | (simp; done) | (simp; omega) | (dsimp only; omega)))))); (case e => rfl))), by repeat (first | (with_reducible exact Below.refl _ _) | (with_reducible refine Below.trans ?_ (Below.mono (by assumption) (by first | omega | (simp; done) | (simp; omega) | (simp [*]; done)))) | (with_reducible refine Below.alloc ?_ (by first | omega | (simp; done) | (simp; omega) | (simp [*]; done)) _) | (with_reducible refine Below.setCell ?_ (by first | omega | (simp; done) | (simp; omega) | (simp [*]; done)) _) | (with_reducible refine Below.drew ?_))⟩
        case rest =>
          obtain ⟨b_nf, b_ff, rfl, rfl, rfl, nf_ge, ff_ge, nf_ne, nf_11, ff_11, hb11⟩ := hcut
          obtain ⟨w11, rfl⟩ : ∃ z : World, z = wc := ⟨_, rfl⟩
          have s11 := hb11.size
          have b_11 := b_10.trans (hb11.mono (by omega))
          have sx_11 := Blk.past hb11 sx_10
          have rx_11 := Blk.past hb11 rx_10
          have c1_11 := cell_kept c1_10 hb11 (by dsimp only; omega)
          have c7_11 := cell_kept c7_10 hb11 (by dsimp only; omega)
          clear sx_10 rx_10 c1_10 c7_10 b_10 cell_sx froz_sx lt_sx cell_rx froz_rx lt_rx lt_c1 lt_c7 hb11
          have nf_lt := nf_11.lt
          have ff_lt := ff_11.lt
          have cell_sx := sx_11.cell
          have froz_sx := sx_11.frozen
          have lt_sx := sx_11.lt
          have cell_rx := rx_11.cell
          have froz_rx := rx_11.frozen
          have lt_rx := rx_11.lt
          have cell_nf := nf_11.cell
          have froz_nf := nf_11.frozen
          have lt_nf := nf_11.lt
          have cell_ff := ff_11.cell
          have froz_ff := ff_11.frozen
          have lt_ff := ff_11.lt
          have lt_c1 : g < w11.heap.size := by omega
          have lt_c7 : g < w11.heap.size := by omega
          go_wp2_with fail
          refine calls_touch1 (w0 := w11) (L := [w1.heap.size]) (b0 := w1.heap.size) (t0 := 27) (c0 := #[.int .i64 x0, .int .i64 (j + 1), .int .i64 0]) ?_ ?_ ?_
          (focus (first | ((repeat (first | (with_reducible assumption) | (with_reducible apply Blk.drew) | (with_reducible apply Blk.drewN) | (with_reducible apply Blk.new; first | rfl | (simp; done)) | (with_reducible apply Blk.alloc) | (with_reducible apply Blk.set_) | (with_reducible apply Blk.past; focus assumption) | (with_reducible apply Blk.far; focus (first | (simp; done) | (simp; omega) | (dsimp only; omega))))); done) | (apply Blk.cast; (case h => (repeat (first | (with_reducible assumption) | (with_reducible apply Blk.drew) | (with_reducible apply Blk.drewN) | (with_reducible apply Blk.new; first | rfl | (simp; done)) | (with_reducible apply Blk.alloc) | (with_reducible apply Blk.set_) | (with_reducible apply Blk.past; focus assumption) | (with_reducible apply Blk.far; focus (first | (simp; done) | (simp; omega) | (dsimp only; omega)))))); (case e => rfl))))
          (focus (repeat (first | (with_reducible exact Touch.refl _ _) | (with_reducible assumption) | (with_reducible apply Touch.drew) | (with_reducible apply Touch.drewN) | (with_reducible apply Touch.alloc) | (with_reducible refine Touch.set_ ?_ _ _ (by simp; done)) | (with_reducible refine Touch.set_new ?_ _ _ (by first | omega | (simp; omega) | (dsimp only; omega))))))
          intro w12 sx_12 hX12
          have sX12 := hX12.size
          have b_12 := hX12.below b_11 (by first | (simp; done) | (simp; omega))
          have rx_12 := Blk.touch hX12 rx_11 (by first | (simp; done) | (simp; omega))
          have nf_12 := Blk.touch hX12 nf_11 (by first | (simp; done) | (simp; omega))
          have ff_12 := Blk.touch hX12 ff_11 (by first | (simp; done) | (simp; omega))
          have c1_12 := Touch.cell hX12 c1_11 (by dsimp only; omega) (by first | (simp; done) | (simp; omega))
          have c7_12 := Touch.cell hX12 c7_11 (by dsimp only; omega) (by first | (simp; done) | (simp; omega))
          clear sx_11 rx_11 nf_11 ff_11 c1_11 c7_11 b_11 cell_sx froz_sx lt_sx cell_rx froz_rx lt_rx cell_nf froz_nf lt_nf cell_ff froz_ff lt_ff lt_c1 lt_c7 hX12
          have cell_sx := sx_12.cell
          have froz_sx := sx_12.frozen
          have lt_sx := sx_12.lt
          have cell_rx := rx_12.cell
          have froz_rx := rx_12.frozen
          have lt_rx := rx_12.lt
          have cell_nf := nf_12.cell
          have froz_nf := nf_12.frozen
          have lt_nf := nf_12.lt
          have cell_ff := ff_12.cell
          have froz_ff := ff_12.frozen
          have lt_ff := ff_12.lt
          have lt_c1 : g < w12.heap.size := by omega
          have lt_c7 : g < w12.heap.size := by omega
          go_wp2_with fail
          refine calls_forget0 (W := w12) ?_ ?_
          (focus (repeat (first | (with_reducible exact Below.refl _ _) | (with_reducible refine Below.trans ?_ (Below.mono (by assumption) (by first | omega | (simp; done) | (simp; omega) | (simp [*]; done)))) | (with_reducible refine Below.alloc ?_ (by first | omega | (simp; done) | (simp; omega) | (simp [*]; done)) _) | (with_reducible refine Below.setCell ?_ (by first | omega | (simp; done) | (simp; omega) | (simp [*]; done)) _) | (with_reducible refine Below.drew ?_))))
          intro X13 hX13
          have sX13 := hX13.size
          refine (iRecv_ok _ _ _ _ _ _ _ HR.out).mono ?_
          rintro e w13 ⟨rfl, hb13⟩
          have s13 := hb13.size
          have hT13 := hX13.trans (hb13.mono sX13)
          have b_13 := b_12.trans (hT13.mono (by omega))
          have sx_13 := Blk.past hT13 sx_12
          have rx_13 := Blk.past hT13 rx_12
          have nf_13 := Blk.past hT13 nf_12
          have ff_13 := Blk.past hT13 ff_12
          have c1_13 := cell_kept c1_12 hT13 (by dsimp only; omega)
          have c7_13 := cell_kept c7_12 hT13 (by dsimp only; omega)
          clear sx_12 rx_12 nf_12 ff_12 c1_12 c7_12 b_12 cell_sx froz_sx lt_sx cell_rx froz_rx lt_rx cell_nf froz_nf lt_nf cell_ff froz_ff lt_ff lt_c1 lt_c7 hX13 hT13 hb13
          have cell_sx := sx_13.cell
          have froz_sx := sx_13.frozen
          have lt_sx := sx_13.lt
          have cell_rx := rx_13.cell
          have froz_rx := rx_13.frozen
          have lt_rx := rx_13.lt
          have cell_nf := nf_13.cell
          have froz_nf := nf_13.frozen
          have lt_nf := nf_13.lt
          have cell_ff := ff_13.cell
          have froz_ff := ff_13.frozen
          have lt_ff := ff_13.lt
          have lt_c1 : g < w13.heap.size := by omega
          have lt_c7 : g < w13.heap.size := by omega
          go_upto_region 8 with fail
          refine wp_touch2 (w0 := w13) (L := [w1.heap.size + 1]) (b0 := w1.heap.size + 1) (t0 := 27) (c0 := #[.int .i64 x0, .int .i64 0, .int .i64 (j + 1)]) (b1 := w13.heap.size) (t1 := 27) (c1 := #[.int .i64 x0, .int .i64 0, .int .i64 (j + 1)]) ?_ ?_ ?_ ?_
          (focus (first | ((repeat (first | (with_reducible assumption) | (with_reducible apply Blk.drew) | (with_reducible apply Blk.drewN) | (with_reducible apply Blk.new; first | rfl | (simp; done)) | (with_reducible apply Blk.alloc) | (with_reducible apply Blk.set_) | (with_reducible apply Blk.past; focus assumption) | (with_reducible apply Blk.far; focus (first | (simp; done) | (simp; omega) | (dsimp only; omega))))); done) | (apply Blk.cast; (case h => (repeat (first | (with_reducible assumption) | (with_reducible apply Blk.drew) | (with_reducible apply Blk.drewN) | (with_reducible apply Blk.new; first | rfl | (simp; done)) | (with_reducible apply Blk.alloc) | (with_reducible apply Blk.set_) | (with_reducible apply Blk.past; focus assumption) | (with_reducible apply Blk.far; focus (first | (simp; done) | (simp; omega) | (dsimp only; omega)))))); (case e => rfl))))
          (focus (first | ((repeat (first | (with_reducible assumption) | (with_reducible apply Blk.drew) | (with_reducible apply Blk.drewN) | (with_reducible apply Blk.new; first | rfl | (simp; done)) | (with_reducible apply Blk.alloc) | (with_reducible apply Blk.set_) | (with_reducible apply Blk.past; focus assumption) | (with_reducible apply Blk.far; focus (first | (simp; done) | (simp; omega) | (dsimp only; omega))))); done) | (apply Blk.cast; (case h => (repeat (first | (with_reducible assumption) | (with_reducible apply Blk.drew) | (with_reducible apply Blk.drewN) | (with_reducible apply Blk.new; first | rfl | (simp; done)) | (with_reducible apply Blk.alloc) | (with_reducible apply Blk.set_) | (with_reducible apply Blk.past; focus assumption) | (with_reducible apply Blk.far; focus (first | (simp; done) | (simp; omega) | (dsimp only; omega)))))); (case e => rfl))))
          (focus (repeat (first | (with_reducible exact Touch.refl _ _) | (with_reducible assumption) | (with_reducible apply Touch.drew) | (with_reducible apply Touch.drewN) | (with_reducible apply Touch.alloc) | (with_reducible refine Touch.set_ ?_ _ _ (by simp; done)) | (with_reducible refine Touch.set_new ?_ _ _ (by first | omega | (simp; omega) | (dsimp only; omega))))))
          intro w14 rx_14 rr_14 hX14
          have sX14 := hX14.size
          have rr_lt := rr_14.lt
          have b_14 := hX14.below b_13 (by first | (simp; done) | (simp; omega))
          have sx_14 := Blk.touch hX14 sx_13 (by first | (simp; done) | (simp; omega))
          have nf_14 := Blk.touch hX14 nf_13 (by first | (simp; done) | (simp; omega))
          have ff_14 := Blk.touch hX14 ff_13 (by first | (simp; done) | (simp; omega))
          have c1_14 := Touch.cell hX14 c1_13 (by dsimp only; omega) (by first | (simp; done) | (simp; omega))
          have c7_14 := Touch.cell hX14 c7_13 (by dsimp only; omega) (by first | (simp; done) | (simp; omega))
          clear sx_13 rx_13 nf_13 ff_13 c1_13 c7_13 b_13 cell_sx froz_sx lt_sx cell_rx froz_rx lt_rx cell_nf froz_nf lt_nf cell_ff froz_ff lt_ff lt_c1 lt_c7 hX14
          have cell_sx := sx_14.cell
          have froz_sx := sx_14.frozen
          have lt_sx := sx_14.lt
          have cell_rx := rx_14.cell
          have froz_rx := rx_14.frozen
          have lt_rx := rx_14.lt
          have cell_nf := nf_14.cell
          have froz_nf := nf_14.frozen
          have lt_nf := nf_14.lt
          have cell_ff := ff_14.cell
          have froz_ff := ff_14.frozen
          have lt_ff := ff_14.lt
          have cell_rr := rr_14.cell
          have froz_rr := rr_14.frozen
          have lt_rr := rr_14.lt
          have lt_c1 : g < w14.heap.size := by omega
          have lt_c7 : g < w14.heap.size := by omega
          go_wp2
          go_roundw
          case rel => exact ⟨j + 1, by omega, by go_num, sx_14, by rw [show min (j + 1) m = j + 1 by omega]; exact rx_14, b_14⟩
          case measure => simp [intOf]; omega
      · have hmin : min j m = m := by omega
        rw [hmin] at kr
        have htest : x7 % 7 ≤ (j : Int) := by have := HM.out; omega
        clear hs kx hx hmin
        have b_10 := hb
        have s_10 := b_10.size
        have sx_10 := ks
        clear ks
        have sx_lt := sx_10.lt
        have cell_sx := sx_10.cell
        have froz_sx := sx_10.frozen
        have lt_sx := sx_10.lt
        have rx_10 := kr
        clear kr
        have rx_lt := rx_10.lt
        have cell_rx := rx_10.cell
        have froz_rx := rx_10.frozen
        have lt_rx := rx_10.lt
        have c1_10 := r1
        clear r1
        have lt_c1 : g < wr.heap.size := by omega
        have c7_10 := r7
        clear r7
        have lt_c7 : g < wr.heap.size := by omega
        go_upto_region 9 with fail
        go_cut [8, 9, 10] (fun v8 v9 v10 wx => ∃ b8 b9, v8 = .pointer (some ⟨b8, 0, none⟩) ∧ v9 = .pointer (some ⟨b9, 0, none⟩) ∧ v10 = .bool true ∧ wr.heap.size ≤ b8 ∧ wr.heap.size ≤ b9 ∧ b8 ≠ b9 ∧ Blk wx b8 27 #[.int .i64 x0, .int .i64 (j + 1), .int .i64 0] ∧ Blk wx b9 31 #[.int .i64 (j + 1), .int .i64 x, .int .i64 (keyedI x0 (j + 1) x)] ∧ Below wr.heap.size wr wx)
        case first =>
          go_region_held3 (fun w' => w'.cell? ⟨w1.heap.size, 0, none⟩ = some (.int .i64 x0) ∧ w'.cell? ⟨w1.heap.size, 1, none⟩ = some (.int .i64 j) ∧ w'.cell? ⟨w1.heap.size, 2, none⟩ = some (.int .i64 0) ∧ w'.cell? ⟨g, 1 + j, none⟩ = some (.int .i64 x)) (exact ⟨(Blk.cell (t := 27) (cs := #[.int .i64 x0, .int .i64 j, .int .i64 0]) (by repeat (first | (with_reducible assumption) | (with_reducible apply Blk.drew) | (with_reducible apply Blk.drewN) | (with_reducible apply Blk.new; first | rfl | (simp; done)) | (with_reducible apply Blk.alloc) | (with_reducible apply Blk.set_) | (with_reducible apply Blk.past; focus assumption) | (with_reducible apply Blk.far; focus (first | (simp; done) | (simp; omega) | (dsimp only; omega))))) 0), (Blk.cell (t := 27) (cs := #[.int .i64 x0, .int .i64 j, .int .i64 0]) (by repeat (first | (with_reducible assumption) | (with_reducible apply Blk.drew) | (with_reducible apply Blk.drewN) | (with_reducible apply Blk.new; first | rfl | (simp; done)) | (with_reducible apply Blk.alloc) | (with_reducible apply Blk.set_) | (with_reducible apply Blk.past; focus assumption) | (with_reducible apply Blk.far; focus (first | (simp; done) | (simp; omega) | (dsimp only; omega))))) 1), (Blk.cell (t := 27) (cs := #[.int .i64 x0, .int .i64 j, .int .i64 0]) (by repeat (first | (with_reducible assumption) | (with_reducible apply Blk.drew) | (with_reducible apply Blk.drewN) | (with_reducible apply Blk.new; first | rfl | (simp; done)) | (with_reducible apply Blk.alloc) | (with_reducible apply Blk.set_) | (with_reducible apply Blk.past; focus assumption) | (with_reducible apply Blk.far; focus (first | (simp; done) | (simp; omega) | (dsimp only; omega))))) 2), (by first | ((repeat (first | (with_reducible assumption) | (with_reducible refine cell_drew ?_) | (with_reducible refine cell_alloc ?_ (by first | (dsimp only; omega) | (simp; omega))) | (with_reducible refine cell_far ?_ (by first | (dsimp only; omega) | (simp; omega))))); done) | exact cell_kept c1_10 (by repeat (first | (with_reducible exact Below.refl _ _) | (with_reducible refine Below.trans ?_ (Below.mono (by assumption) (by first | omega | (simp; done) | (simp; omega) | (simp [*]; done)))) | (with_reducible refine Below.alloc ?_ (by first | omega | (simp; done) | (simp; omega) | (simp [*]; done)) _) | (with_reducible refine Below.setCell ?_ (by first | omega | (simp; done) | (simp; omega) | (simp [*]; done)) _) | (with_reducible refine Below.drew ?_))) (by dsimp only; omega))⟩) (((go_at_call 14; refine (iSend_ok _ _ _ _ _ HS.out).mono ?_; rintro e wz ⟨rfl, hbz⟩; (first | (with_reducible refine use_top2d hbz ?_; intro zt ct ft kt zt2 ct2 ft2 kt2; try simp only [World.size_alloc] at zt ct ft kt zt2 ct2 ft2 kt2) | (with_reducible refine use_topd hbz ?_; intro zt ct ft kt; try simp only [World.size_alloc] at zt ct ft kt) | skip); have sz := hbz.size; try simp at sz)))
          all_goals
            go_wp2_with fail
            go_meet
            exact ⟨_, _, rfl, rfl, rfl, by first | exact Nat.le_refl _ | omega | (simp; done) | (simp; omega), by first | exact Nat.le_refl _ | omega | (simp; done) | (simp; omega), by first | omega | (simp; done) | (simp; omega), by (first | ((repeat (first | (with_reducible assumption) | (with_reducible apply Blk.drew) | (with_reducible apply Blk.drewN) | (with_reducible apply Blk.new; first | rfl | (simp; done)) | (with_reducible apply Blk.alloc) | (with_reducible apply Blk.set_) | (with_reducible apply Blk.past; focus assumption) | (with_reducible apply Blk.far; focus (first | (simp; done) | (simp; omega) | (dsimp only; omega))))); done) | (apply Blk.cast; (case h => (repeat (first | (with_reducible assumption) | (with_reducible apply Blk.drew) | (with_reducible apply Blk.drewN) | (with_reducible apply Blk.new; first | rfl | (simp; done)) | (with_reducible apply Blk.alloc) | (with_reducible apply Blk.set_) | (with_reducible apply Blk.past; focus assumption) | (with_reducible apply Blk.far; focus (first | (simp; done) | (simp; omega) | (dsimp only; omega)))))); (case e => rfl))), by (first | ((repeat (first | (with_reducible assumption) | (with_reducible apply Blk.drew) | (with_reducible apply Blk.drewN) | (with_reducible apply Blk.new; first | rfl | (simp; done)) | (with_reducible apply Blk.alloc) | (with_reducible apply Blk.set_) | (with_reducible apply Blk.past; focus assumption) | (with_reducible apply Blk.far; focus (first | (simp; done) | (simp; omega) | (dsimp only; omega))))); done) | (apply Blk.cast; (case h => (repeat (first | (with_reducible assumption) | (with_reducible apply Blk.drew) | (with_reducible apply Blk.drewN) | (with_reducible apply Blk.new; first | rfl | (simp; done)) | (with_reducible apply Blk.alloc) | (with_reducible apply Blk.set_) | (with_reducible apply Blk.past; focus assumption) | (with_reducible apply Blk.far; focus (first | (simp; done) | (simp; omega) | (dsimp only; omega)))))); (case e => rfl))), by repeat (first | (with_reducible exact Below.refl _ _) | (with_reducible refine Below.trans ?_ (Below.mono (by assumption) (by first | omega | (simp; done) | (simp; omega) | (simp [*]; done)))) | (with_reducible refine Below.alloc ?_ (by first | omega | (simp; done) | (simp; omega) | (simp [*]; done)) _) | (with_reducible refine Below.setCell ?_ (by first | omega | (simp; done) | (simp; omega) | (simp [*]; done)) _) | (with_reducible refine Below.drew ?_))⟩
        case rest =>
          obtain ⟨b_nf, b_ff, rfl, rfl, rfl, nf_ge, ff_ge, nf_ne, nf_11, ff_11, hb11⟩ := hcut
          obtain ⟨w11, rfl⟩ : ∃ z : World, z = wc := ⟨_, rfl⟩
          have s11 := hb11.size
          have b_11 := b_10.trans (hb11.mono (by omega))
          have sx_11 := Blk.past hb11 sx_10
          have rx_11 := Blk.past hb11 rx_10
          have c1_11 := cell_kept c1_10 hb11 (by dsimp only; omega)
          have c7_11 := cell_kept c7_10 hb11 (by dsimp only; omega)
          clear sx_10 rx_10 c1_10 c7_10 b_10 cell_sx froz_sx lt_sx cell_rx froz_rx lt_rx lt_c1 lt_c7 hb11
          have nf_lt := nf_11.lt
          have ff_lt := ff_11.lt
          have cell_sx := sx_11.cell
          have froz_sx := sx_11.frozen
          have lt_sx := sx_11.lt
          have cell_rx := rx_11.cell
          have froz_rx := rx_11.frozen
          have lt_rx := rx_11.lt
          have cell_nf := nf_11.cell
          have froz_nf := nf_11.frozen
          have lt_nf := nf_11.lt
          have cell_ff := ff_11.cell
          have froz_ff := ff_11.frozen
          have lt_ff := ff_11.lt
          have lt_c1 : g < w11.heap.size := by omega
          have lt_c7 : g < w11.heap.size := by omega
          go_upto_region 8 with fail
          refine wp_touch1 (w0 := w11) (L := [w1.heap.size]) (b0 := w1.heap.size) (t0 := 27) (c0 := #[.int .i64 x0, .int .i64 (j + 1), .int .i64 0]) ?_ ?_ ?_
          (focus (first | ((repeat (first | (with_reducible assumption) | (with_reducible apply Blk.drew) | (with_reducible apply Blk.drewN) | (with_reducible apply Blk.new; first | rfl | (simp; done)) | (with_reducible apply Blk.alloc) | (with_reducible apply Blk.set_) | (with_reducible apply Blk.past; focus assumption) | (with_reducible apply Blk.far; focus (first | (simp; done) | (simp; omega) | (dsimp only; omega))))); done) | (apply Blk.cast; (case h => (repeat (first | (with_reducible assumption) | (with_reducible apply Blk.drew) | (with_reducible apply Blk.drewN) | (with_reducible apply Blk.new; first | rfl | (simp; done)) | (with_reducible apply Blk.alloc) | (with_reducible apply Blk.set_) | (with_reducible apply Blk.past; focus assumption) | (with_reducible apply Blk.far; focus (first | (simp; done) | (simp; omega) | (dsimp only; omega)))))); (case e => rfl))))
          (focus (repeat (first | (with_reducible exact Touch.refl _ _) | (with_reducible assumption) | (with_reducible apply Touch.drew) | (with_reducible apply Touch.drewN) | (with_reducible apply Touch.alloc) | (with_reducible refine Touch.set_ ?_ _ _ (by simp; done)) | (with_reducible refine Touch.set_new ?_ _ _ (by first | omega | (simp; omega) | (dsimp only; omega))))))
          intro w12 sx_12 hX12
          have sX12 := hX12.size
          have b_12 := hX12.below b_11 (by first | (simp; done) | (simp; omega))
          have rx_12 := Blk.touch hX12 rx_11 (by first | (simp; done) | (simp; omega))
          have nf_12 := Blk.touch hX12 nf_11 (by first | (simp; done) | (simp; omega))
          have ff_12 := Blk.touch hX12 ff_11 (by first | (simp; done) | (simp; omega))
          have c1_12 := Touch.cell hX12 c1_11 (by dsimp only; omega) (by first | (simp; done) | (simp; omega))
          have c7_12 := Touch.cell hX12 c7_11 (by dsimp only; omega) (by first | (simp; done) | (simp; omega))
          clear sx_11 rx_11 nf_11 ff_11 c1_11 c7_11 b_11 cell_sx froz_sx lt_sx cell_rx froz_rx lt_rx cell_nf froz_nf lt_nf cell_ff froz_ff lt_ff lt_c1 lt_c7 hX12
          have cell_sx := sx_12.cell
          have froz_sx := sx_12.frozen
          have lt_sx := sx_12.lt
          have cell_rx := rx_12.cell
          have froz_rx := rx_12.frozen
          have lt_rx := rx_12.lt
          have cell_nf := nf_12.cell
          have froz_nf := nf_12.frozen
          have lt_nf := nf_12.lt
          have cell_ff := ff_12.cell
          have froz_ff := ff_12.frozen
          have lt_ff := ff_12.lt
          have lt_c1 : g < w12.heap.size := by omega
          have lt_c7 : g < w12.heap.size := by omega
          go_wp2
          go_roundw
          case rel => exact ⟨j + 1, by omega, by go_num, sx_12, by rw [show min (j + 1) m = m by omega]; exact rx_12, b_12⟩
          case measure => simp [intOf]; omega
    · obtain rfl : j = 6 := by omega
      rw [show min 6 m = m by omega] at kr
      have hrs : resumeB x0 6 0 m = true := by
        unfold resumeB sessOkB
        rw [HW.out, inB_iff.2 (show (0 : Int) ≤ 6 ∧ (6 : Int) ≤ 1000000 by omega), inB_iff.2 (show (0 : Int) ≤ 0 ∧ (0 : Int) ≤ 1000000 by omega), inB_iff.2 (show (0 : Int) ≤ (m : Int) ∧ (m : Int) ≤ 6 by omega)]
        rfl
      have HRS := hid hrs
      clear hrs r7
      have b_20 := hb
      have s_20 := b_20.size
      have sx_20 := ks
      clear ks
      have sx_lt := sx_20.lt
      have cell_sx := sx_20.cell
      have froz_sx := sx_20.frozen
      have lt_sx := sx_20.lt
      have rx_20 := kr
      clear kr
      have rx_lt := rx_20.lt
      have cell_rx := rx_20.cell
      have froz_rx := rx_20.frozen
      have lt_rx := rx_20.lt
      go_wp2_with fail
      refine calls_forget0 (W := wr) ?_ ?_
      (focus (repeat (first | (with_reducible exact Below.refl _ _) | (with_reducible refine Below.trans ?_ (Below.mono (by assumption) (by first | omega | (simp; done) | (simp; omega) | (simp [*]; done)))) | (with_reducible refine Below.alloc ?_ (by first | omega | (simp; done) | (simp; omega) | (simp [*]; done)) _) | (with_reducible refine Below.setCell ?_ (by first | omega | (simp; done) | (simp; omega) | (simp [*]; done)) _) | (with_reducible refine Below.drew ?_))))
      intro X21 hX21
      have sX21 := hX21.size
      refine (iResume_ok _ _ _ _ _ HRS.out).mono ?_
      rintro e w21 ⟨rfl, hb21⟩
      have s21 := hb21.size
      have hT21 := hX21.trans (hb21.mono sX21)
      have b_21 := b_20.trans (hT21.mono (by omega))
      have sx_21 := Blk.past hT21 sx_20
      have rx_21 := Blk.past hT21 rx_20
      clear sx_20 rx_20 b_20 cell_sx froz_sx lt_sx cell_rx froz_rx lt_rx hX21 hT21 hb21
      have cell_sx := sx_21.cell
      have froz_sx := sx_21.frozen
      have lt_sx := sx_21.lt
      have cell_rx := rx_21.cell
      have froz_rx := rx_21.frozen
      have lt_rx := rx_21.lt
      go_upto_region 16 with fail
      refine wp_touch1 (w0 := w21) (L := [w1.heap.size]) (b0 := w1.heap.size) (t0 := 27) (c0 := #[.int .i64 x0, .int .i64 m, .int .i64 0]) ?_ ?_ ?_
      (focus (first | ((repeat (first | (with_reducible assumption) | (with_reducible apply Blk.drew) | (with_reducible apply Blk.drewN) | (with_reducible apply Blk.new; first | rfl | (simp; done)) | (with_reducible apply Blk.alloc) | (with_reducible apply Blk.set_) | (with_reducible apply Blk.past; focus assumption) | (with_reducible apply Blk.far; focus (first | (simp; done) | (simp; omega) | (dsimp only; omega))))); done) | (apply Blk.cast; (case h => (repeat (first | (with_reducible assumption) | (with_reducible apply Blk.drew) | (with_reducible apply Blk.drewN) | (with_reducible apply Blk.new; first | rfl | (simp; done)) | (with_reducible apply Blk.alloc) | (with_reducible apply Blk.set_) | (with_reducible apply Blk.past; focus assumption) | (with_reducible apply Blk.far; focus (first | (simp; done) | (simp; omega) | (dsimp only; omega)))))); (case e => rfl))))
      (focus (repeat (first | (with_reducible exact Touch.refl _ _) | (with_reducible assumption) | (with_reducible apply Touch.drew) | (with_reducible apply Touch.drewN) | (with_reducible apply Touch.alloc) | (with_reducible refine Touch.set_ ?_ _ _ (by simp; done)) | (with_reducible refine Touch.set_new ?_ _ _ (by first | omega | (simp; omega) | (dsimp only; omega))))))
      intro w22 sx_22 hX22
      have sX22 := hX22.size
      have b_22 := hX22.below b_21 (by first | (simp; done) | (simp; omega))
      have rx_22 := Blk.touch hX22 rx_21 (by first | (simp; done) | (simp; omega))
      clear sx_21 rx_21 b_21 cell_sx froz_sx lt_sx cell_rx froz_rx lt_rx hX22
      have cell_sx := sx_22.cell
      have froz_sx := sx_22.frozen
      have lt_sx := sx_22.lt
      have cell_rx := rx_22.cell
      have froz_rx := rx_22.frozen
      have lt_rx := rx_22.lt
      go_wp2_with fail
      clear cell_sx froz_sx lt_sx cell_rx froz_rx lt_rx zs zr
      go_loopw [16, 17, 18, 19, 20, 21, 22] (fun i _ _ _ _ _ _ wq => ∃ j : Nat, m ≤ j ∧ j ≤ 6 ∧ i = .int .i64 j ∧ Blk wq w1.heap.size 27 #[.int .i64 x0, .int .i64 j, .int .i64 0] ∧
        Blk wq (w1.heap.size + 1) 27 #[.int .i64 x0, .int .i64 0, .int .i64 j] ∧ Below w0.heap.size w0 wq) (fun i _ _ _ _ _ _ _ => 6 - (intOf i).toNat)
      case atStart => exact ⟨m, Nat.le_refl _, hm6, rfl, sx_22, rx_22, b_22⟩
      case round =>
        obtain ⟨j, hmj, hj, rfl, ks, kr, hb⟩ := hrel
        have zr := hb.size
        have zs := ks.lt
        have r7 := cell_kept R7.out hb hg1
        by_cases hlt : j < 6
        · obtain ⟨x, hx⟩ : ∃ x, xs[1 + j]? = some x := ⟨_, List.getElem?_eq_getElem (by have := HLEN.out; omega)⟩
          obtain ⟨p1, q1⟩ := HSM.out x (List.mem_of_getElem? hx)
          have r1 := cell_kept (HGC.out (1 + j) _ (ints_get hx)) hb hg1
          have kx : isWordB x = true := isWordB_iff.2 (by omega)
          have hs := sendB_word (x := x) (j := j) HW.out (by omega)
          rw [kx] at hs
          have HS := hid hs
          have hjj : (0 : Int) ≤ 1 + (j : Int) := by omega
          have hjj2 : 1 + (j : Int) < 12 := by omega
          have hj6 : (j : Int) < 6 := by omega
          have hr := recvB_frame (k := x0) (x := x) (i := j) (g := j) HW.out kx (by omega)
          rw [decide_eq_true rfl] at hr
          have HR := hid hr
          clear hs hr kx hx r7
          have b_30 := hb
          have s_30 := b_30.size
          have sx_30 := ks
          clear ks
          have sx_lt := sx_30.lt
          have cell_sx := sx_30.cell
          have froz_sx := sx_30.frozen
          have lt_sx := sx_30.lt
          have rx_30 := kr
          clear kr
          have rx_lt := rx_30.lt
          have cell_rx := rx_30.cell
          have froz_rx := rx_30.frozen
          have lt_rx := rx_30.lt
          have c1_30 := r1
          clear r1
          have lt_c1 : g < wr.heap.size := by omega
          go_upto_region 19 with fail
          go_cut [17, 18, 19] (fun v17 v18 v19 wx => ∃ b17 b18, v17 = .pointer (some ⟨b17, 0, none⟩) ∧ v18 = .pointer (some ⟨b18, 0, none⟩) ∧ v19 = .bool true ∧ wr.heap.size ≤ b17 ∧ wr.heap.size ≤ b18 ∧ b17 ≠ b18 ∧ Blk wx b17 27 #[.int .i64 x0, .int .i64 (j + 1), .int .i64 0] ∧ Blk wx b18 31 #[.int .i64 (j + 1), .int .i64 x, .int .i64 (keyedI x0 (j + 1) x)] ∧ Below wr.heap.size wr wx)
          case first =>
            go_region_held3 (fun w' => w'.cell? ⟨w1.heap.size, 0, none⟩ = some (.int .i64 x0) ∧ w'.cell? ⟨w1.heap.size, 1, none⟩ = some (.int .i64 j) ∧ w'.cell? ⟨w1.heap.size, 2, none⟩ = some (.int .i64 0) ∧ w'.cell? ⟨g, 1 + j, none⟩ = some (.int .i64 x)) (exact ⟨(Blk.cell (t := 27) (cs := #[.int .i64 x0, .int .i64 j, .int .i64 0]) (by repeat (first | (with_reducible assumption) | (with_reducible apply Blk.drew) | (with_reducible apply Blk.drewN) | (with_reducible apply Blk.new; first | rfl | (simp; done)) | (with_reducible apply Blk.alloc) | (with_reducible apply Blk.set_) | (with_reducible apply Blk.past; focus assumption) | (with_reducible apply Blk.far; focus (first | (simp; done) | (simp; omega) | (dsimp only; omega))))) 0), (Blk.cell (t := 27) (cs := #[.int .i64 x0, .int .i64 j, .int .i64 0]) (by repeat (first | (with_reducible assumption) | (with_reducible apply Blk.drew) | (with_reducible apply Blk.drewN) | (with_reducible apply Blk.new; first | rfl | (simp; done)) | (with_reducible apply Blk.alloc) | (with_reducible apply Blk.set_) | (with_reducible apply Blk.past; focus assumption) | (with_reducible apply Blk.far; focus (first | (simp; done) | (simp; omega) | (dsimp only; omega))))) 1), (Blk.cell (t := 27) (cs := #[.int .i64 x0, .int .i64 j, .int .i64 0]) (by repeat (first | (with_reducible assumption) | (with_reducible apply Blk.drew) | (with_reducible apply Blk.drewN) | (with_reducible apply Blk.new; first | rfl | (simp; done)) | (with_reducible apply Blk.alloc) | (with_reducible apply Blk.set_) | (with_reducible apply Blk.past; focus assumption) | (with_reducible apply Blk.far; focus (first | (simp; done) | (simp; omega) | (dsimp only; omega))))) 2), (by first | ((repeat (first | (with_reducible assumption) | (with_reducible refine cell_drew ?_) | (with_reducible refine cell_alloc ?_ (by first | (dsimp only; omega) | (simp; omega))) | (with_reducible refine cell_far ?_ (by first | (dsimp only; omega) | (simp; omega))))); done) | exact cell_kept c1_30 (by repeat (first | (with_reducible exact Below.refl _ _) | (with_reducible refine Below.trans ?_ (Below.mono (by assumption) (by first | omega | (simp; done) | (simp; omega) | (simp [*]; done)))) | (with_reducible refine Below.alloc ?_ (by first | omega | (simp; done) | (simp; omega) | (simp [*]; done)) _) | (with_reducible refine Below.setCell ?_ (by first | omega | (simp; done) | (simp; omega) | (simp [*]; done)) _) | (with_reducible refine Below.drew ?_))) (by dsimp only; omega))⟩) (((go_at_call 14; refine (iSend_ok _ _ _ _ _ HS.out).mono ?_; rintro e wz ⟨rfl, hbz⟩; (first | (with_reducible refine use_top2d hbz ?_; intro zt ct ft kt zt2 ct2 ft2 kt2; try simp only [World.size_alloc] at zt ct ft kt zt2 ct2 ft2 kt2) | (with_reducible refine use_topd hbz ?_; intro zt ct ft kt; try simp only [World.size_alloc] at zt ct ft kt) | skip); have sz := hbz.size; try simp at sz)))
            all_goals
              go_wp2_with fail
              go_meet
              exact ⟨_, _, rfl, rfl, rfl, by first | exact Nat.le_refl _ | omega | (simp; done) | (simp; omega), by first | exact Nat.le_refl _ | omega | (simp; done) | (simp; omega), by first | omega | (simp; done) | (simp; omega), by (first | ((repeat (first | (with_reducible assumption) | (with_reducible apply Blk.drew) | (with_reducible apply Blk.drewN) | (with_reducible apply Blk.new; first | rfl | (simp; done)) | (with_reducible apply Blk.alloc) | (with_reducible apply Blk.set_) | (with_reducible apply Blk.past; focus assumption) | (with_reducible apply Blk.far; focus (first | (simp; done) | (simp; omega) | (dsimp only; omega))))); done) | (apply Blk.cast; (case h => (repeat (first | (with_reducible assumption) | (with_reducible apply Blk.drew) | (with_reducible apply Blk.drewN) | (with_reducible apply Blk.new; first | rfl | (simp; done)) | (with_reducible apply Blk.alloc) | (with_reducible apply Blk.set_) | (with_reducible apply Blk.past; focus assumption) | (with_reducible apply Blk.far; focus (first | (simp; done) | (simp; omega) | (dsimp only; omega)))))); (case e => rfl))), by (first | ((repeat (first | (with_reducible assumption) | (with_reducible apply Blk.drew) | (with_reducible apply Blk.drewN) | (with_reducible apply Blk.new; first | rfl | (simp; done)) | (with_reducible apply Blk.alloc) | (with_reducible apply Blk.set_) | (with_reducible apply Blk.past; focus assumption) | (with_reducible apply Blk.far; focus (first | (simp; done) | (simp; omega) | (dsimp only; omega))))); done) | (apply Blk.cast; (case h => (repeat (first | (with_reducible assumption) | (with_reducible apply Blk.drew) | (with_reducible apply Blk.drewN) | (with_reducible apply Blk.new; first | rfl | (simp; done)) | (with_reducible apply Blk.alloc) | (with_reducible apply Blk.set_) | (with_reducible apply Blk.past; focus assumption) | (with_reducible apply Blk.far; focus (first | (simp; done) | (simp; omega) | (dsimp only; omega)))))); (case e => rfl))), by repeat (first | (with_reducible exact Below.refl _ _) | (with_reducible refine Below.trans ?_ (Below.mono (by assumption) (by first | omega | (simp; done) | (simp; omega) | (simp [*]; done)))) | (with_reducible refine Below.alloc ?_ (by first | omega | (simp; done) | (simp; omega) | (simp [*]; done)) _) | (with_reducible refine Below.setCell ?_ (by first | omega | (simp; done) | (simp; omega) | (simp [*]; done)) _) | (with_reducible refine Below.drew ?_))⟩
          case rest =>
            obtain ⟨b_nf, b_ff, rfl, rfl, rfl, nf_ge, ff_ge, nf_ne, nf_31, ff_31, hb31⟩ := hcut
            obtain ⟨w31, rfl⟩ : ∃ z : World, z = wc := ⟨_, rfl⟩
            have s31 := hb31.size
            have b_31 := b_30.trans (hb31.mono (by omega))
            have sx_31 := Blk.past hb31 sx_30
            have rx_31 := Blk.past hb31 rx_30
            have c1_31 := cell_kept c1_30 hb31 (by dsimp only; omega)
            clear sx_30 rx_30 c1_30 b_30 cell_sx froz_sx lt_sx cell_rx froz_rx lt_rx lt_c1 hb31
            have nf_lt := nf_31.lt
            have ff_lt := ff_31.lt
            have cell_sx := sx_31.cell
            have froz_sx := sx_31.frozen
            have lt_sx := sx_31.lt
            have cell_rx := rx_31.cell
            have froz_rx := rx_31.frozen
            have lt_rx := rx_31.lt
            have cell_nf := nf_31.cell
            have froz_nf := nf_31.frozen
            have lt_nf := nf_31.lt
            have cell_ff := ff_31.cell
            have froz_ff := ff_31.frozen
            have lt_ff := ff_31.lt
            have lt_c1 : g < w31.heap.size := by omega
            go_wp2_with fail
            refine calls_touch1 (w0 := w31) (L := [w1.heap.size]) (b0 := w1.heap.size) (t0 := 27) (c0 := #[.int .i64 x0, .int .i64 (j + 1), .int .i64 0]) ?_ ?_ ?_
            (focus (first | ((repeat (first | (with_reducible assumption) | (with_reducible apply Blk.drew) | (with_reducible apply Blk.drewN) | (with_reducible apply Blk.new; first | rfl | (simp; done)) | (with_reducible apply Blk.alloc) | (with_reducible apply Blk.set_) | (with_reducible apply Blk.past; focus assumption) | (with_reducible apply Blk.far; focus (first | (simp; done) | (simp; omega) | (dsimp only; omega))))); done) | (apply Blk.cast; (case h => (repeat (first | (with_reducible assumption) | (with_reducible apply Blk.drew) | (with_reducible apply Blk.drewN) | (with_reducible apply Blk.new; first | rfl | (simp; done)) | (with_reducible apply Blk.alloc) | (with_reducible apply Blk.set_) | (with_reducible apply Blk.past; focus assumption) | (with_reducible apply Blk.far; focus (first | (simp; done) | (simp; omega) | (dsimp only; omega)))))); (case e => rfl))))
            (focus (repeat (first | (with_reducible exact Touch.refl _ _) | (with_reducible assumption) | (with_reducible apply Touch.drew) | (with_reducible apply Touch.drewN) | (with_reducible apply Touch.alloc) | (with_reducible refine Touch.set_ ?_ _ _ (by simp; done)) | (with_reducible refine Touch.set_new ?_ _ _ (by first | omega | (simp; omega) | (dsimp only; omega))))))
            intro w32 sx_32 hX32
            have sX32 := hX32.size
            have b_32 := hX32.below b_31 (by first | (simp; done) | (simp; omega))
            have rx_32 := Blk.touch hX32 rx_31 (by first | (simp; done) | (simp; omega))
            have nf_32 := Blk.touch hX32 nf_31 (by first | (simp; done) | (simp; omega))
            have ff_32 := Blk.touch hX32 ff_31 (by first | (simp; done) | (simp; omega))
            have c1_32 := Touch.cell hX32 c1_31 (by dsimp only; omega) (by first | (simp; done) | (simp; omega))
            clear sx_31 rx_31 nf_31 ff_31 c1_31 b_31 cell_sx froz_sx lt_sx cell_rx froz_rx lt_rx cell_nf froz_nf lt_nf cell_ff froz_ff lt_ff lt_c1 hX32
            have cell_sx := sx_32.cell
            have froz_sx := sx_32.frozen
            have lt_sx := sx_32.lt
            have cell_rx := rx_32.cell
            have froz_rx := rx_32.frozen
            have lt_rx := rx_32.lt
            have cell_nf := nf_32.cell
            have froz_nf := nf_32.frozen
            have lt_nf := nf_32.lt
            have cell_ff := ff_32.cell
            have froz_ff := ff_32.frozen
            have lt_ff := ff_32.lt
            have lt_c1 : g < w32.heap.size := by omega
            go_wp2_with fail
            refine calls_forget0 (W := w32) ?_ ?_
            (focus (repeat (first | (with_reducible exact Below.refl _ _) | (with_reducible refine Below.trans ?_ (Below.mono (by assumption) (by first | omega | (simp; done) | (simp; omega) | (simp [*]; done)))) | (with_reducible refine Below.alloc ?_ (by first | omega | (simp; done) | (simp; omega) | (simp [*]; done)) _) | (with_reducible refine Below.setCell ?_ (by first | omega | (simp; done) | (simp; omega) | (simp [*]; done)) _) | (with_reducible refine Below.drew ?_))))
            intro X33 hX33
            have sX33 := hX33.size
            refine (iRecv_ok _ _ _ _ _ _ _ HR.out).mono ?_
            rintro e w33 ⟨rfl, hb33⟩
            have s33 := hb33.size
            have hT33 := hX33.trans (hb33.mono sX33)
            have b_33 := b_32.trans (hT33.mono (by omega))
            have sx_33 := Blk.past hT33 sx_32
            have rx_33 := Blk.past hT33 rx_32
            have nf_33 := Blk.past hT33 nf_32
            have ff_33 := Blk.past hT33 ff_32
            have c1_33 := cell_kept c1_32 hT33 (by dsimp only; omega)
            clear sx_32 rx_32 nf_32 ff_32 c1_32 b_32 cell_sx froz_sx lt_sx cell_rx froz_rx lt_rx cell_nf froz_nf lt_nf cell_ff froz_ff lt_ff lt_c1 hX33 hT33 hb33
            have cell_sx := sx_33.cell
            have froz_sx := sx_33.frozen
            have lt_sx := sx_33.lt
            have cell_rx := rx_33.cell
            have froz_rx := rx_33.frozen
            have lt_rx := rx_33.lt
            have cell_nf := nf_33.cell
            have froz_nf := nf_33.frozen
            have lt_nf := nf_33.lt
            have cell_ff := ff_33.cell
            have froz_ff := ff_33.frozen
            have lt_ff := ff_33.lt
            have lt_c1 : g < w33.heap.size := by omega
            go_upto_region 18 with fail
            refine wp_touch2 (w0 := w33) (L := [w1.heap.size + 1]) (b0 := w1.heap.size + 1) (t0 := 27) (c0 := #[.int .i64 x0, .int .i64 0, .int .i64 (j + 1)]) (b1 := w33.heap.size) (t1 := 27) (c1 := #[.int .i64 x0, .int .i64 0, .int .i64 (j + 1)]) ?_ ?_ ?_ ?_
            (focus (first | ((repeat (first | (with_reducible assumption) | (with_reducible apply Blk.drew) | (with_reducible apply Blk.drewN) | (with_reducible apply Blk.new; first | rfl | (simp; done)) | (with_reducible apply Blk.alloc) | (with_reducible apply Blk.set_) | (with_reducible apply Blk.past; focus assumption) | (with_reducible apply Blk.far; focus (first | (simp; done) | (simp; omega) | (dsimp only; omega))))); done) | (apply Blk.cast; (case h => (repeat (first | (with_reducible assumption) | (with_reducible apply Blk.drew) | (with_reducible apply Blk.drewN) | (with_reducible apply Blk.new; first | rfl | (simp; done)) | (with_reducible apply Blk.alloc) | (with_reducible apply Blk.set_) | (with_reducible apply Blk.past; focus assumption) | (with_reducible apply Blk.far; focus (first | (simp; done) | (simp; omega) | (dsimp only; omega)))))); (case e => rfl))))
            (focus (first | ((repeat (first | (with_reducible assumption) | (with_reducible apply Blk.drew) | (with_reducible apply Blk.drewN) | (with_reducible apply Blk.new; first | rfl | (simp; done)) | (with_reducible apply Blk.alloc) | (with_reducible apply Blk.set_) | (with_reducible apply Blk.past; focus assumption) | (with_reducible apply Blk.far; focus (first | (simp; done) | (simp; omega) | (dsimp only; omega))))); done) | (apply Blk.cast; (case h => (repeat (first | (with_reducible assumption) | (with_reducible apply Blk.drew) | (with_reducible apply Blk.drewN) | (with_reducible apply Blk.new; first | rfl | (simp; done)) | (with_reducible apply Blk.alloc) | (with_reducible apply Blk.set_) | (with_reducible apply Blk.past; focus assumption) | (with_reducible apply Blk.far; focus (first | (simp; done) | (simp; omega) | (dsimp only; omega)))))); (case e => rfl))))
            (focus (repeat (first | (with_reducible exact Touch.refl _ _) | (with_reducible assumption) | (with_reducible apply Touch.drew) | (with_reducible apply Touch.drewN) | (with_reducible apply Touch.alloc) | (with_reducible refine Touch.set_ ?_ _ _ (by simp; done)) | (with_reducible refine Touch.set_new ?_ _ _ (by first | omega | (simp; omega) | (dsimp only; omega))))))
            intro w34 rx_34 rr_34 hX34
            have sX34 := hX34.size
            have rr_lt := rr_34.lt
            have b_34 := hX34.below b_33 (by first | (simp; done) | (simp; omega))
            have sx_34 := Blk.touch hX34 sx_33 (by first | (simp; done) | (simp; omega))
            have nf_34 := Blk.touch hX34 nf_33 (by first | (simp; done) | (simp; omega))
            have ff_34 := Blk.touch hX34 ff_33 (by first | (simp; done) | (simp; omega))
            have c1_34 := Touch.cell hX34 c1_33 (by dsimp only; omega) (by first | (simp; done) | (simp; omega))
            clear sx_33 rx_33 nf_33 ff_33 c1_33 b_33 cell_sx froz_sx lt_sx cell_rx froz_rx lt_rx cell_nf froz_nf lt_nf cell_ff froz_ff lt_ff lt_c1 hX34
            have cell_sx := sx_34.cell
            have froz_sx := sx_34.frozen
            have lt_sx := sx_34.lt
            have cell_rx := rx_34.cell
            have froz_rx := rx_34.frozen
            have lt_rx := rx_34.lt
            have cell_nf := nf_34.cell
            have froz_nf := nf_34.frozen
            have lt_nf := nf_34.lt
            have cell_ff := ff_34.cell
            have froz_ff := ff_34.frozen
            have lt_ff := ff_34.lt
            have cell_rr := rr_34.cell
            have froz_rr := rr_34.frozen
            have lt_rr := rr_34.lt
            have lt_c1 : g < w34.heap.size := by omega
            go_wp2
            go_roundw
            case rel => exact ⟨j + 1, by omega, by omega, by go_num, sx_34, rx_34, b_34⟩
            case measure => simp [intOf]; omega
        · obtain rfl : j = 6 := by omega
          have htest : ((m : Int) == x7 % 7) = true := by rw [beq_iff_eq]; exact HM.out.symm
          have cs := ks.cell
          have cr := kr.cell
          go_wp2
          go_ret
          exact ⟨rfl, HB0.out.trans (hb.mono zw)⟩
set_option maxRecDepth 100000 in
theorem lifted (os : Os) (started : os.Started) (H : Type) (enc : TypeId × Value → H) :
    ReturnsInHanded {} Try.checked os 4 .any (Rows.fnResumedSpec.pre6 enc Try.prog Try.f4 Rows.fnResumedRow.domain false) (Rows.fnResumedSpec.post enc Try.prog Try.f4 false true false false) := by
  refine returnsInHanded_of_change (C := Try.checked) own started (by kernel_rfl) Try.func4
    (ChangeSpec.witness6 (enc := enc) (C := Try.checked) false ⟨#[], #[.slice none 0 0], []⟩ 8 (by kernel_rfl) (by kernel_rfl) (by kernel_rfl) (by kernel_rfl)) ?_
  intro W base args ds gs before hval0 hW _ _
  have hval : ∀ (j : Nat) t v, Try.f4.params[j]? = some t → args[j]? = some v → Value.okWide Try.prog W .any base t v := hval0
  have hW' := hW
  obtain ⟨p, q, hA0, hV, rfl, _, _⟩ := hW
  have hA : DataW.TrodAll enc Try.prog W 0 (fun _ => true) true Try.f4.params.toList args.toList ds p := hA0
  rw [Try.params4] at hA hval
  obtain ⟨v0, vs0, d0, ds0, p0, q0, hargs, rfl, rfl, h0, r0⟩ := trodAll_cons hA
  obtain ⟨rfl, rfl, rfl⟩ := trodAll_nil r0
  obtain rfl : args = #[v0] := by cases args; simp_all
  obtain ⟨rfl, rfl⟩ := trodVars_none hV
  obtain ⟨A0, c0, xs0, rfl, hb0⟩ := view_bytes Try.underlying22 Try.underlying5 (by kernel_rfl) (hval 0 22 v0 rfl rfl) h0 (fun x hx => hW'.lt x (by simp [hx]))
  refine (walk A0 c0 xs0 W hb0).mono fun e W' ⟨he, hb⟩ => ?_
  subst he
  exact ⟨_, rfl, law_post rfl (by kernel_rfl) (by kernel_rfl) rfl Try.underlying4 hW' rfl rfl rfl hb⟩
theorem closed : joinedFacts Try.prog 4 Try.f4 Rows.fnResumedSpec Rows.fnResumedRow = true := by
  unfold joinedFacts
  rw [makeIs, mayIs, finalsIs]
  kernel_rfl
theorem over : Rows.fnResumedRow.holds Try.pinned (OpenSpec.ofChange Rows.fnResumedSpec) :=
  OpenClaim.holds_of_wide 4 Try.f4 rfl rfl rfl rfl rfl rfl rfl ⟨rfl, rfl, rfl, rfl, rfl⟩ rfl rfl rfl rfl rfl (by kernel_rfl) Try.func4 closed
    (of_decide_eq_true (by kernel_rfl)) (by unfold Func.isWrapper; first | (rw [if_pos (by decide +kernel)]; kernel_rfl) | (rw [if_neg (by decide +kernel)]; exact ⟨rfl, rfl⟩))
    (fun os started H enc _ => lifted os started H enc)
theorem proved : Rows.FnResumedSaid := over
#print axioms proved

end resumed
end Go.Proofs.Ytdfomahaplcgoaa
