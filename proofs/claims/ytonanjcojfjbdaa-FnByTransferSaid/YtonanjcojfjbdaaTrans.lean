/- The labels of inputs, and the pieces of a transfer, in the program and in the reference. -/
import Derived.Test.YtonanjcojfjbdaaLab
import Derived.Deep.RegionHeld3
import Derived.Deep.DeepCutAuto
namespace Go.Proofs.Ytonanjcojfjbdaa
open Go.RowKit

/-! The labels of inputs -/
set_option maxHeartbeats 1600000 in
theorem iInputLabels (s a : Int) (A : Option Addr) (c : Nat) (bs : List Int) (w : World) (h1 : tapeOkB s a = true) (h2 : a ≤ 900000) (hb : bitsB bs = true) (hl : bs.length ≤ 80) (hc : Cells w w.heap.size A (ints bs)) :
    Calls Try.prog 32 #[.agg #[.int .i64 s, .int .i64 a], .slice A bs.length c] w (GivesInts w (labsTo s a bs bs.length)) := by
  have h3 : decide (900000 < a) = false := by simp; omega
  have h4 : decide (80 < (bs.length : Int)) = false := by simp; omega
  have HD := hid (fun w => iDeltaOf s a w h1 h2)
  have HZ := hid (fun k w h => iInputZero s a k w h1 h)
  have HBI := hid (fun (k : Nat) (x : Int) (h : bs[k]? = some x) => bitsB_get hb h)
  have HBS := hid (fun w hc => iBits A c bs w hc (by omega))
  rw [hb] at HBS
  have HC := hid hc
  clear h2 hb hc
  have hq0 := HC.out
  go_enter Try.func32, Try.ntmps32
  have b_0 := (Below.refl w.heap.size w)
  have s_0 := b_0.size
  have q_0 := hq0
  clear hq0
  go_wp2_with fail
  refine calls_forget1 (W := w) (b0 := w.heap.size) (t0 := 27) (c0 := #[.int .i64 s, .int .i64 a]) ?_ ?_ ?_
  (focus (first | ((repeat (first | (with_reducible assumption) | (with_reducible apply Blk.drew) | (with_reducible apply Blk.drewN) | (with_reducible apply Blk.new; first | rfl | (simp; done)) | (with_reducible apply Blk.alloc) | (with_reducible apply Blk.set_) | (with_reducible apply Blk.past; focus assumption) | (with_reducible apply Blk.far; focus (first | (simp; done) | (simp; omega) | (dsimp only; omega))))); done) | (apply Blk.cast; (case h => (repeat (first | (with_reducible assumption) | (with_reducible apply Blk.drew) | (with_reducible apply Blk.drewN) | (with_reducible apply Blk.new; first | rfl | (simp; done)) | (with_reducible apply Blk.alloc) | (with_reducible apply Blk.set_) | (with_reducible apply Blk.past; focus assumption) | (with_reducible apply Blk.far; focus (first | (simp; done) | (simp; omega) | (dsimp only; omega)))))); (case e => rfl))))
  (focus (repeat (first | (with_reducible exact Below.refl _ _) | (with_reducible refine Below.trans ?_ (Below.mono (by assumption) (by first | omega | (simp; done) | (simp; omega) | (simp [*]; done)))) | (with_reducible refine Below.alloc ?_ (by first | omega | (simp; done) | (simp; omega) | (simp [*]; done)) _) | (with_reducible refine Below.setCell ?_ (by first | omega | (simp; done) | (simp; omega) | (simp [*]; done)) _) | (with_reducible refine Below.drew ?_) | (with_reducible refine below_drewN ?_))))
  intro X1 t_n hX1
  have sX1 := hX1.size
  have t_lt := t_n.lt
  refine (iTapeOk _ _ _).mono ?_
  rintro e w1 ⟨rfl, hb1⟩
  have s1 := hb1.size
  have hT1 := hX1.trans (hb1.mono sX1)
  have b_1 := b_0.trans (hT1.mono (by omega))
  have q_1 := cells_below q_0 hT1 (by omega)
  have t_1 := Blk.past hb1 t_n
  clear q_0 b_0 t_n hX1 hT1 hb1
  have cell_t := t_1.cell
  have froz_t := t_1.frozen
  have lt_t := t_1.lt
  go_wp2_with fail
  refine calls_forget0 (W := w1) ?_ ?_
  (focus (repeat (first | (with_reducible exact Below.refl _ _) | (with_reducible refine Below.trans ?_ (Below.mono (by assumption) (by first | omega | (simp; done) | (simp; omega) | (simp [*]; done)))) | (with_reducible refine Below.alloc ?_ (by first | omega | (simp; done) | (simp; omega) | (simp [*]; done)) _) | (with_reducible refine Below.setCell ?_ (by first | omega | (simp; done) | (simp; omega) | (simp [*]; done)) _) | (with_reducible refine Below.drew ?_) | (with_reducible refine below_drewN ?_))))
  intro X2 hX2
  have sX2 := hX2.size
  refine (HBS.out _ ((cells_below q_1 hX2 (by omega)).more (by omega))).mono ?_
  rintro e w' ⟨rfl, rfl⟩
  have b_2 := b_1.trans (hX2.mono (by omega))
  have q_2 := cells_below q_1 hX2 (by omega)
  have t_2 := Blk.past hX2 t_1
  clear q_1 t_1 b_1 cell_t froz_t lt_t hX2
  have cell_t := t_2.cell
  have froz_t := t_2.frozen
  have lt_t := t_2.lt
  go_wp2_with fail
  refine calls_forget0 (W := X2) ?_ ?_
  (focus (repeat (first | (with_reducible exact Below.refl _ _) | (with_reducible refine Below.trans ?_ (Below.mono (by assumption) (by first | omega | (simp; done) | (simp; omega) | (simp [*]; done)))) | (with_reducible refine Below.alloc ?_ (by first | omega | (simp; done) | (simp; omega) | (simp [*]; done)) _) | (with_reducible refine Below.setCell ?_ (by first | omega | (simp; done) | (simp; omega) | (simp [*]; done)) _) | (with_reducible refine Below.drew ?_) | (with_reducible refine below_drewN ?_))))
  intro X3 hX3
  have sX3 := hX3.size
  refine (HD.out _).mono ?_
  rintro e w3 ⟨rfl, hb3⟩
  have s3 := hb3.size
  have hT3 := hX3.trans (hb3.mono sX3)
  have b_3 := b_2.trans (hT3.mono (by omega))
  have q_3 := cells_below q_2 hT3 (by omega)
  have t_3 := Blk.past hT3 t_2
  clear q_2 t_2 b_2 cell_t froz_t lt_t hX3 hT3 hb3
  have cell_t := t_3.cell
  have froz_t := t_3.frozen
  have lt_t := t_3.lt
  have HT := hid t_3
  have HB := hid b_3
  clear t_3 b_3 q_3
  go_wp2
  go_loopw [7, 8, 9, 36] (fun o _ _ i wr => ∃ (j : Nat) (A' : Option Addr) (c' : Nat), j ≤ bs.length ∧ i = .int .i64 j ∧ o = .slice A' j c' ∧ wr.ownsRow (w.heap.size + 1) 3 1 (.slice A' j c') j (ints (labsTo s a bs j)) ∧ Blk wr w.heap.size 27 #[.int .i64 s, .int .i64 a] ∧ Below w.heap.size w wr) (fun _ _ _ i _ => bs.length - (intOf i).toNat)
  case atStart => exact ⟨0, some ⟨w3.heap.size + 1, 0, none⟩, 0, Nat.zero_le _, rfl, rfl, own_lit (size := 1) #[] 0 (by simp) (by simp; omega) (Nat.zero_le _) rfl, by have h := HT.out; (first | ((repeat (first | (with_reducible assumption) | (with_reducible apply Blk.drew) | (with_reducible apply Blk.drewN) | (with_reducible apply Blk.new; first | rfl | (simp; done)) | (with_reducible apply Blk.alloc) | (with_reducible apply Blk.set_) | (with_reducible apply Blk.past; focus assumption) | (with_reducible apply Blk.far; focus (first | (simp; done) | (simp; omega) | (dsimp only; omega))))); done) | (apply Blk.cast; (case h => (repeat (first | (with_reducible assumption) | (with_reducible apply Blk.drew) | (with_reducible apply Blk.drewN) | (with_reducible apply Blk.new; first | rfl | (simp; done)) | (with_reducible apply Blk.alloc) | (with_reducible apply Blk.set_) | (with_reducible apply Blk.past; focus assumption) | (with_reducible apply Blk.far; focus (first | (simp; done) | (simp; omega) | (dsimp only; omega)))))); (case e => rfl))), by have h := HB.out; repeat (first | (with_reducible exact Below.refl _ _) | (with_reducible refine Below.trans ?_ (Below.mono (by assumption) (by first | omega | (simp; done) | (simp; omega) | (simp [*]; done)))) | (with_reducible refine Below.alloc ?_ (by first | omega | (simp; done) | (simp; omega) | (simp [*]; done)) _) | (with_reducible refine Below.setCell ?_ (by first | omega | (simp; done) | (simp; omega) | (simp [*]; done)) _) | (with_reducible refine Below.drew ?_) | (with_reducible refine below_drewN ?_))⟩
  case round =>
    obtain ⟨j, A', c', hj, rfl, rfl, hown, ht, hb⟩ := hrel
    by_cases hlt : j < bs.length
    · obtain ⟨x, hx⟩ : ∃ x, bs[j]? = some x := ⟨_, List.getElem?_eq_getElem hlt⟩
      obtain ⟨b, off, rfl, hB, hcl⟩ := HC.out (by rw [ints_length]; omega)
      have hcell : wr.cell? ⟨b, off + j, none⟩ = some (.int .i64 x) := (hb.cell (p := ⟨b, off + j, none⟩) hB).trans (hcl j _ (ints_get hx))
      have HX := hid (labsTo_succ (s := s) (a := a) hx)
      have hbit := HBI.out j x hx
      have HBIT := hid hbit
      clear hcl hx hbit
      have b_10 := hb
      have s_10 := b_10.size
      have o_in := own_in hown
      have o_10 := hown
      clear hown
      have t_10 := ht
      clear ht
      have t_lt := t_10.lt
      have cell_t := t_10.cell
      have froz_t := t_10.frozen
      have lt_t := t_10.lt
      go_wp2_with fail
      refine calls_forget0 (W := wr) ?_ ?_
      (focus (repeat (first | (with_reducible exact Below.refl _ _) | (with_reducible refine Below.trans ?_ (Below.mono (by assumption) (by first | omega | (simp; done) | (simp; omega) | (simp [*]; done)))) | (with_reducible refine Below.alloc ?_ (by first | omega | (simp; done) | (simp; omega) | (simp [*]; done)) _) | (with_reducible refine Below.setCell ?_ (by first | omega | (simp; done) | (simp; omega) | (simp [*]; done)) _) | (with_reducible refine Below.drew ?_) | (with_reducible refine below_drewN ?_))))
      intro X11 hX11
      have sX11 := hX11.size
      refine (HZ.out _ _ (inB_iff.2 (by omega))).mono ?_
      rintro e w11 ⟨rfl, hb11⟩
      have s11 := hb11.size
      have hT11 := hX11.trans (hb11.mono sX11)
      have b_11 := b_10.trans (hT11.mono (by omega))
      have o_11 := own_below o_10 hT11
      have t_11 := Blk.past hT11 t_10
      clear o_10 t_10 b_10 cell_t froz_t lt_t hX11 hT11 hb11
      have cell_t := t_11.cell
      have froz_t := t_11.frozen
      have lt_t := t_11.lt
      go_wp2_with fail
      refine calls_forget0 (W := w11) ?_ ?_
      (focus (repeat (first | (with_reducible exact Below.refl _ _) | (with_reducible refine Below.trans ?_ (Below.mono (by assumption) (by first | omega | (simp; done) | (simp; omega) | (simp [*]; done)))) | (with_reducible refine Below.alloc ?_ (by first | omega | (simp; done) | (simp; omega) | (simp [*]; done)) _) | (with_reducible refine Below.setCell ?_ (by first | omega | (simp; done) | (simp; omega) | (simp [*]; done)) _) | (with_reducible refine Below.drew ?_) | (with_reducible refine below_drewN ?_))))
      intro X12 hX12
      have sX12 := hX12.size
      refine (iLabelFor _ _ _ _ (zero_label _ _) (delta_label _ _) HBIT.out).mono ?_
      rintro e w12 ⟨rfl, hb12⟩
      have s12 := hb12.size
      have hT12 := hX12.trans (hb12.mono sX12)
      have b_12 := b_11.trans (hT12.mono (by omega))
      have o_12 := own_below o_11 hT12
      have t_12 := Blk.past hT12 t_11
      clear o_11 t_11 b_11 cell_t froz_t lt_t hX12 hT12 hb12
      have cell_t := t_12.cell
      have froz_t := t_12.frozen
      have lt_t := t_12.lt
      go_wp2_with (at_builtin; refine wpList_appi rfl _ _ 24 rfl (w.heap.size + 1) 3 (.int .i64 0) 1 8 Try.underlying24 infoInt rfl (by decide) _ j _ rfl (o_12.alloc _) ⟨w12.heap.size, 0, none⟩ 1 1 _ rfl rfl (one_new _ _ _) (one_one _) (by omega) (by decide) (by simp; omega) ?_)
      intro A_o c_o w13 o_13 hg13 li13
      have hg13 := grown_alloc hg13
      try simp only [World.size_alloc] at li13
      have s13 := hg13.size
      have b_13 := gr_below hg13 b_12 (by omega) (fun q hq => by have h1 := o_in q hq; omega)
      have t_13 := gr_blk hg13 t_12 (fun q hq => by have h1 := o_in q hq; omega)
      have o_ix := own_in o_13
      clear o_12 t_12 b_12 cell_t froz_t lt_t hg13 li13 o_in
      have o_in := o_ix
      clear o_ix
      have cell_t := t_13.cell
      have froz_t := t_13.frozen
      have lt_t := t_13.lt
      rw [← ints_snoc, ← HX.out] at o_13
      have HO := hid o_13
      have HT2 := hid t_13
      have HB2 := hid b_13
      clear o_13 t_13 b_13 cell_t froz_t
      go_wp2
      go_roundw
      case rel => exact ⟨j + 1, A_o, c_o, by omega, by go_num, rfl, HO.out, HT2.out, HB2.out⟩
      case measure => simp [intOf]; omega
    · obtain rfl : j = bs.length := by omega
      have HO := hid hown
      have HB2 := hid hb
      clear hown ht hb
      go_wp2
      go_ret
      have el : (labsTo s a bs bs.length).length = bs.length := labsTo_length _ _ _ _
      unfold GivesInts
      rw [el]
      exact ⟨A', c', rfl, own_weak HO.out (by omega), HB2.out⟩
set_option maxHeartbeats 1600000 in
theorem sInputLabels (s a : Int) (A : Option Addr) (c : Nat) (bs : List Int) (w : World) (h1 : tapeOkB s a = true) (h2 : a ≤ 900000) (hb : bitsB bs = true) (hl : bs.length ≤ 80) (hc : Cells w w.heap.size A (ints bs)) :
    Calls Try.prog 17 #[.agg #[.int .i64 s, .int .i64 a], .slice A bs.length c] w (GivesInts w (labsTo s a bs bs.length)) := by
  have h3 : (tapeOkB s a && decide (a ≤ 900000)) = true := by simp [h1, h2]
  have h4 : decide (80 < (bs.length : Int)) = false := by simp; omega
  have HD := hid (fun w => sDeltaOf s a w h1 h2)
  have HZ := hid (fun k w h => sInputZero s a k w h1 h)
  have HL := hid (fun w => s_l06 s a w)
  rw [h3] at HL
  have HBI := hid (fun (k : Nat) (x : Int) (h : bs[k]? = some x) => bitsB_get hb h)
  have HBS := hid (fun w hc => sBits A c bs bs.length w hc (by omega))
  rw [hb, show (true && ((bs.length : Int) == (bs.length : Int))) = true by simp] at HBS
  have HC := hid hc
  clear h2 hb hc h3
  go_enter Try.func17, Try.ntmps17
  go_upto_region 2 with fail
  obtain ⟨W1, hW1⟩ : ∃ W1, W1 = (w.alloc (.cells #[.int .i64 s, .int .i64 a] 27)).alloc (.cells #[] 3) := ⟨_, rfl⟩
  have ho : W1.ownsRow (w.heap.size + 1) 3 1 (.slice (some ⟨w.heap.size + 1, 0, none⟩) 0 0) 0 (ints []) := by rw [hW1]; exact own_lit (size := 1) #[] 0 (by simp) (by simp) (Nat.zero_le _) rfl
  have ht : Blk W1 w.heap.size 27 #[.int .i64 s, .int .i64 a] := by rw [hW1]; (first | ((repeat (first | (with_reducible assumption) | (with_reducible apply Blk.drew) | (with_reducible apply Blk.drewN) | (with_reducible apply Blk.new; first | rfl | (simp; done)) | (with_reducible apply Blk.alloc) | (with_reducible apply Blk.set_) | (with_reducible apply Blk.past; focus assumption) | (with_reducible apply Blk.far; focus (first | (simp; done) | (simp; omega) | (dsimp only; omega))))); done) | (apply Blk.cast; (case h => (repeat (first | (with_reducible assumption) | (with_reducible apply Blk.drew) | (with_reducible apply Blk.drewN) | (with_reducible apply Blk.new; first | rfl | (simp; done)) | (with_reducible apply Blk.alloc) | (with_reducible apply Blk.set_) | (with_reducible apply Blk.past; focus assumption) | (with_reducible apply Blk.far; focus (first | (simp; done) | (simp; omega) | (dsimp only; omega)))))); (case e => rfl)))
  have hb1 : Below w.heap.size w W1 := by rw [hW1]; repeat (first | (with_reducible exact Below.refl _ _) | (with_reducible refine Below.trans ?_ (Below.mono (by assumption) (by first | omega | (simp; done) | (simp; omega) | (simp [*]; done)))) | (with_reducible refine Below.alloc ?_ (by first | omega | (simp; done) | (simp; omega) | (simp [*]; done)) _) | (with_reducible refine Below.setCell ?_ (by first | omega | (simp; done) | (simp; omega) | (simp [*]; done)) _) | (with_reducible refine Below.drew ?_) | (with_reducible refine below_drewN ?_))
  have hq0 := (HC.out.below hb1).more hb1.size
  rw [← hW1]
  clear hW1
  have b_0 := hb1
  have s_0 := b_0.size
  have q_0 := hq0
  clear hq0
  have o_in := own_in ho
  have o_0 := ho
  clear ho
  have t_0 := ht
  clear ht
  have t_lt := t_0.lt
  have cell_t := t_0.cell
  have froz_t := t_0.frozen
  have lt_t := t_0.lt
  go_wp2_with fail
  refine calls_forget0 (W := W1) ?_ ?_
  (focus (repeat (first | (with_reducible exact Below.refl _ _) | (with_reducible refine Below.trans ?_ (Below.mono (by assumption) (by first | omega | (simp; done) | (simp; omega) | (simp [*]; done)))) | (with_reducible refine Below.alloc ?_ (by first | omega | (simp; done) | (simp; omega) | (simp [*]; done)) _) | (with_reducible refine Below.setCell ?_ (by first | omega | (simp; done) | (simp; omega) | (simp [*]; done)) _) | (with_reducible refine Below.drew ?_) | (with_reducible refine below_drewN ?_))))
  intro X1 hX1
  have sX1 := hX1.size
  refine (HL.out _).mono ?_
  rintro e w1 ⟨rfl, hb1⟩
  have s1 := hb1.size
  have hT1 := hX1.trans (hb1.mono sX1)
  have b_1 := b_0.trans (hT1.mono (by omega))
  have q_1 := cells_below q_0 hT1 (by omega)
  have o_1 := own_below o_0 hT1
  have t_1 := Blk.past hT1 t_0
  clear q_0 o_0 t_0 b_0 cell_t froz_t lt_t hX1 hT1 hb1
  have cell_t := t_1.cell
  have froz_t := t_1.frozen
  have lt_t := t_1.lt
  go_wp2_with fail
  refine calls_forget0 (W := w1) ?_ ?_
  (focus (repeat (first | (with_reducible exact Below.refl _ _) | (with_reducible refine Below.trans ?_ (Below.mono (by assumption) (by first | omega | (simp; done) | (simp; omega) | (simp [*]; done)))) | (with_reducible refine Below.alloc ?_ (by first | omega | (simp; done) | (simp; omega) | (simp [*]; done)) _) | (with_reducible refine Below.setCell ?_ (by first | omega | (simp; done) | (simp; omega) | (simp [*]; done)) _) | (with_reducible refine Below.drew ?_) | (with_reducible refine below_drewN ?_))))
  intro X2 hX2
  have sX2 := hX2.size
  refine (HBS.out _ ((cells_below q_1 hX2 (by omega)).more (by omega))).mono ?_
  rintro e w' ⟨rfl, rfl⟩
  have b_2 := b_1.trans (hX2.mono (by omega))
  have q_2 := cells_below q_1 hX2 (by omega)
  have o_2 := own_below o_1 hX2
  have t_2 := Blk.past hX2 t_1
  clear q_1 o_1 t_1 b_1 cell_t froz_t lt_t hX2
  have cell_t := t_2.cell
  have froz_t := t_2.frozen
  have lt_t := t_2.lt
  go_wp2_with fail
  refine calls_forget0 (W := X2) ?_ ?_
  (focus (repeat (first | (with_reducible exact Below.refl _ _) | (with_reducible refine Below.trans ?_ (Below.mono (by assumption) (by first | omega | (simp; done) | (simp; omega) | (simp [*]; done)))) | (with_reducible refine Below.alloc ?_ (by first | omega | (simp; done) | (simp; omega) | (simp [*]; done)) _) | (with_reducible refine Below.setCell ?_ (by first | omega | (simp; done) | (simp; omega) | (simp [*]; done)) _) | (with_reducible refine Below.drew ?_) | (with_reducible refine below_drewN ?_))))
  intro X3 hX3
  have sX3 := hX3.size
  refine (HD.out _).mono ?_
  rintro e w3 ⟨rfl, hb3⟩
  have s3 := hb3.size
  have hT3 := hX3.trans (hb3.mono sX3)
  have b_3 := b_2.trans (hT3.mono (by omega))
  have q_3 := cells_below q_2 hT3 (by omega)
  have o_3 := own_below o_2 hT3
  have t_3 := Blk.past hT3 t_2
  clear q_2 o_2 t_2 b_2 cell_t froz_t lt_t hX3 hT3 hb3
  have cell_t := t_3.cell
  have froz_t := t_3.frozen
  have lt_t := t_3.lt
  have HT := hid t_3
  have HB := hid b_3
  have HO := hid o_3
  clear t_3 b_3 q_3 o_3
  go_wp2
  go_loopw [5, 8] (fun o i wr => ∃ (j : Nat) (A' : Option Addr) (c' : Nat), j ≤ bs.length ∧ i = .int .i64 j ∧ o = .slice A' j c' ∧ wr.ownsRow (w.heap.size + 1) 3 1 (.slice A' j c') j (ints (labsTo s a bs j)) ∧ Blk wr w.heap.size 27 #[.int .i64 s, .int .i64 a] ∧ Below w.heap.size w wr) (fun _ i _ => bs.length - (intOf i).toNat)
  case atStart => exact ⟨0, some ⟨w.heap.size + 1, 0, none⟩, 0, Nat.zero_le _, rfl, rfl, by have h : w3.ownsRow (w.heap.size + 1) 3 1 (.slice (some ⟨w.heap.size + 1, 0, none⟩) 0 0) 0 (ints (labsTo s a bs 0)) := HO.out; repeat (first | (with_reducible assumption) | (with_reducible apply World.ownsRow.drew) | (with_reducible apply own_drewN) | (with_reducible apply World.ownsRow.alloc) | (with_reducible refine own_set ?_ _ _ (by first | omega | (simp; omega) | (dsimp only; omega)))), by have h := HT.out; (first | ((repeat (first | (with_reducible assumption) | (with_reducible apply Blk.drew) | (with_reducible apply Blk.drewN) | (with_reducible apply Blk.new; first | rfl | (simp; done)) | (with_reducible apply Blk.alloc) | (with_reducible apply Blk.set_) | (with_reducible apply Blk.past; focus assumption) | (with_reducible apply Blk.far; focus (first | (simp; done) | (simp; omega) | (dsimp only; omega))))); done) | (apply Blk.cast; (case h => (repeat (first | (with_reducible assumption) | (with_reducible apply Blk.drew) | (with_reducible apply Blk.drewN) | (with_reducible apply Blk.new; first | rfl | (simp; done)) | (with_reducible apply Blk.alloc) | (with_reducible apply Blk.set_) | (with_reducible apply Blk.past; focus assumption) | (with_reducible apply Blk.far; focus (first | (simp; done) | (simp; omega) | (dsimp only; omega)))))); (case e => rfl))), by have h := HB.out; repeat (first | (with_reducible exact Below.refl _ _) | (with_reducible refine Below.trans ?_ (Below.mono (by assumption) (by first | omega | (simp; done) | (simp; omega) | (simp [*]; done)))) | (with_reducible refine Below.alloc ?_ (by first | omega | (simp; done) | (simp; omega) | (simp [*]; done)) _) | (with_reducible refine Below.setCell ?_ (by first | omega | (simp; done) | (simp; omega) | (simp [*]; done)) _) | (with_reducible refine Below.drew ?_) | (with_reducible refine below_drewN ?_))⟩
  case round =>
    obtain ⟨j, A', c', hj, rfl, rfl, hown, ht, hb⟩ := hrel
    by_cases hlt : j < bs.length
    · obtain ⟨x, hx⟩ : ∃ x, bs[j]? = some x := ⟨_, List.getElem?_eq_getElem hlt⟩
      obtain ⟨b, off, rfl, hB, hcl⟩ := HC.out (by rw [ints_length]; omega)
      have hcell : wr.cell? ⟨b, off + j, none⟩ = some (.int .i64 x) := (hb.cell (p := ⟨b, off + j, none⟩) hB).trans (hcl j _ (ints_get hx))
      have HX := hid (labsTo_succ (s := s) (a := a) hx)
      have hbit := HBI.out j x hx
      have HBIT := hid hbit
      have zr := hb.size
      clear hcl hx hbit
      have b_10 := hb
      have s_10 := b_10.size
      have o_in := own_in hown
      have o_10 := hown
      clear hown
      have t_10 := ht
      clear ht
      have t_lt := t_10.lt
      have cell_t := t_10.cell
      have froz_t := t_10.frozen
      have lt_t := t_10.lt
      have q_10 := hcell
      clear hcell
      have lt_q : b < wr.heap.size := by omega
      go_wp2_with fail
      go_region_held3 (fun w' => w'.cell? ⟨w.heap.size, 0, none⟩ = some (.int .i64 s) ∧ w'.cell? ⟨w.heap.size, 1, none⟩ = some (.int .i64 a) ∧ w'.cell? ⟨b, off + j, none⟩ = some (.int .i64 x)) (exact ⟨(Blk.cell (t := 27) (cs := #[.int .i64 s, .int .i64 a]) (by repeat (first | (with_reducible assumption) | (with_reducible apply Blk.drew) | (with_reducible apply Blk.drewN) | (with_reducible apply Blk.new; first | rfl | (simp; done)) | (with_reducible apply Blk.alloc) | (with_reducible apply Blk.set_) | (with_reducible apply Blk.past; focus assumption) | (with_reducible apply Blk.far; focus (first | (simp; done) | (simp; omega) | (dsimp only; omega))))) 0), (Blk.cell (t := 27) (cs := #[.int .i64 s, .int .i64 a]) (by repeat (first | (with_reducible assumption) | (with_reducible apply Blk.drew) | (with_reducible apply Blk.drewN) | (with_reducible apply Blk.new; first | rfl | (simp; done)) | (with_reducible apply Blk.alloc) | (with_reducible apply Blk.set_) | (with_reducible apply Blk.past; focus assumption) | (with_reducible apply Blk.far; focus (first | (simp; done) | (simp; omega) | (dsimp only; omega))))) 1), (by first | ((repeat (first | (with_reducible assumption) | (with_reducible refine cell_drew ?_) | (with_reducible refine cell_alloc ?_ (by first | (dsimp only; omega) | (simp; omega))) | (with_reducible refine cell_far ?_ (by first | (dsimp only; omega) | (simp; omega))))); done) | exact cell_kept q_10 (by repeat (first | (with_reducible exact Below.refl _ _) | (with_reducible refine Below.trans ?_ (Below.mono (by assumption) (by first | omega | (simp; done) | (simp; omega) | (simp [*]; done)))) | (with_reducible refine Below.alloc ?_ (by first | omega | (simp; done) | (simp; omega) | (simp [*]; done)) _) | (with_reducible refine Below.setCell ?_ (by first | omega | (simp; done) | (simp; omega) | (simp [*]; done)) _) | (with_reducible refine Below.drew ?_) | (with_reducible refine below_drewN ?_))) (by dsimp only; omega))⟩) (first | (go_at_call 24; refine calls_forget0 (W := wr) ?_ ?_; (focus (repeat (first | (with_reducible exact Below.refl _ _) | (with_reducible refine Below.trans ?_ (Below.mono (by assumption) (by first | omega | (simp; done) | (simp; omega) | (simp [*]; done)))) | (with_reducible refine Below.alloc ?_ (by first | omega | (simp; done) | (simp; omega) | (simp [*]; done)) _) | (with_reducible refine Below.setCell ?_ (by first | omega | (simp; done) | (simp; omega) | (simp [*]; done)) _) | (with_reducible refine Below.drew ?_) | (with_reducible refine below_drewN ?_)))); intro X11 hX11; have sX11 := hX11.size; refine (HZ.out _ _ (inB_iff.2 (by omega))).mono ?_; rintro e w11 ⟨rfl, hb11⟩; have s11 := hb11.size; have hT11 := hX11.trans (hb11.mono sX11); have b_11 := b_10.trans (hT11.mono (by omega)); have o_11 := own_below o_10 hT11; have t_11 := Blk.past hT11 t_10; have q_11 := cell_kept q_10 hT11 (by dsimp only; omega); clear o_10 t_10 q_10 b_10 cell_t froz_t lt_t lt_q hX11 hT11 hb11; have cell_t := t_11.cell; have froz_t := t_11.frozen; have lt_t := t_11.lt; have lt_q : b < w11.heap.size := (by omega)) | (go_at_call 26; refine calls_forget0 (W := w11) ?_ ?_; (focus (repeat (first | (with_reducible exact Below.refl _ _) | (with_reducible refine Below.trans ?_ (Below.mono (by assumption) (by first | omega | (simp; done) | (simp; omega) | (simp [*]; done)))) | (with_reducible refine Below.alloc ?_ (by first | omega | (simp; done) | (simp; omega) | (simp [*]; done)) _) | (with_reducible refine Below.setCell ?_ (by first | omega | (simp; done) | (simp; omega) | (simp [*]; done)) _) | (with_reducible refine Below.drew ?_) | (with_reducible refine below_drewN ?_)))); intro X12 hX12; have sX12 := hX12.size; refine (sLabelFor _ _ _ _ (zero_label _ _) (delta_label _ _) HBIT.out).mono ?_; rintro e w12 ⟨rfl, hb12⟩; have s12 := hb12.size; have hT12 := hX12.trans (hb12.mono sX12); have b_12 := b_11.trans (hT12.mono (by omega)); have o_12 := own_below o_11 hT12; have t_12 := Blk.past hT12 t_11; have q_12 := cell_kept q_11 hT12 (by dsimp only; omega); clear o_11 t_11 q_11 b_11 cell_t froz_t lt_t lt_q hX12 hT12 hb12; have cell_t := t_12.cell; have froz_t := t_12.frozen; have lt_t := t_12.lt; have lt_q : b < w12.heap.size := (by omega)) | (have hgd := b_12; clear hgd; refine step_app _ rfl _ _ 24 rfl (w.heap.size + 1) 3 (.int .i64 0) 1 8 Try.underlying24 infoInt rfl (by decide) (.slice A' j c') j (ints (labsTo s a bs j)) rfl (by have h := o_12; repeat (first | (with_reducible assumption) | (with_reducible apply World.ownsRow.drew) | (with_reducible apply own_drewN) | (with_reducible apply World.ownsRow.alloc) | (with_reducible refine own_set ?_ _ _ (by first | omega | (simp; omega) | (dsimp only; omega))))) ⟨w12.heap.size, 0, none⟩ 1 1 _ rfl rfl (one_new w12 _ 3) (one_one _) (by omega) (by decide) (by simp; omega) ?_; intro A2 c2 w13 hown2 hg2; have hb13 := below_row (B := w.heap.size) (w := w) (by have h := b_12; repeat (first | (with_reducible exact Below.refl _ _) | (with_reducible refine Below.trans ?_ (Below.mono (by assumption) (by first | omega | (simp; done) | (simp; omega) | (simp [*]; done)))) | (with_reducible refine Below.alloc ?_ (by first | omega | (simp; done) | (simp; omega) | (simp [*]; done)) _) | (with_reducible refine Below.setCell ?_ (by first | omega | (simp; done) | (simp; omega) | (simp [*]; done)) _) | (with_reducible refine Below.drew ?_) | (with_reducible refine below_drewN ?_))) (by simp; omega) o_12 (by omega) hg2; have ht13 : Blk w13 w.heap.size 27 #[.int .i64 s, .int .i64 a] := gr_blk hg2 (by have h := t_12; (first | ((repeat (first | (with_reducible assumption) | (with_reducible apply Blk.drew) | (with_reducible apply Blk.drewN) | (with_reducible apply Blk.new; first | rfl | (simp; done)) | (with_reducible apply Blk.alloc) | (with_reducible apply Blk.set_) | (with_reducible apply Blk.past; focus assumption) | (with_reducible apply Blk.far; focus (first | (simp; done) | (simp; omega) | (dsimp only; omega))))); done) | (apply Blk.cast; (case h => (repeat (first | (with_reducible assumption) | (with_reducible apply Blk.drew) | (with_reducible apply Blk.drewN) | (with_reducible apply Blk.new; first | rfl | (simp; done)) | (with_reducible apply Blk.alloc) | (with_reducible apply Blk.set_) | (with_reducible apply Blk.past; focus assumption) | (with_reducible apply Blk.far; focus (first | (simp; done) | (simp; omega) | (dsimp only; omega)))))); (case e => rfl)))) (fun q hq => by have h1 := o_in q hq; omega); have hq13 := gr_cell hg2 (p := ⟨b, off + j, none⟩) (v := .int .i64 x) (by have h := q_12; (repeat (first | (with_reducible assumption) | (with_reducible refine cell_drew ?_) | (with_reducible refine cell_alloc ?_ (by first | (dsimp only; omega) | (simp; omega)))))) (by simp; omega) (fun q hq => by have h1 := o_in q hq; dsimp only; omega); rw [← ints_snoc, ← HX.out] at hown2; have HO2 := hid hown2; have HB2 := hid hb13; have HT2 := hid ht13; clear hown2 hb13 hg2 o_12 b_12 t_12 q_12))
      all_goals
        go_wp2
        go_roundw
        case rel => exact ⟨j + 1, A2, c2, by omega, by go_num, rfl, by have h := HO2.out; repeat (first | (with_reducible assumption) | (with_reducible apply World.ownsRow.drew) | (with_reducible apply own_drewN) | (with_reducible apply World.ownsRow.alloc) | (with_reducible refine own_set ?_ _ _ (by first | omega | (simp; omega) | (dsimp only; omega)))), by have h := HT2.out; (first | ((repeat (first | (with_reducible assumption) | (with_reducible apply Blk.drew) | (with_reducible apply Blk.drewN) | (with_reducible apply Blk.new; first | rfl | (simp; done)) | (with_reducible apply Blk.alloc) | (with_reducible apply Blk.set_) | (with_reducible apply Blk.past; focus assumption) | (with_reducible apply Blk.far; focus (first | (simp; done) | (simp; omega) | (dsimp only; omega))))); done) | (apply Blk.cast; (case h => (repeat (first | (with_reducible assumption) | (with_reducible apply Blk.drew) | (with_reducible apply Blk.drewN) | (with_reducible apply Blk.new; first | rfl | (simp; done)) | (with_reducible apply Blk.alloc) | (with_reducible apply Blk.set_) | (with_reducible apply Blk.past; focus assumption) | (with_reducible apply Blk.far; focus (first | (simp; done) | (simp; omega) | (dsimp only; omega)))))); (case e => rfl))), by have h := HB2.out; repeat (first | (with_reducible exact Below.refl _ _) | (with_reducible refine Below.trans ?_ (Below.mono (by assumption) (by first | omega | (simp; done) | (simp; omega) | (simp [*]; done)))) | (with_reducible refine Below.alloc ?_ (by first | omega | (simp; done) | (simp; omega) | (simp [*]; done)) _) | (with_reducible refine Below.setCell ?_ (by first | omega | (simp; done) | (simp; omega) | (simp [*]; done)) _) | (with_reducible refine Below.drew ?_) | (with_reducible refine below_drewN ?_))⟩
        case measure => simp [intOf]; omega
    · obtain rfl : j = bs.length := by omega
      have HO2 := hid hown
      have HB2 := hid hb
      clear hown ht hb
      go_wp2
      go_ret
      have el : (labsTo s a bs bs.length).length = bs.length := labsTo_length _ _ _ _
      unfold GivesInts
      rw [el]
      exact ⟨A', c', rfl, own_weak HO2.out (by omega), HB2.out⟩
end Go.Proofs.Ytonanjcojfjbdaa
