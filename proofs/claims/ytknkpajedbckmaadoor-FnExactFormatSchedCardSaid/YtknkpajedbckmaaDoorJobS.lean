/- The laws' own functions on slices of Job: the copy, the comparison of equal ones, the marks, the count. -/
import Derived.Test.YtknkpajedbckmaaDoorMem
import Derived.Test.YtknkpajedbckmaaDoorIntS
import Derived.Test.YtknkpajedbckmaaDoorFlat
import Derived.Outline
import Derived.Deep.DeepCutAuto
import Derived.Deep.RegionHeld3
namespace Go.Proofs.YtknkpajedbckmaaDoor
open Go.RowKit

theorem infoJob : (Tryd.prog.info? 57).map (fun i => (i.zero, i.size, i.bytes)) = some (some (.agg #[.int .i64 0, .int .i64 0, .int .i64 0, .int .i64 0]), 4, 32) := by kernel_rfl
theorem toJob_any (x0 x1 x2 x3 : Int) (w : World) :
    Calls Tryd.prog 45 #[.agg #[.int .i64 x0, .int .i64 x1, .int .i64 x2, .int .i64 x3]] w fun e w' => e = .returned (.agg #[.int .i64 x0, .int .i64 x1, .int .i64 x2, .int .i64 x3]) ∧ Below w.heap.size w w' := by
  go_enter Tryd.func45, Tryd.ntmps45
  go_wp2
  go_returns
  refine ⟨rfl, ?_⟩
  repeat (first | (with_reducible exact Below.refl _ _) | (with_reducible refine Below.trans ?_ (Below.mono (by assumption) (by first | omega | (simp; done) | (simp; omega) | (simp [*]; done)))) | (with_reducible refine Below.alloc ?_ (by first | omega | (simp; done) | (simp; omega) | (simp [*]; done)) _) | (with_reducible refine Below.setCell ?_ (by first | omega | (simp; done) | (simp; omega) | (simp [*]; done)) _) | (with_reducible refine Below.drew ?_) | (with_reducible refine below_drewN ?_))
theorem eqJob_same (x0 x1 x2 x3 : Int) (w : World) :
    Calls Tryd.prog 49 #[.agg #[.int .i64 x0, .int .i64 x1, .int .i64 x2, .int .i64 x3], .agg #[.int .i64 x0, .int .i64 x1, .int .i64 x2, .int .i64 x3]] w fun e w' => e = .returned (.bool true) ∧ Below w.heap.size w w' := by
  go_enter Tryd.func49, Tryd.ntmps49
  go_wp2
  go_ret
  refine ⟨rfl, ?_⟩
  repeat (first | (with_reducible exact Below.refl _ _) | (with_reducible refine Below.trans ?_ (Below.mono (by assumption) (by first | omega | (simp; done) | (simp; omega) | (simp [*]; done)))) | (with_reducible refine Below.alloc ?_ (by first | omega | (simp; done) | (simp; omega) | (simp [*]; done)) _) | (with_reducible refine Below.setCell ?_ (by first | omega | (simp; done) | (simp; omega) | (simp [*]; done)) _) | (with_reducible refine Below.drew ?_) | (with_reducible refine below_drewN ?_))
set_option maxRecDepth 100000 in
set_option maxHeartbeats 1600000 in
theorem toJobS_any (A : Option Addr) (c n : Nat) (xs : List Int) (w : World) (hl : xs.length = n * 4) (hc : Cells w w.heap.size A (ints xs)) (hn : n ≤ 1048576) :
    Calls Tryd.prog 26 #[.slice A n c] w fun e w' => e = .returned (.slice (some ⟨w.heap.size, 0, none⟩) n n) ∧
      w'.ownsRow w.heap.size 57 4 (.slice (some ⟨w.heap.size, 0, none⟩) n n) n (ints xs) ∧ Below w.heap.size w w' := by
  obtain ⟨i0, hi, hz0, hz1, hz2⟩ := info_parts infoJob
  go_enter Tryd.func26, Tryd.ntmps26
  go_wp2_with (at_make; refine wpList_make_full _ rfl _ _ 40 rfl w.heap.size 57 i0 (.agg #[.int .i64 0, .int .i64 0, .int .i64 0, .int .i64 0]) 4 Tryd.underlying40 hi hz0 hz1 _ _ _ _ n rfl rfl rfl rfl (by rw [hz2]; omega) (by unfold maxLen; omega) (Nat.le_refl _) ?_)
  intro w1 hown1 hg1
  have hb1 : Below w.heap.size w w1 := (Below.refl _ _).grown hg1 (Nat.le_refl _) (fun k hk => by cases hk)
  have hsz1 := hb1.size
  have hL : (madeCells #[Value.int IntKind.i64 0, Value.int IntKind.i64 0, Value.int IntKind.i64 0, Value.int IntKind.i64 0] (n * 4)).toList = copyTo xs 0 := by
    rw [copyTo_zero, hl]
    exact made4 n
  have hown2 : w1.ownsRow w.heap.size 57 4 (.slice (some ⟨w.heap.size, 0, none⟩) n n) n (copyTo xs 0) := by rw [← hL]; exact hown1
  have HL := hid hl
  clear hL hg1 hi hz0 hz1 hz2 hown1 hl
  go_wp2_with fail
  go_loopw [4] (fun i wr => ∃ k : Nat, k ≤ n ∧ i = .int .i64 k ∧ wr.ownsRow w.heap.size 57 4 (.slice (some ⟨w.heap.size, 0, none⟩) n n) n (copyTo xs (k * 4)) ∧ Below w.heap.size w wr) (fun i _ => n - (intOf i).toNat)
  case atStart => exact ⟨0, Nat.zero_le _, rfl, hown2, hb1⟩
  case round =>
    obtain ⟨k, hk, rfl, hown, hb⟩ := hrel
    by_cases hlt : k < n
    · have hl := HL.out
      obtain ⟨x0, hx0⟩ : ∃ x, xs[k * 4]? = some x := ⟨_, List.getElem?_eq_getElem (by omega)⟩
      obtain ⟨x1, hx1⟩ : ∃ x, xs[k * 4 + 1]? = some x := ⟨_, List.getElem?_eq_getElem (by omega)⟩
      obtain ⟨x2, hx2⟩ : ∃ x, xs[k * 4 + 2]? = some x := ⟨_, List.getElem?_eq_getElem (by omega)⟩
      obtain ⟨x3, hx3⟩ : ∃ x, xs[k * 4 + 3]? = some x := ⟨_, List.getElem?_eq_getElem (by omega)⟩
      obtain ⟨b, off, rfl, hB, hcl⟩ := hc (by rw [ints_length]; omega)
      have hc0 : wr.cell? ⟨b, off + k * 4, none⟩ = some (.int .i64 x0) := (hb.cell (p := ⟨b, off + k * 4, none⟩) hB).trans (hcl (k * 4) _ (ints_get hx0))
      have hc1 : wr.cell? ⟨b, off + k * 4 + 1, none⟩ = some (.int .i64 x1) := (hb.cell (p := ⟨b, off + k * 4 + 1, none⟩) hB).trans (hcl (k * 4 + 1) _ (ints_get hx1))
      have hc2 : wr.cell? ⟨b, off + k * 4 + 2, none⟩ = some (.int .i64 x2) := (hb.cell (p := ⟨b, off + k * 4 + 2, none⟩) hB).trans (hcl (k * 4 + 2) _ (ints_get hx2))
      have hc3 : wr.cell? ⟨b, off + k * 4 + 3, none⟩ = some (.int .i64 x3) := (hb.cell (p := ⟨b, off + k * 4 + 3, none⟩) hB).trans (hcl (k * 4 + 3) _ (ints_get hx3))
      have HO := hid hown
      have HB := hid hb
      have zr := hb.size
      have HX0 := hid hx0
      have HX1 := hid hx1
      have HX2 := hid hx2
      have HX3 := hid hx3
      clear hcl hl hown hown2 hb1 hc hb hx0 hx1 hx2 hx3
      go_wp2_with fail
      refine calls_forget0 (W := wr) ?_ ?_
      (focus (repeat (first | (with_reducible exact Below.refl _ _) | (with_reducible refine Below.trans ?_ (Below.mono (by assumption) (by first | omega | (simp; done) | (simp; omega) | (simp [*]; done)))) | (with_reducible refine Below.alloc ?_ (by first | omega | (simp; done) | (simp; omega) | (simp [*]; done)) _) | (with_reducible refine Below.setCell ?_ (by first | omega | (simp; done) | (simp; omega) | (simp [*]; done)) _) | (with_reducible refine Below.drew ?_) | (with_reducible refine below_drewN ?_))))
      intro X hX
      refine (toJob_any _ _ _ _ _).mono ?_
      rintro e w2 ⟨rfl, hb2⟩
      have hbX := hX.trans (hb2.mono hX.size)
      have z2 := hbX.size
      have ho2 := own_below HO.out hbX
      have hB2 := HB.out.trans (hbX.mono zr)
      have hu0 : ∃ u, w2.cell? ⟨w.heap.size, k * 4, none⟩ = some u := by
        rw [ho2.cellAt (k * 4) (by omega)]
        have h1 := ho2.1
        exact ⟨_, List.getElem?_eq_getElem (by omega)⟩
      obtain ⟨u0, hu0⟩ := hu0
      have hf0 := ho2.frozenAt (k * 4)
      have hu1 : ∃ u, w2.cell? ⟨w.heap.size, k * 4 + 1, none⟩ = some u := by
        rw [ho2.cellAt (k * 4 + 1) (by omega)]
        have h1 := ho2.1
        exact ⟨_, List.getElem?_eq_getElem (by omega)⟩
      obtain ⟨u1, hu1⟩ := hu1
      have hf1 := ho2.frozenAt (k * 4 + 1)
      have hu2 : ∃ u, w2.cell? ⟨w.heap.size, k * 4 + 2, none⟩ = some u := by
        rw [ho2.cellAt (k * 4 + 2) (by omega)]
        have h1 := ho2.1
        exact ⟨_, List.getElem?_eq_getElem (by omega)⟩
      obtain ⟨u2, hu2⟩ := hu2
      have hf2 := ho2.frozenAt (k * 4 + 2)
      have hu3 : ∃ u, w2.cell? ⟨w.heap.size, k * 4 + 3, none⟩ = some u := by
        rw [ho2.cellAt (k * 4 + 3) (by omega)]
        have h1 := ho2.1
        exact ⟨_, List.getElem?_eq_getElem (by omega)⟩
      obtain ⟨u3, hu3⟩ := hu3
      have hf3 := ho2.frozenAt (k * 4 + 3)
      have hst0 := ho2.stored (k * 4) (.int .i64 x0)
      rw [copyTo_set HX0.out] at hst0
      have hst1 := hst0.1.stored (k * 4 + 1) (.int .i64 x1)
      rw [copyTo_set HX1.out] at hst1
      have hst2 := hst1.1.stored (k * 4 + 2) (.int .i64 x2)
      rw [copyTo_set HX2.out] at hst2
      have hst3 := hst2.1.stored (k * 4 + 3) (.int .i64 x3)
      rw [copyTo_set HX3.out] at hst3
      have hq := hst3.1
      rw [show k * 4 + 3 + 1 = (k + 1) * 4 by omega] at hq
      have hb3 := ((((hB2.setCell (p := ⟨w.heap.size, k * 4, none⟩) (Nat.le_refl _) (.int .i64 x0)).setCell (p := ⟨w.heap.size, k * 4 + 1, none⟩) (Nat.le_refl _) (.int .i64 x1)).setCell (p := ⟨w.heap.size, k * 4 + 2, none⟩) (Nat.le_refl _) (.int .i64 x2)).setCell (p := ⟨w.heap.size, k * 4 + 3, none⟩) (Nat.le_refl _) (.int .i64 x3))
      have HQ := hid hq
      have HB3 := hid hb3
      clear hq hb3 ho2 hbX hX hb2 hB2 hst0 hst1 hst2 hst3
      go_wp2
      go_roundw
      case rel => exact ⟨k + 1, by omega, by go_num, HQ.out, HB3.out⟩
      case measure => simp [intOf]; omega
    · obtain rfl : k = n := by omega
      rw [← HL.out, copyTo_all] at hown
      go_wp2
      go_ret
      exact ⟨rfl, hown, hb⟩
set_option maxRecDepth 100000 in
set_option maxHeartbeats 1600000 in
theorem eqJobS_same (A B : Option Addr) (c d n : Nat) (xs : List Int) (w : World) (hl : xs.length = n * 4) (ha : Cells w w.heap.size A (ints xs)) (hc : Cells w w.heap.size B (ints xs)) (hn : n ≤ 1000000000) :
    Calls Tryd.prog 31 #[.slice A n c, .slice B n d] w fun e w' => e = .returned (.bool true) ∧ Below w.heap.size w w' := by
  go_enter Tryd.func31, Tryd.ntmps31
  go_wp2
  go_loopw [5] (fun i wr => ∃ k : Nat, k ≤ n ∧ i = .int .i64 k ∧ Below w.heap.size w wr) (fun i _ => n - (intOf i).toNat)
  case atStart => exact ⟨0, Nat.zero_le _, rfl, Below.refl _ _⟩
  case round =>
    obtain ⟨k, hk, rfl, hb⟩ := hrel
    by_cases hlt : k < n
    · skip
      obtain ⟨x0, hx0⟩ : ∃ x, xs[k * 4]? = some x := ⟨_, List.getElem?_eq_getElem (by omega)⟩
      obtain ⟨x1, hx1⟩ : ∃ x, xs[k * 4 + 1]? = some x := ⟨_, List.getElem?_eq_getElem (by omega)⟩
      obtain ⟨x2, hx2⟩ : ∃ x, xs[k * 4 + 2]? = some x := ⟨_, List.getElem?_eq_getElem (by omega)⟩
      obtain ⟨x3, hx3⟩ : ∃ x, xs[k * 4 + 3]? = some x := ⟨_, List.getElem?_eq_getElem (by omega)⟩
      obtain ⟨b, off, rfl, hB, hcl⟩ := ha (by rw [ints_length]; omega)
      obtain ⟨b', off', rfl, hB', hcl'⟩ := hc (by rw [ints_length]; omega)
      have hc0 : wr.cell? ⟨b, off + k * 4, none⟩ = some (.int .i64 x0) := (hb.cell (p := ⟨b, off + k * 4, none⟩) hB).trans (hcl (k * 4) _ (ints_get hx0))
      have hd0 : wr.cell? ⟨b', off' + k * 4, none⟩ = some (.int .i64 x0) := (hb.cell (p := ⟨b', off' + k * 4, none⟩) hB').trans (hcl' (k * 4) _ (ints_get hx0))
      have hc1 : wr.cell? ⟨b, off + k * 4 + 1, none⟩ = some (.int .i64 x1) := (hb.cell (p := ⟨b, off + k * 4 + 1, none⟩) hB).trans (hcl (k * 4 + 1) _ (ints_get hx1))
      have hd1 : wr.cell? ⟨b', off' + k * 4 + 1, none⟩ = some (.int .i64 x1) := (hb.cell (p := ⟨b', off' + k * 4 + 1, none⟩) hB').trans (hcl' (k * 4 + 1) _ (ints_get hx1))
      have hc2 : wr.cell? ⟨b, off + k * 4 + 2, none⟩ = some (.int .i64 x2) := (hb.cell (p := ⟨b, off + k * 4 + 2, none⟩) hB).trans (hcl (k * 4 + 2) _ (ints_get hx2))
      have hd2 : wr.cell? ⟨b', off' + k * 4 + 2, none⟩ = some (.int .i64 x2) := (hb.cell (p := ⟨b', off' + k * 4 + 2, none⟩) hB').trans (hcl' (k * 4 + 2) _ (ints_get hx2))
      have hc3 : wr.cell? ⟨b, off + k * 4 + 3, none⟩ = some (.int .i64 x3) := (hb.cell (p := ⟨b, off + k * 4 + 3, none⟩) hB).trans (hcl (k * 4 + 3) _ (ints_get hx3))
      have hd3 : wr.cell? ⟨b', off' + k * 4 + 3, none⟩ = some (.int .i64 x3) := (hb.cell (p := ⟨b', off' + k * 4 + 3, none⟩) hB').trans (hcl' (k * 4 + 3) _ (ints_get hx3))
      have HB := hid hb
      have zr := hb.size
      have hlt' : (k : Int) < (n : Int) := by omega
      clear hcl hcl' ha hc hb hx0 hx1 hx2 hx3
      have hBr : b < wr.heap.size := by omega
      have hBr' : b' < wr.heap.size := by omega
      go_wp2_with fail
      go_region_held3 (fun w' => w'.cell? ⟨b, off + k * 4, none⟩ = some (.int .i64 x0) ∧ w'.cell? ⟨b, off + k * 4 + 1, none⟩ = some (.int .i64 x1) ∧ w'.cell? ⟨b, off + k * 4 + 2, none⟩ = some (.int .i64 x2) ∧ w'.cell? ⟨b, off + k * 4 + 3, none⟩ = some (.int .i64 x3) ∧ w'.cell? ⟨b', off' + k * 4, none⟩ = some (.int .i64 x0) ∧ w'.cell? ⟨b', off' + k * 4 + 1, none⟩ = some (.int .i64 x1) ∧ w'.cell? ⟨b', off' + k * 4 + 2, none⟩ = some (.int .i64 x2) ∧ w'.cell? ⟨b', off' + k * 4 + 3, none⟩ = some (.int .i64 x3)) (exact ⟨cell_kept hc0 (by repeat (first | (with_reducible exact Below.refl _ _) | (with_reducible refine Below.trans ?_ (Below.mono (by assumption) (by first | omega | (simp; done) | (simp; omega) | (simp [*]; done)))) | (with_reducible refine Below.alloc ?_ (by first | omega | (simp; done) | (simp; omega) | (simp [*]; done)) _) | (with_reducible refine Below.setCell ?_ (by first | omega | (simp; done) | (simp; omega) | (simp [*]; done)) _) | (with_reducible refine Below.drew ?_) | (with_reducible refine below_drewN ?_))) hBr, cell_kept hc1 (by repeat (first | (with_reducible exact Below.refl _ _) | (with_reducible refine Below.trans ?_ (Below.mono (by assumption) (by first | omega | (simp; done) | (simp; omega) | (simp [*]; done)))) | (with_reducible refine Below.alloc ?_ (by first | omega | (simp; done) | (simp; omega) | (simp [*]; done)) _) | (with_reducible refine Below.setCell ?_ (by first | omega | (simp; done) | (simp; omega) | (simp [*]; done)) _) | (with_reducible refine Below.drew ?_) | (with_reducible refine below_drewN ?_))) hBr, cell_kept hc2 (by repeat (first | (with_reducible exact Below.refl _ _) | (with_reducible refine Below.trans ?_ (Below.mono (by assumption) (by first | omega | (simp; done) | (simp; omega) | (simp [*]; done)))) | (with_reducible refine Below.alloc ?_ (by first | omega | (simp; done) | (simp; omega) | (simp [*]; done)) _) | (with_reducible refine Below.setCell ?_ (by first | omega | (simp; done) | (simp; omega) | (simp [*]; done)) _) | (with_reducible refine Below.drew ?_) | (with_reducible refine below_drewN ?_))) hBr, cell_kept hc3 (by repeat (first | (with_reducible exact Below.refl _ _) | (with_reducible refine Below.trans ?_ (Below.mono (by assumption) (by first | omega | (simp; done) | (simp; omega) | (simp [*]; done)))) | (with_reducible refine Below.alloc ?_ (by first | omega | (simp; done) | (simp; omega) | (simp [*]; done)) _) | (with_reducible refine Below.setCell ?_ (by first | omega | (simp; done) | (simp; omega) | (simp [*]; done)) _) | (with_reducible refine Below.drew ?_) | (with_reducible refine below_drewN ?_))) hBr, cell_kept hd0 (by repeat (first | (with_reducible exact Below.refl _ _) | (with_reducible refine Below.trans ?_ (Below.mono (by assumption) (by first | omega | (simp; done) | (simp; omega) | (simp [*]; done)))) | (with_reducible refine Below.alloc ?_ (by first | omega | (simp; done) | (simp; omega) | (simp [*]; done)) _) | (with_reducible refine Below.setCell ?_ (by first | omega | (simp; done) | (simp; omega) | (simp [*]; done)) _) | (with_reducible refine Below.drew ?_) | (with_reducible refine below_drewN ?_))) hBr', cell_kept hd1 (by repeat (first | (with_reducible exact Below.refl _ _) | (with_reducible refine Below.trans ?_ (Below.mono (by assumption) (by first | omega | (simp; done) | (simp; omega) | (simp [*]; done)))) | (with_reducible refine Below.alloc ?_ (by first | omega | (simp; done) | (simp; omega) | (simp [*]; done)) _) | (with_reducible refine Below.setCell ?_ (by first | omega | (simp; done) | (simp; omega) | (simp [*]; done)) _) | (with_reducible refine Below.drew ?_) | (with_reducible refine below_drewN ?_))) hBr', cell_kept hd2 (by repeat (first | (with_reducible exact Below.refl _ _) | (with_reducible refine Below.trans ?_ (Below.mono (by assumption) (by first | omega | (simp; done) | (simp; omega) | (simp [*]; done)))) | (with_reducible refine Below.alloc ?_ (by first | omega | (simp; done) | (simp; omega) | (simp [*]; done)) _) | (with_reducible refine Below.setCell ?_ (by first | omega | (simp; done) | (simp; omega) | (simp [*]; done)) _) | (with_reducible refine Below.drew ?_) | (with_reducible refine below_drewN ?_))) hBr', cell_kept hd3 (by repeat (first | (with_reducible exact Below.refl _ _) | (with_reducible refine Below.trans ?_ (Below.mono (by assumption) (by first | omega | (simp; done) | (simp; omega) | (simp [*]; done)))) | (with_reducible refine Below.alloc ?_ (by first | omega | (simp; done) | (simp; omega) | (simp [*]; done)) _) | (with_reducible refine Below.setCell ?_ (by first | omega | (simp; done) | (simp; omega) | (simp [*]; done)) _) | (with_reducible refine Below.drew ?_) | (with_reducible refine below_drewN ?_))) hBr'⟩) ((go_at_call 49; refine (eqJob_same _ _ _ _ _).mono ?_; rintro e w2 ⟨rfl, hb2⟩))
      have hb3 : Below w.heap.size w w2 := by
        have hb0 := HB.out
        have hb4 := hb2
        repeat (first | (with_reducible exact Below.refl _ _) | (with_reducible refine Below.trans ?_ (Below.mono (by assumption) (by first | omega | (simp; done) | (simp; omega) | (simp [*]; done)))) | (with_reducible refine Below.alloc ?_ (by first | omega | (simp; done) | (simp; omega) | (simp [*]; done)) _) | (with_reducible refine Below.setCell ?_ (by first | omega | (simp; done) | (simp; omega) | (simp [*]; done)) _) | (with_reducible refine Below.drew ?_) | (with_reducible refine below_drewN ?_))
      have HB3 := hid hb3
      clear hb2 hb3
      go_wp2
      go_roundw
      case rel => exact ⟨k + 1, by omega, by go_num, HB3.out⟩
      case measure => simp [intOf]; omega
    · obtain rfl : k = n := by omega
      go_wp2
      go_ret
      exact ⟨rfl, hb⟩
theorem szJobS_any (A : Option Addr) (c n : Nat) (left : Int) (w : World) (hn : n ≤ 9223372036854775807) (h0 : 0 ≤ left) (h1 : left ≤ 1048576) :
    Calls Tryd.prog 21 #[.slice A n c, .int .i64 left] w fun e w' => e = .returned (.int .i64 (pick (decide (left - n < 0)) (-1) (left - n))) ∧ w = w' := by
  by_cases hlt : left - n < 0
  all_goals
    simp only [hlt, decide_true, decide_false, pick_yes, pick_no]
    go_enter Tryd.func21, Tryd.ntmps21
    go_wp2
    go_ret
    exact ⟨rfl, rfl⟩
set_option maxRecDepth 100000 in
set_option maxHeartbeats 1600000 in
theorem markJobS_any (base : Nat) (A : Option Addr) (c n : Nat) (vs : List Value) (k : Int) (w : World) (hown : w.ownsRow base 57 4 (.slice A n c) n vs) (hn : n ≤ 100000000) (h0 : 0 ≤ k) (h1 : k ≤ 1000000000000) :
    Calls Tryd.prog 34 #[.slice A n c, .int .i64 k] w fun e w' => e = .returned (.int .i64 (k + (n * 4 : Nat))) ∧
      w'.ownsRow base 57 4 (.slice A n c) n (ints (marks k (n * 4))) ∧ w.grownBy w' (Value.slice A n c).ownBlock := by
  have hlen : vs.length = n * 4 := by simpa using hown.1
  rcases hown.2 with ⟨hv, rfl⟩ | ⟨g, cap, cur, hv, _⟩
  · injection hv with hA _ hcc
    subst hA hcc
    have HO := hid hown
    clear hown hlen
    go_enter Tryd.func34, Tryd.ntmps34
    go_wp2
    refine wp_loop_rounds 1 ?_
    rw [rounds_succ]
    go_wp2
    go_ret
    exact ⟨by simp, by simpa [marks, ints] using World.ownsRow_nil _ _ _ _, World.grownBy.refl _ _⟩
  · injection hv with hA _ hcc
    subst hA hcc
    have HLEN := hid hlen
    clear hlen
    go_enter Tryd.func34, Tryd.ntmps34
    go_wp2
    go_loopw [1, 5] (fun q i wr => ∃ j : Nat, j ≤ n ∧ i = .int .i64 j ∧ q = .int .i64 (k + (j * 4 : Nat)) ∧ wr.ownsRow base 57 4 (.slice (some ⟨g, 0, none⟩) n c) n (markTo k vs (j * 4)) ∧ w.grownBy wr (some g)) (fun _ i _ => n - (intOf i).toNat)
    case atStart => exact ⟨0, Nat.zero_le _, rfl, by simp, by rw [Nat.zero_mul, markTo_zero]; exact hown, World.grownBy.refl _ _⟩
    case round =>
      obtain ⟨j, hj, rfl, rfl, how, hg⟩ := hrel
      by_cases hlt : j < n
      · have hlen := HLEN.out
        obtain ⟨q, hq⟩ : ∃ q : Int, k + (j * 4 : Nat) = q := ⟨_, rfl⟩
        have hq0 : 0 ≤ q ∧ q ≤ 2000000000000 := by omega
        have hu0 : ∃ u, wr.cell? ⟨g, j * 4, none⟩ = some u := by
          rw [how.cellAt (j * 4) (by omega)]
          have h1 := how.1
          exact ⟨_, List.getElem?_eq_getElem (by omega)⟩
        obtain ⟨u0, hu0⟩ := hu0
        have hf0 := how.frozenAt (j * 4)
        have hu1 : ∃ u, wr.cell? ⟨g, j * 4 + 1, none⟩ = some u := by
          rw [how.cellAt (j * 4 + 1) (by omega)]
          have h1 := how.1
          exact ⟨_, List.getElem?_eq_getElem (by omega)⟩
        obtain ⟨u1, hu1⟩ := hu1
        have hf1 := how.frozenAt (j * 4 + 1)
        have hu2 : ∃ u, wr.cell? ⟨g, j * 4 + 2, none⟩ = some u := by
          rw [how.cellAt (j * 4 + 2) (by omega)]
          have h1 := how.1
          exact ⟨_, List.getElem?_eq_getElem (by omega)⟩
        obtain ⟨u2, hu2⟩ := hu2
        have hf2 := how.frozenAt (j * 4 + 2)
        have hu3 : ∃ u, wr.cell? ⟨g, j * 4 + 3, none⟩ = some u := by
          rw [how.cellAt (j * 4 + 3) (by omega)]
          have h1 := how.1
          exact ⟨_, List.getElem?_eq_getElem (by omega)⟩
        obtain ⟨u3, hu3⟩ := hu3
        have hf3 := how.frozenAt (j * 4 + 3)
        have hst0 := how.stored (j * 4) (.int .i64 (q))
        rw [show q = k + ((j * 4 : Nat) : Int) by omega, markTo_set (by omega), ← show q = k + ((j * 4 : Nat) : Int) by omega] at hst0
        have hst1 := hst0.1.stored (j * 4 + 1) (.int .i64 (q + 1))
        rw [show q + 1 = k + ((j * 4 + 1 : Nat) : Int) by omega, markTo_set (by omega), ← show q + 1 = k + ((j * 4 + 1 : Nat) : Int) by omega] at hst1
        have hst2 := hst1.1.stored (j * 4 + 2) (.int .i64 (q + 1 + 1))
        rw [show q + 1 + 1 = k + ((j * 4 + 2 : Nat) : Int) by omega, markTo_set (by omega), ← show q + 1 + 1 = k + ((j * 4 + 2 : Nat) : Int) by omega] at hst2
        have hst3 := hst2.1.stored (j * 4 + 3) (.int .i64 (q + 1 + 1 + 1))
        rw [show q + 1 + 1 + 1 = k + ((j * 4 + 3 : Nat) : Int) by omega, markTo_set (by omega), ← show q + 1 + 1 + 1 = k + ((j * 4 + 3 : Nat) : Int) by omega] at hst3
        have hgr := grown_trans (grown_trans (grown_trans (grown_trans (hg) hst0.2) hst1.2) hst2.2) hst3.2
        have hq2 := hst3.1
        rw [show j * 4 + 3 + 1 = (j + 1) * 4 by omega] at hq2
        have HS := hid hq2
        have HG := hid hgr
        have HQ := hid hq
        rw [hq]
        clear hq hq2 hgr how hg hlen hst0 hst1 hst2 hst3
        go_wp2
        go_roundw
        case rel => exact ⟨j + 1, by omega, by go_num, by have := HQ.out; congr 1; omega, HS.out, HG.out⟩
        case measure => simp [intOf]; omega
      · obtain rfl : j = n := by omega
        rw [markTo_all _ _ _ HLEN.out] at how
        go_wp2
        go_ret
        exact ⟨rfl, how, hg⟩
end Go.Proofs.YtknkpajedbckmaaDoor
