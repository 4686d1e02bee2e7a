import Derived.Test.YtcdodfekclkonaaDoorTickets2
import Derived.Test.YtcdodfekclkonaaDoorSeen
import Derived.Test.YtcdodfekclkonaaDoorJobS
import Derived.Outline
import Derived.Deep.RegionHeld3
import Derived.BigQuiet
/- SchedOk of the program. -/
namespace Go.Proofs.YtcdodfekclkonaaDoor
open Go.RowKit

theorem jb_cells {w : World} {B : Nat} {A : Option Addr} {js : List Jb} (h : Cells w B A (ints (flatJ js))) {k : Nat} {j : Jb} (hj : js[k]? = some j) :
    ∃ b off, A = some ⟨b, off, none⟩ ∧ b < B ∧ w.cell? ⟨b, off + k * 4, none⟩ = some (.int .i64 j.i) ∧ w.cell? ⟨b, off + k * 4 + 1, none⟩ = some (.int .i64 j.n) ∧ w.cell? ⟨b, off + k * 4 + 2, none⟩ = some (.int .i64 j.l) ∧ w.cell? ⟨b, off + k * 4 + 3, none⟩ = some (.int .i64 j.d) := by
  have hk : k < js.length := (List.getElem?_eq_some_iff.1 hj).1
  obtain ⟨b, off, hA, hb, hc⟩ := h (by rw [ints_length, flatJ_length]; omega)
  refine ⟨b, off, hA, hb, ?_, ?_, ?_, ?_⟩
  · simpa using hc (k * 4 + 0) _ (ints_get (flatJ_at hj 0 j.i rfl))
  · simpa [Nat.add_assoc] using hc (k * 4 + 1) _ (ints_get (flatJ_at hj 1 j.n rfl))
  · simpa [Nat.add_assoc] using hc (k * 4 + 2) _ (ints_get (flatJ_at hj 2 j.l rfl))
  · simpa [Nat.add_assoc] using hc (k * 4 + 3) _ (ints_get (flatJ_at hj 3 j.d rfl))
theorem jbIn_iff {j : Jb} : jbIn j = true ↔ (1 ≤ j.i ∧ j.i ≤ 1000) ∧ (1 ≤ j.n ∧ j.n ≤ 10) ∧ (1 ≤ j.l ∧ j.l ≤ 20) ∧ 0 ≤ j.d ∧ j.d ≤ 20 := by
  unfold jbIn
  simp only [Bool.and_eq_true, inB_iff]
  exact ⟨fun h => ⟨h.1.1.1, h.1.1.2, h.1.2, h.2⟩, fun h => ⟨⟨⟨h.1, h.2.1⟩, h.2.2.1⟩, h.2.2.2⟩⟩
theorem jb_way (j : Jb) : jbIn j = true ∨ inB j.i 1 1000 = false ∨ (inB j.i 1 1000 = true ∧ inB j.n 1 10 = false) ∨ (inB j.i 1 1000 = true ∧ inB j.n 1 10 = true ∧ inB j.l 1 20 = false) ∨ (inB j.i 1 1000 = true ∧ inB j.n 1 10 = true ∧ inB j.l 1 20 = true ∧ inB j.d 0 20 = false) := by
  unfold jbIn
  cases inB j.i 1 1000 <;> cases inB j.n 1 10 <;> cases inB j.l 1 20 <;> cases inB j.d 0 20 <;> simp
set_option maxRecDepth 100000 in
set_option maxHeartbeats 6400000 in
theorem iSchedOk (S : SV) (J T F : Option Addr) (cj ct nf cf : Nat) (w : World) (h1 : Cells w w.heap.size J (ints (flatJ S.js))) (h2 : Cells w w.heap.size T (ints (flatT S.ts))) (hct : S.ts.length ≤ ct)
    (b1 : S.js.length ≤ 1000000000) (b2 : S.ts.length ≤ 1000000000) :
    Calls Tryd.prog 12 #[.agg #[.int .i64 S.z, .int .i64 S.n, .int .i64 S.b, .slice J S.js.length cj, .slice T S.ts.length ct, .slice F nf cf]] w fun e w' => e = .returned (.bool (schedOkB S)) ∧ Below w.heap.size w w' := by
  obtain ⟨z, n, b, js, ts, fs⟩ := S
  dsimp only at *
  obtain ⟨r, hr⟩ : ∃ r, schedOkB ⟨z, n, b, js, ts, fs⟩ = r := ⟨_, rfl⟩
  rw [hr]
  obtain ⟨nj, hnj⟩ : ∃ n, js.length = n := ⟨_, rfl⟩
  obtain ⟨nt, hnt⟩ : ∃ n, ts.length = n := ⟨_, rfl⟩
  have hP := iPoolOk z n b
  have hT := fun X hX => iTickets T ct ts X hX hct (by omega)
  rw [hnt] at hct b2 hT
  rw [hnj] at b1
  rw [hnj, hnt]
  have HR := hid hr
  have HJ := hid hnj
  have HN := hid hnt
  clear hr hnj hnt
  have hno : ¬ schedOk ⟨z, n, b, js, ts, fs⟩ → false = r := fun h => by rw [← HR.out, schedOkB_no h]
  have HNO := hid hno
  clear hno
  cases p1 : poolOkB z n b
  · skip
    have HF := hid (HNO.out fun h => by have := h.1; rw [p1] at this; cases this)
    rw [← HF.out]
    rw [p1] at hP
    have HP := hid hP
    clear hP hT
    go_enter Tryd.func12, Tryd.ntmps12
    have b_0 := (Below.refl w.heap.size w)
    have s_0 := b_0.size
    go_wp2_with fail
    refine calls_forget1 (W := w) (b0 := w.heap.size) (t0 := 34) (c0 := #[.int .i64 z, .int .i64 n, .int .i64 b, .slice J nj cj, .slice T nt ct, .slice F nf cf]) ?_ ?_ ?_
    (focus (first | ((repeat (first | (with_reducible assumption) | (with_reducible apply Blk.drew) | (with_reducible apply Blk.drewN) | (with_reducible apply Blk.new; first | rfl | (simp; done)) | (with_reducible apply Blk.alloc) | (with_reducible apply Blk.set_) | (with_reducible apply Blk.past; focus assumption) | (with_reducible apply Blk.far; focus (first | (simp; done) | (simp; omega) | (dsimp only; omega))))); done) | (apply Blk.cast; (case h => (repeat (first | (with_reducible assumption) | (with_reducible apply Blk.drew) | (with_reducible apply Blk.drewN) | (with_reducible apply Blk.new; first | rfl | (simp; done)) | (with_reducible apply Blk.alloc) | (with_reducible apply Blk.set_) | (with_reducible apply Blk.past; focus assumption) | (with_reducible apply Blk.far; focus (first | (simp; done) | (simp; omega) | (dsimp only; omega)))))); (case e => rfl))))
    (focus (repeat (first | (with_reducible exact Below.refl _ _) | (with_reducible refine Below.trans ?_ (Below.mono (by assumption) (by first | omega | (simp; done) | (simp; omega) | (simp [*]; done)))) | (with_reducible refine Below.alloc ?_ (by first | omega | (simp; done) | (simp; omega) | (simp [*]; done)) _) | (with_reducible refine Below.setCell ?_ (by first | omega | (simp; done) | (simp; omega) | (simp [*]; done)) _) | (with_reducible refine Below.drew ?_) | (with_reducible refine below_drewN ?_))))
    intro X1 bx_n hX1
    have sX1 := hX1.size
    have bx_lt := bx_n.lt
    refine (HP.out _).mono ?_
    rintro e w1 ⟨rfl, hb1⟩
    have s1 := hb1.size
    have hT1 := hX1.trans (hb1.mono sX1)
    have b_1 := b_0.trans (hT1.mono (by omega))
    have bx_1 := Blk.past hb1 bx_n
    clear b_0 bx_n hX1 hT1 hb1
    have cell_bx := bx_1.cell
    have froz_bx := bx_1.frozen
    have lt_bx := bx_1.lt
    go_wp2
    go_ret
    refine ⟨rfl, b_1.trans ?_⟩
    repeat (first | (with_reducible exact Below.refl _ _) | (with_reducible refine Below.trans ?_ (Below.mono (by assumption) (by first | omega | (simp; done) | (simp; omega) | (simp [*]; done)))) | (with_reducible refine Below.alloc ?_ (by first | omega | (simp; done) | (simp; omega) | (simp [*]; done)) _) | (with_reducible refine Below.setCell ?_ (by first | omega | (simp; done) | (simp; omega) | (simp [*]; done)) _) | (with_reducible refine Below.drew ?_) | (with_reducible refine below_drewN ?_))
  by_cases p2 : nj ≤ 16
  case neg =>
    have HF := hid (HNO.out fun h => by have h1 := h.2.1; dsimp only at h1; have := HJ.out; omega)
    rw [← HF.out]
    rw [p1] at hP
    have HP := hid hP
    clear hP hT
    go_enter Tryd.func12, Tryd.ntmps12
    have b_0 := (Below.refl w.heap.size w)
    have s_0 := b_0.size
    go_wp2_with fail
    refine calls_forget1 (W := w) (b0 := w.heap.size) (t0 := 34) (c0 := #[.int .i64 z, .int .i64 n, .int .i64 b, .slice J nj cj, .slice T nt ct, .slice F nf cf]) ?_ ?_ ?_
    (focus (first | ((repeat (first | (with_reducible assumption) | (with_reducible apply Blk.drew) | (with_reducible apply Blk.drewN) | (with_reducible apply Blk.new; first | rfl | (simp; done)) | (with_reducible apply Blk.alloc) | (with_reducible apply Blk.set_) | (with_reducible apply Blk.past; focus assumption) | (with_reducible apply Blk.far; focus (first | (simp; done) | (simp; omega) | (dsimp only; omega))))); done) | (apply Blk.cast; (case h => (repeat (first | (with_reducible assumption) | (with_reducible apply Blk.drew) | (with_reducible apply Blk.drewN) | (with_reducible apply Blk.new; first | rfl | (simp; done)) | (with_reducible apply Blk.alloc) | (with_reducible apply Blk.set_) | (with_reducible apply Blk.past; focus assumption) | (with_reducible apply Blk.far; focus (first | (simp; done) | (simp; omega) | (dsimp only; omega)))))); (case e => rfl))))
    (focus (repeat (first | (with_reducible exact Below.refl _ _) | (with_reducible refine Below.trans ?_ (Below.mono (by assumption) (by first | omega | (simp; done) | (simp; omega) | (simp [*]; done)))) | (with_reducible refine Below.alloc ?_ (by first | omega | (simp; done) | (simp; omega) | (simp [*]; done)) _) | (with_reducible refine Below.setCell ?_ (by first | omega | (simp; done) | (simp; omega) | (simp [*]; done)) _) | (with_reducible refine Below.drew ?_) | (with_reducible refine below_drewN ?_))))
    intro X1 bx_n hX1
    have sX1 := hX1.size
    have bx_lt := bx_n.lt
    refine (HP.out _).mono ?_
    rintro e w1 ⟨rfl, hb1⟩
    have s1 := hb1.size
    have hT1 := hX1.trans (hb1.mono sX1)
    have b_1 := b_0.trans (hT1.mono (by omega))
    have bx_1 := Blk.past hb1 bx_n
    clear b_0 bx_n hX1 hT1 hb1
    have cell_bx := bx_1.cell
    have froz_bx := bx_1.frozen
    have lt_bx := bx_1.lt
    go_wp2
    go_ret
    refine ⟨rfl, b_1.trans ?_⟩
    repeat (first | (with_reducible exact Below.refl _ _) | (with_reducible refine Below.trans ?_ (Below.mono (by assumption) (by first | omega | (simp; done) | (simp; omega) | (simp [*]; done)))) | (with_reducible refine Below.alloc ?_ (by first | omega | (simp; done) | (simp; omega) | (simp [*]; done)) _) | (with_reducible refine Below.setCell ?_ (by first | omega | (simp; done) | (simp; omega) | (simp [*]; done)) _) | (with_reducible refine Below.drew ?_) | (with_reducible refine below_drewN ?_))
  cases p3 : tksOkB ts
  · skip
    have HF := hid (HNO.out fun h => by have := h.2.2.1; rw [← tksOkB_iff, p3] at this; cases this)
    rw [← HF.out]
    rw [p1] at hP
    rw [p3] at hT
    have HP := hid hP
    have HT := hid hT
    clear hP hT
    go_enter Tryd.func12, Tryd.ntmps12
    have b_0 := (Below.refl w.heap.size w)
    have s_0 := b_0.size
    have at__0 := h2
    clear h2
    go_wp2_with fail
    refine calls_forget1 (W := w) (b0 := w.heap.size) (t0 := 34) (c0 := #[.int .i64 z, .int .i64 n, .int .i64 b, .slice J nj cj, .slice T nt ct, .slice F nf cf]) ?_ ?_ ?_
    (focus (first | ((repeat (first | (with_reducible assumption) | (with_reducible apply Blk.drew) | (with_reducible apply Blk.drewN) | (with_reducible apply Blk.new; first | rfl | (simp; done)) | (with_reducible apply Blk.alloc) | (with_reducible apply Blk.set_) | (with_reducible apply Blk.past; focus assumption) | (with_reducible apply Blk.far; focus (first | (simp; done) | (simp; omega) | (dsimp only; omega))))); done) | (apply Blk.cast; (case h => (repeat (first | (with_reducible assumption) | (with_reducible apply Blk.drew) | (with_reducible apply Blk.drewN) | (with_reducible apply Blk.new; first | rfl | (simp; done)) | (with_reducible apply Blk.alloc) | (with_reducible apply Blk.set_) | (with_reducible apply Blk.past; focus assumption) | (with_reducible apply Blk.far; focus (first | (simp; done) | (simp; omega) | (dsimp only; omega)))))); (case e => rfl))))
    (focus (repeat (first | (with_reducible exact Below.refl _ _) | (with_reducible refine Below.trans ?_ (Below.mono (by assumption) (by first | omega | (simp; done) | (simp; omega) | (simp [*]; done)))) | (with_reducible refine Below.alloc ?_ (by first | omega | (simp; done) | (simp; omega) | (simp [*]; done)) _) | (with_reducible refine Below.setCell ?_ (by first | omega | (simp; done) | (simp; omega) | (simp [*]; done)) _) | (with_reducible refine Below.drew ?_) | (with_reducible refine below_drewN ?_))))
    intro X1 bx_n hX1
    have sX1 := hX1.size
    have bx_lt := bx_n.lt
    refine (HP.out _).mono ?_
    rintro e w1 ⟨rfl, hb1⟩
    have s1 := hb1.size
    have hT1 := hX1.trans (hb1.mono sX1)
    have b_1 := b_0.trans (hT1.mono (by omega))
    have at__1 := cells_below at__0 hT1 (by omega)
    have bx_1 := Blk.past hb1 bx_n
    clear at__0 b_0 bx_n hX1 hT1 hb1
    have cell_bx := bx_1.cell
    have froz_bx := bx_1.frozen
    have lt_bx := bx_1.lt
    go_wp2_with fail
    refine calls_forget0 (W := w1) ?_ ?_
    (focus (repeat (first | (with_reducible exact Below.refl _ _) | (with_reducible refine Below.trans ?_ (Below.mono (by assumption) (by first | omega | (simp; done) | (simp; omega) | (simp [*]; done)))) | (with_reducible refine Below.alloc ?_ (by first | omega | (simp; done) | (simp; omega) | (simp [*]; done)) _) | (with_reducible refine Below.setCell ?_ (by first | omega | (simp; done) | (simp; omega) | (simp [*]; done)) _) | (with_reducible refine Below.drew ?_) | (with_reducible refine below_drewN ?_))))
    intro X2 hX2
    have sX2 := hX2.size
    refine (HT.out _ ((cells_below at__1 hX2 (by omega)).more (by omega))).mono ?_
    rintro e w2 ⟨rfl, hb2⟩
    have s2 := hb2.size
    have hT2 := hX2.trans (hb2.mono sX2)
    have b_2 := b_1.trans (hT2.mono (by omega))
    have at__2 := cells_below at__1 hT2 (by omega)
    have bx_2 := Blk.past hT2 bx_1
    clear at__1 bx_1 b_1 cell_bx froz_bx lt_bx hX2 hT2 hb2
    have cell_bx := bx_2.cell
    have froz_bx := bx_2.frozen
    have lt_bx := bx_2.lt
    go_wp2
    go_ret
    refine ⟨rfl, b_2.trans ?_⟩
    repeat (first | (with_reducible exact Below.refl _ _) | (with_reducible refine Below.trans ?_ (Below.mono (by assumption) (by first | omega | (simp; done) | (simp; omega) | (simp [*]; done)))) | (with_reducible refine Below.alloc ?_ (by first | omega | (simp; done) | (simp; omega) | (simp [*]; done)) _) | (with_reducible refine Below.setCell ?_ (by first | omega | (simp; done) | (simp; omega) | (simp [*]; done)) _) | (with_reducible refine Below.drew ?_) | (with_reducible refine below_drewN ?_))
  · skip
    rw [p1] at hP
    rw [p3] at hT
    have HP := hid hP
    have HT := hid hT
    have HA1 := hid h1
    have HA2 := hid h2
    clear hP hT h1
    have hmm := @run_makeMap Tryd.prog
    go_enter Tryd.func12, Tryd.ntmps12
    have b_0 := (Below.refl w.heap.size w)
    have s_0 := b_0.size
    have at__0 := h2
    clear h2
    go_wp2_with fail
    refine calls_forget1 (W := w) (b0 := w.heap.size) (t0 := 34) (c0 := #[.int .i64 z, .int .i64 n, .int .i64 b, .slice J nj cj, .slice T nt ct, .slice F nf cf]) ?_ ?_ ?_
    (focus (first | ((repeat (first | (with_reducible assumption) | (with_reducible apply Blk.drew) | (with_reducible apply Blk.drewN) | (with_reducible apply Blk.new; first | rfl | (simp; done)) | (with_reducible apply Blk.alloc) | (with_reducible apply Blk.set_) | (with_reducible apply Blk.past; focus assumption) | (with_reducible apply Blk.far; focus (first | (simp; done) | (simp; omega) | (dsimp only; omega))))); done) | (apply Blk.cast; (case h => (repeat (first | (with_reducible assumption) | (with_reducible apply Blk.drew) | (with_reducible apply Blk.drewN) | (with_reducible apply Blk.new; first | rfl | (simp; done)) | (with_reducible apply Blk.alloc) | (with_reducible apply Blk.set_) | (with_reducible apply Blk.past; focus assumption) | (with_reducible apply Blk.far; focus (first | (simp; done) | (simp; omega) | (dsimp only; omega)))))); (case e => rfl))))
    (focus (repeat (first | (with_reducible exact Below.refl _ _) | (with_reducible refine Below.trans ?_ (Below.mono (by assumption) (by first | omega | (simp; done) | (simp; omega) | (simp [*]; done)))) | (with_reducible refine Below.alloc ?_ (by first | omega | (simp; done) | (simp; omega) | (simp [*]; done)) _) | (with_reducible refine Below.setCell ?_ (by first | omega | (simp; done) | (simp; omega) | (simp [*]; done)) _) | (with_reducible refine Below.drew ?_) | (with_reducible refine below_drewN ?_))))
    intro X1 bx_n hX1
    have sX1 := hX1.size
    have bx_lt := bx_n.lt
    refine (HP.out _).mono ?_
    rintro e w1 ⟨rfl, hb1⟩
    have s1 := hb1.size
    have hT1 := hX1.trans (hb1.mono sX1)
    have b_1 := b_0.trans (hT1.mono (by omega))
    have at__1 := cells_below at__0 hT1 (by omega)
    have bx_1 := Blk.past hb1 bx_n
    clear at__0 b_0 bx_n hX1 hT1 hb1
    have cell_bx := bx_1.cell
    have froz_bx := bx_1.frozen
    have lt_bx := bx_1.lt
    go_wp2_with fail
    refine calls_forget0 (W := w1) ?_ ?_
    (focus (repeat (first | (with_reducible exact Below.refl _ _) | (with_reducible refine Below.trans ?_ (Below.mono (by assumption) (by first | omega | (simp; done) | (simp; omega) | (simp [*]; done)))) | (with_reducible refine Below.alloc ?_ (by first | omega | (simp; done) | (simp; omega) | (simp [*]; done)) _) | (with_reducible refine Below.setCell ?_ (by first | omega | (simp; done) | (simp; omega) | (simp [*]; done)) _) | (with_reducible refine Below.drew ?_) | (with_reducible refine below_drewN ?_))))
    intro X2 hX2
    have sX2 := hX2.size
    refine (HT.out _ ((cells_below at__1 hX2 (by omega)).more (by omega))).mono ?_
    rintro e w2 ⟨rfl, hb2⟩
    have s2 := hb2.size
    have hT2 := hX2.trans (hb2.mono sX2)
    have b_2 := b_1.trans (hT2.mono (by omega))
    have at__2 := cells_below at__1 hT2 (by omega)
    have bx_2 := Blk.past hT2 bx_1
    clear at__1 bx_1 b_1 cell_bx froz_bx lt_bx hX2 hT2 hb2
    have cell_bx := bx_2.cell
    have froz_bx := bx_2.frozen
    have lt_bx := bx_2.lt
    clear at__2
    have HB := hid b_2
    have HBX := hid bx_2
    clear b_2 bx_2 froz_bx
    go_wp2
    have hmb := HBX.out.lt
    go_loopw [28] (fun i wr => ∃ (k : Nat) (P : Int → Bool), k ≤ nj ∧ i = .int .i64 k ∧ Below w.heap.size w wr ∧ Blk wr w.heap.size 34 #[.int .i64 z, .int .i64 n, .int .i64 b, .slice J nj cj, .slice T nt ct, .slice F nf cf] ∧ Seen Tryd.prog 3 4 wr w2.heap.size k P ∧ (∀ y, P y = true ↔ ∃ q j, q < k ∧ js[q]? = some j ∧ j.i = y) ∧ (∀ q j, q < k → js[q]? = some j → jbIn j = true) ∧ (∀ (i q : Nat) (j x : Jb), i < k → js[i]? = some j → js[q]? = some x → q < i → x.i ≠ j.i)) (fun i _ => nj - (intOf i).toNat)
    case atStart =>
      refine ⟨0, fun _ => false, Nat.zero_le _, rfl, ?_, HBX.out.alloc _, Seen.made rfl, fun y => ⟨fun h => (by cases h), fun ⟨q, _, h, _⟩ => absurd h (by omega)⟩, fun q _ h => absurd h (by omega), fun i _ _ _ h => absurd h (by omega)⟩
      have hb := HB.out
      repeat (first | (with_reducible exact Below.refl _ _) | (with_reducible refine Below.trans ?_ (Below.mono (by assumption) (by first | omega | (simp; done) | (simp; omega) | (simp [*]; done)))) | (with_reducible refine Below.alloc ?_ (by first | omega | (simp; done) | (simp; omega) | (simp [*]; done)) _) | (with_reducible refine Below.setCell ?_ (by first | omega | (simp; done) | (simp; omega) | (simp [*]; done)) _) | (with_reducible refine Below.drew ?_) | (with_reducible refine below_drewN ?_))
    case round =>
      obtain ⟨k, P, hk, rfl, hb, kb, hs, hP, hin, hap⟩ := hrel
      have HBr := hid hb
      have HKB := hid kb
      have HS := hid hs
      have HPP := hid hP
      have HI := hid hin
      have HAP := hid hap
      have zr := hb.size
      have hsl := hs.lt
      by_cases hlt : k < nj
      · skip
        obtain ⟨j, hj⟩ : ∃ j, js[k]? = some j := ⟨_, List.getElem?_eq_getElem (by have := HJ.out; omega)⟩
        obtain ⟨bb, off, rfl, hB, c0, c1, c2, c3⟩ := jb_cells HA1.out hj
        have d0 : wr.cell? ⟨bb, off + k * 4, none⟩ = some (.int .i64 j.i) := (hb.cell (p := ⟨bb, off + k * 4, none⟩) hB).trans c0
        have d1 : wr.cell? ⟨bb, off + k * 4 + 1, none⟩ = some (.int .i64 j.n) := (hb.cell (p := ⟨bb, off + k * 4 + 1, none⟩) hB).trans c1
        have d2 : wr.cell? ⟨bb, off + k * 4 + 2, none⟩ = some (.int .i64 j.l) := (hb.cell (p := ⟨bb, off + k * 4 + 2, none⟩) hB).trans c2
        have d3 : wr.cell? ⟨bb, off + k * 4 + 3, none⟩ = some (.int .i64 j.d) := (hb.cell (p := ⟨bb, off + k * 4 + 3, none⟩) hB).trans c3
        have hBr : bb < wr.heap.size := by omega
        have HJJ := hid hj
        obtain ⟨⟨ji, jn, jl, jd⟩, rfl⟩ : ∃ q : Jb, q = j := ⟨j, rfl⟩
        dsimp only at d0 d1 d2 d3
        clear hb kb hs hP hin hap hj c0 c1 c2 c3
        have HW := hid (jb_way ⟨ji, jn, jl, jd⟩)
        have HF := fun (h : jbIn ⟨ji, jn, jl, jd⟩ = false) => hid (HNO.out fun h' => by
          have := h'.2.2.2.1.1 _ (List.mem_of_getElem? HJJ.out)
          rw [h] at this
          cases this)
        have HF2 := fun (h : P ji = true) => hid (HNO.out fun h' => by
          obtain ⟨q, x, hq, hx, e⟩ := (HPP.out ji).1 h
          exact h'.2.2.2.1.2 k q _ x HJJ.out hx hq e)
        rcases HW.out with hy | hy | ⟨hy1, hy⟩ | ⟨hy1, hy2, hy⟩ | ⟨hy1, hy2, hy3, hy⟩
        · skip
          have hyy := hy
          unfold jbIn at hyy
          simp only [Bool.and_eq_true] at hyy
          obtain ⟨⟨⟨y1, y2⟩, y3⟩, y4⟩ := hyy
          have HWF := hid (WalkArith.wf_i64 (show -9223372036854775808 ≤ ji ∧ ji ≤ 9223372036854775807 by have := inB_iff.1 y1; omega))
          cases hp : P ji
          · skip
            have HP2 := hid hp
            have HY := hid hy
            clear hy HF HF2
            go_wp2_with (first | (go_at_call 29; refine (iWithin _ _ _ _).mono ?_; rintro e w' ⟨rfl, rfl⟩) | (at_lookup; refine wpList_open (by rfl) ?_; refine wpList_lookup_seen rfl _ _ 66 rfl Tryd.underlying66 Tryd.underlying3 Tryd.underlying4 (by kernel_rfl) rfl (by (repeat (first | (with_reducible exact HS.out) | (with_reducible apply Seen.drew) | (with_reducible apply Seen.alloc) | (with_reducible refine Seen.set_ ?_ _ _ (by dsimp only; omega))))) _ rfl HWF.out ?_) | (at_mapUpdate; refine wpList_update_seen rfl _ _ _ 66 rfl Tryd.underlying66 Tryd.underlying3 Tryd.underlying4 rfl (by (repeat (first | (with_reducible exact HS.out) | (with_reducible apply Seen.drew) | (with_reducible apply Seen.alloc) | (with_reducible refine Seen.set_ ?_ _ _ (by dsimp only; omega))))) (by unfold maxLen; omega) _ rfl rfl HWF.out ?_; intro w3 hs3 hg3))
            go_roundw
            case rel =>
              have hb := HBr.out
              have kb := HKB.out
              refine ⟨k + 1, _, by omega, by go_num, ?_, ?_, hs3, ?_, ?_, ?_⟩
              · refine gr_below hg3 (?_ : Below w.heap.size w _) (by simp; omega) (fun q hq => by cases hq; omega)
                repeat (first | (with_reducible exact Below.refl _ _) | (with_reducible refine Below.trans ?_ (Below.mono (by assumption) (by first | omega | (simp; done) | (simp; omega) | (simp [*]; done)))) | (with_reducible refine Below.alloc ?_ (by first | omega | (simp; done) | (simp; omega) | (simp [*]; done)) _) | (with_reducible refine Below.setCell ?_ (by first | omega | (simp; done) | (simp; omega) | (simp [*]; done)) _) | (with_reducible refine Below.drew ?_) | (with_reducible refine below_drewN ?_))
              · refine gr_blk hg3 (?_ : Blk _ w.heap.size _ _) (fun q hq => by cases hq; omega)
                repeat (first | (with_reducible assumption) | (with_reducible apply Blk.drew) | (with_reducible apply Blk.drewN) | (with_reducible apply Blk.new; first | rfl | (simp; done)) | (with_reducible apply Blk.alloc) | (with_reducible apply Blk.set_) | (with_reducible apply Blk.past; focus assumption) | (with_reducible apply Blk.far; focus (first | (simp; done) | (simp; omega) | (dsimp only; omega))))
              · intro y
                rw [Bool.or_eq_true, HPP.out y, decide_eq_true_iff]
                constructor
                · rintro (⟨q, x, hq, hx, e⟩ | e)
                  · exact ⟨q, x, by omega, hx, e⟩
                  · exact ⟨k, _, by omega, HJJ.out, e.symm⟩
                · rintro ⟨q, x, hq, hx, e⟩
                  by_cases hqk : q < k
                  · exact Or.inl ⟨q, x, hqk, hx, e⟩
                  · obtain rfl : q = k := by omega
                    rw [HJJ.out] at hx
                    cases hx
                    exact Or.inr e.symm
              · intro q x hq hx
                by_cases hqk : q < k
                · exact HI.out q x hqk hx
                · obtain rfl : q = k := by omega
                  rw [HJJ.out] at hx
                  cases hx
                  exact HY.out
              · intro i q j x hi hij hqx hqi
                by_cases hik : i < k
                · exact HAP.out i q j x hik hij hqx hqi
                · obtain rfl : i = k := by omega
                  rw [HJJ.out] at hij
                  cases hij
                  intro e
                  have := (HPP.out ji).2 ⟨q, x, hqi, hqx, e⟩
                  rw [HP2.out] at this
                  cases this
            case measure => simp [intOf]; omega
          · skip
            have HG := HF2 hp
            clear HF HF2
            go_wp2_with (first | (go_at_call 29; refine (iWithin _ _ _ _).mono ?_; rintro e w' ⟨rfl, rfl⟩) | (at_lookup; refine wpList_open (by rfl) ?_; refine wpList_lookup_seen rfl _ _ 66 rfl Tryd.underlying66 Tryd.underlying3 Tryd.underlying4 (by kernel_rfl) rfl (by (repeat (first | (with_reducible exact HS.out) | (with_reducible apply Seen.drew) | (with_reducible apply Seen.alloc) | (with_reducible refine Seen.set_ ?_ _ _ (by dsimp only; omega))))) _ rfl HWF.out ?_))
            go_ret
            refine ⟨ret_bool HG.out, ?_⟩
            have hb := HBr.out
            repeat (first | (with_reducible exact Below.refl _ _) | (with_reducible refine Below.trans ?_ (Below.mono (by assumption) (by first | omega | (simp; done) | (simp; omega) | (simp [*]; done)))) | (with_reducible refine Below.alloc ?_ (by first | omega | (simp; done) | (simp; omega) | (simp [*]; done)) _) | (with_reducible refine Below.setCell ?_ (by first | omega | (simp; done) | (simp; omega) | (simp [*]; done)) _) | (with_reducible refine Below.drew ?_) | (with_reducible refine below_drewN ?_))
        · skip
          have HG := HF (by simp only [jbIn, hy, Bool.false_and])
          clear HF HF2
          go_wp2_with (first | (go_at_call 29; refine (iWithin _ _ _ _).mono ?_; rintro e w' ⟨rfl, rfl⟩))
          go_ret
          refine ⟨ret_bool HG.out, ?_⟩
          have hb := HBr.out
          repeat (first | (with_reducible exact Below.refl _ _) | (with_reducible refine Below.trans ?_ (Below.mono (by assumption) (by first | omega | (simp; done) | (simp; omega) | (simp [*]; done)))) | (with_reducible refine Below.alloc ?_ (by first | omega | (simp; done) | (simp; omega) | (simp [*]; done)) _) | (with_reducible refine Below.setCell ?_ (by first | omega | (simp; done) | (simp; omega) | (simp [*]; done)) _) | (with_reducible refine Below.drew ?_) | (with_reducible refine below_drewN ?_))
        all_goals
          have HG := HF (by simp only [jbIn, hy, Bool.and_false, Bool.false_and])
          have HWF := hid (WalkArith.wf_i64 (show -9223372036854775808 ≤ ji ∧ ji ≤ 9223372036854775807 by have hz := inB_iff.1 hy1; dsimp only at hz; omega))
          clear HF HF2
          cases hp : P ji
          all_goals
            go_wp2_with (first | (go_at_call 29; refine (iWithin _ _ _ _).mono ?_; rintro e w' ⟨rfl, rfl⟩) | (at_lookup; refine wpList_open (by rfl) ?_; refine wpList_lookup_seen rfl _ _ 66 rfl Tryd.underlying66 Tryd.underlying3 Tryd.underlying4 (by kernel_rfl) rfl (by (repeat (first | (with_reducible exact HS.out) | (with_reducible apply Seen.drew) | (with_reducible apply Seen.alloc) | (with_reducible refine Seen.set_ ?_ _ _ (by dsimp only; omega))))) _ rfl HWF.out ?_))
            go_ret
            refine ⟨ret_bool HG.out, ?_⟩
            have hb := HBr.out
            repeat (first | (with_reducible exact Below.refl _ _) | (with_reducible refine Below.trans ?_ (Below.mono (by assumption) (by first | omega | (simp; done) | (simp; omega) | (simp [*]; done)))) | (with_reducible refine Below.alloc ?_ (by first | omega | (simp; done) | (simp; omega) | (simp [*]; done)) _) | (with_reducible refine Below.setCell ?_ (by first | omega | (simp; done) | (simp; omega) | (simp [*]; done)) _) | (with_reducible refine Below.drew ?_) | (with_reducible refine below_drewN ?_))
      · obtain rfl : k = nj := by omega
        have HJS : Hid (jbsOk js) := hid ⟨fun j hj => by
          obtain ⟨q, hq⟩ := List.getElem?_of_mem hj
          exact HI.out q j (by have := (List.getElem?_eq_some_iff.1 hq).1; have := HJ.out; omega) hq, fun i q j x hi hq hqi => HAP.out i q j x (by have := (List.getElem?_eq_some_iff.1 hi).1; have := HJ.out; omega) hi hq hqi⟩
        have cell_b := kb.cell
        clear hb kb hs hP hin hap HPP HI HAP HS cell_bx
        go_wp2
        go_loopw [67] (fun i wx => ∃ m : Nat, m ≤ nt ∧ i = .int .i64 m ∧ Below w.heap.size w wx ∧ Blk wx w.heap.size 34 #[.int .i64 z, .int .i64 n, .int .i64 b, .slice J k cj, .slice T nt ct, .slice F nf cf] ∧ ∀ q t, q < m → ts[q]? = some t → t.f + t.c ≤ n) (fun i _ => nt - (intOf i).toNat)
        case atStart => exact ⟨0, Nat.zero_le _, rfl, HBr.out, HKB.out, fun q _ h => absurd h (by omega)⟩
        case round =>
          obtain ⟨m, hm, rfl, hb, kb, hle⟩ := hrel
          have HBr := hid hb
          have HKB := hid kb
          have HLE := hid hle
          have zr := hb.size
          have cell_b := kb.cell
          have froz_b := kb.frozen
          have lt_b := kb.lt
          by_cases hlt2 : m < nt
          · skip
            obtain ⟨t, ht⟩ : ∃ t, ts[m]? = some t := ⟨_, List.getElem?_eq_getElem (by have := HN.out; omega)⟩
            obtain ⟨bb, off, rfl, hB, c0, c1⟩ := tk_cells HA2.out ht
            have d0 : wr.cell? ⟨bb, off + m * 2, none⟩ = some (.int .i64 t.f) := (hb.cell (p := ⟨bb, off + m * 2, none⟩) hB).trans c0
            have d1 : wr.cell? ⟨bb, off + m * 2 + 1, none⟩ = some (.int .i64 t.c) := (hb.cell (p := ⟨bb, off + m * 2 + 1, none⟩) hB).trans c1
            obtain ⟨⟨t1, t2⟩, t3, t4⟩ := tkIn_at (tksOkB_iff.1 p3).2.1 ht
            have hBr : bb < wr.heap.size := by omega
            have HTT := hid ht
            clear hb kb hle ht c0 c1
            by_cases hgt : n < t.f + t.c
            · go_wp2
              go_ret
              refine ⟨ret_bool (HNO.out fun h => ?_), ?_⟩
              · have h1 := h.2.2.2.2 t (List.mem_of_getElem? HTT.out)
                dsimp only at h1
                omega
              · have hb := HBr.out
                repeat (first | (with_reducible exact Below.refl _ _) | (with_reducible refine Below.trans ?_ (Below.mono (by assumption) (by first | omega | (simp; done) | (simp; omega) | (simp [*]; done)))) | (with_reducible refine Below.alloc ?_ (by first | omega | (simp; done) | (simp; omega) | (simp [*]; done)) _) | (with_reducible refine Below.setCell ?_ (by first | omega | (simp; done) | (simp; omega) | (simp [*]; done)) _) | (with_reducible refine Below.drew ?_) | (with_reducible refine below_drewN ?_))
            · go_wp2
              go_roundw
              case rel =>
                have hb := HBr.out
                have kb := HKB.out
                refine ⟨m + 1, by omega, by go_num, ?_, ?_, ?_⟩
                · repeat (first | (with_reducible exact Below.refl _ _) | (with_reducible refine Below.trans ?_ (Below.mono (by assumption) (by first | omega | (simp; done) | (simp; omega) | (simp [*]; done)))) | (with_reducible refine Below.alloc ?_ (by first | omega | (simp; done) | (simp; omega) | (simp [*]; done)) _) | (with_reducible refine Below.setCell ?_ (by first | omega | (simp; done) | (simp; omega) | (simp [*]; done)) _) | (with_reducible refine Below.drew ?_) | (with_reducible refine below_drewN ?_))
                · repeat (first | (with_reducible assumption) | (with_reducible apply Blk.drew) | (with_reducible apply Blk.drewN) | (with_reducible apply Blk.new; first | rfl | (simp; done)) | (with_reducible apply Blk.alloc) | (with_reducible apply Blk.set_) | (with_reducible apply Blk.past; focus assumption) | (with_reducible apply Blk.far; focus (first | (simp; done) | (simp; omega) | (dsimp only; omega))))
                · intro q x hq hx
                  by_cases hqm : q < m
                  · exact HLE.out q x hqm hx
                  · obtain rfl : q = m := by omega
                    rw [HTT.out] at hx
                    cases hx
                    omega
              case measure => simp [intOf]; omega
          · obtain rfl : m = nt := by omega
            clear hb kb hle
            go_wp2
            go_ret
            refine ⟨ret_bool ?_, HBr.out⟩
            rw [← HR.out, schedOkB_yes]
            refine ⟨p1, by have := HJ.out; dsimp only; omega, tksOkB_iff.1 p3, HJS.out, fun t ht => ?_⟩
            obtain ⟨q, hq⟩ := List.getElem?_of_mem ht
            exact HLE.out q t (by have := (List.getElem?_eq_some_iff.1 hq).1; have := HN.out; dsimp only at *; omega) hq
end Go.Proofs.YtcdodfekclkonaaDoor
/- SchedOk of the reference. -/
namespace Go.Proofs.YtcdodfekclkonaaDoor
open Go.RowKit

end Go.Proofs.YtcdodfekclkonaaDoor
