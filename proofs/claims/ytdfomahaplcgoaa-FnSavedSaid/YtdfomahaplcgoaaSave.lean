/- Save, in the program and in the reference. -/
import Derived.Test.YtdfomahaplcgoaaLoad
import Derived.Test.YtdfomahaplcgoaaMem
import Derived.Outline
namespace Go.Proofs.Ytdfomahaplcgoaa
open Go.RowKit

def saveB (k n : Int) (xs : List Int) : Bool := vaultOkB k n && !(n == 100000) && askB xs
def saveL (k n : Int) (xs : List Int) : List Int := if saveB k n xs then sealL k n xs else []
def GivesSave (w : World) (k n : Int) (xs : List Int) (e : Ending) (w' : World) : Prop :=
  ∃ A c, e = .returned (.tuple #[.agg #[.int .i64 k, .int .i64 (pick (saveB k n xs) (n + 1) n)],
      .agg #[.int .i64 (pick (saveB k n xs) n 0), .slice A (saveL k n xs).length c, .int .i64 (pick (saveB k n xs) (tagI k n (saveL k n xs)) 0)], .bool (saveB k n xs)]) ∧
    w'.ownsRow w.heap.size 3 1 (.slice A (saveL k n xs).length c) (saveL k n xs).length (ints (saveL k n xs)) ∧ Below w.heap.size w w'
theorem seal_ask' {k n : Int} {xs : List Int} (h1 : vaultOkB k n = true) : sealB k n xs = askB xs := by
  unfold vaultOkB at h1
  simp only [Bool.and_eq_true] at h1
  unfold sealB askB
  rw [h1.1, h1.2]
  simp
theorem saveB_no (k n : Int) (xs : List Int) (h : saveB k n xs = false) (w w' : World) (hb : Below w.heap.size w w') (e : Ending)
    (he : e = .returned (.tuple #[.agg #[.int .i64 k, .int .i64 n], .agg #[.int .i64 0, .slice none 0 0, .int .i64 0], .bool false])) : GivesSave w k n xs e w' := by
  have e1 : saveL k n xs = [] := by unfold saveL; rw [h]; rfl
  refine ⟨none, 0, ?_, ?_, hb⟩
  · rw [he, h, e1]; rfl
  · rw [e1]; exact World.ownsRow_nil _ _ _ _
set_option maxHeartbeats 1600000 in
theorem iSave (k n : Int) (A : Option Addr) (c : Nat) (xs : List Int) (w : World) (hc : Cells w w.heap.size A (ints xs)) (hl : xs.length ≤ 1000000000) :
    Calls Try.prog 25 #[.agg #[.int .i64 k, .int .i64 n], .slice A xs.length c] w (GivesSave w k n xs) := by
  cases h1 : vaultOkB k n; rotate_left
  cases h2 : (n == 100000)
  cases h4 : sealB k n xs
  · have hn := inB_iff.1 (show inB n 0 100000 = true by unfold vaultOkB at h1; simp only [Bool.and_eq_true] at h1; exact h1.2)
    have hR : saveB k n xs = false := by unfold saveB; rw [← seal_ask' h1, h4]; simp
    have HR := hid hR
    clear hR
    go_enter Try.func25, Try.ntmps25
    have b_0 := (Below.refl w.heap.size w)
    have s_0 := b_0.size
    have x_0 := hc
    clear hc
    go_wp2_with fail
    refine calls_forget3 (W := w) (b0 := w.heap.size) (t0 := 39) (c0 := #[.int .i64 k, .int .i64 n]) (b1 := w.heap.size + 1) (t1 := 39) (c1 := #[.int .i64 0, .int .i64 0]) (b2 := w.heap.size + 2) (t2 := 49) (c2 := #[.int .i64 0, .slice none 0 0, .int .i64 0]) ?_ ?_ ?_ ?_ ?_
    (focus (first | ((repeat (first | (with_reducible assumption) | (with_reducible apply Blk.drew) | (with_reducible apply Blk.new; first | rfl | (simp; done)) | (with_reducible apply Blk.alloc) | (with_reducible apply Blk.set_) | (with_reducible apply Blk.past; focus assumption) | (with_reducible apply Blk.far; focus (first | (simp; done) | (simp; omega) | (dsimp only; omega))))); done) | (apply Blk.cast; (case h => (repeat (first | (with_reducible assumption) | (with_reducible apply Blk.drew) | (with_reducible apply Blk.new; first | rfl | (simp; done)) | (with_reducible apply Blk.alloc) | (with_reducible apply Blk.set_) | (with_reducible apply Blk.past; focus assumption) | (with_reducible apply Blk.far; focus (first | (simp; done) | (simp; omega) | (dsimp only; omega)))))); (case e => rfl))))
    (focus (first | ((repeat (first | (with_reducible assumption) | (with_reducible apply Blk.drew) | (with_reducible apply Blk.new; first | rfl | (simp; done)) | (with_reducible apply Blk.alloc) | (with_reducible apply Blk.set_) | (with_reducible apply Blk.past; focus assumption) | (with_reducible apply Blk.far; focus (first | (simp; done) | (simp; omega) | (dsimp only; omega))))); done) | (apply Blk.cast; (case h => (repeat (first | (with_reducible assumption) | (with_reducible apply Blk.drew) | (with_reducible apply Blk.new; first | rfl | (simp; done)) | (with_reducible apply Blk.alloc) | (with_reducible apply Blk.set_) | (with_reducible apply Blk.past; focus assumption) | (with_reducible apply Blk.far; focus (first | (simp; done) | (simp; omega) | (dsimp only; omega)))))); (case e => rfl))))
    (focus (first | ((repeat (first | (with_reducible assumption) | (with_reducible apply Blk.drew) | (with_reducible apply Blk.new; first | rfl | (simp; done)) | (with_reducible apply Blk.alloc) | (with_reducible apply Blk.set_) | (with_reducible apply Blk.past; focus assumption) | (with_reducible apply Blk.far; focus (first | (simp; done) | (simp; omega) | (dsimp only; omega))))); done) | (apply Blk.cast; (case h => (repeat (first | (with_reducible assumption) | (with_reducible apply Blk.drew) | (with_reducible apply Blk.new; first | rfl | (simp; done)) | (with_reducible apply Blk.alloc) | (with_reducible apply Blk.set_) | (with_reducible apply Blk.past; focus assumption) | (with_reducible apply Blk.far; focus (first | (simp; done) | (simp; omega) | (dsimp only; omega)))))); (case e => rfl))))
    (focus (repeat (first | (with_reducible exact Below.refl _ _) | (with_reducible refine Below.trans ?_ (Below.mono (by assumption) (by first | omega | (simp; done) | (simp; omega) | (simp [*]; done)))) | (with_reducible refine Below.alloc ?_ (by first | omega | (simp; done) | (simp; omega) | (simp [*]; done)) _) | (with_reducible refine Below.setCell ?_ (by first | omega | (simp; done) | (simp; omega) | (simp [*]; done)) _) | (with_reducible refine Below.drew ?_))))
    intro X1 v_n r0_n r1_n hX1
    have sX1 := hX1.size
    have v_lt := v_n.lt
    have r0_lt := r0_n.lt
    have r1_lt := r1_n.lt
    refine (iVaultOk _ _ _).mono ?_
    rintro e w1 ⟨rfl, hb1⟩
    have s1 := hb1.size
    have hT1 := hX1.trans (hb1.mono sX1)
    have b_1 := b_0.trans (hT1.mono (by omega))
    have x_1 := cells_below x_0 hT1 (by omega)
    have v_1 := Blk.past hb1 v_n
    have r0_1 := Blk.past hb1 r0_n
    have r1_1 := Blk.past hb1 r1_n
    clear x_0 v_n r0_n r1_n b_0 hT1 hX1 hb1
    have cell_v := v_1.cell
    have froz_v := v_1.frozen
    have lt_v := v_1.lt
    have cell_r0 := r0_1.cell
    have froz_r0 := r0_1.frozen
    have lt_r0 := r0_1.lt
    have cell_r1 := r1_1.cell
    have froz_r1 := r1_1.frozen
    have lt_r1 := r1_1.lt
    go_wp2_with fail
    refine calls_forget0 (W := w1) ?_ ?_
    (focus (repeat (first | (with_reducible exact Below.refl _ _) | (with_reducible refine Below.trans ?_ (Below.mono (by assumption) (by first | omega | (simp; done) | (simp; omega) | (simp [*]; done)))) | (with_reducible refine Below.alloc ?_ (by first | omega | (simp; done) | (simp; omega) | (simp [*]; done)) _) | (with_reducible refine Below.setCell ?_ (by first | omega | (simp; done) | (simp; omega) | (simp [*]; done)) _) | (with_reducible refine Below.drew ?_))))
    intro X2 hX2
    have sX2 := hX2.size
    refine (iMay _ _ _ _ _ _ ((cells_below x_1 hX2 (by omega)).more (by omega)) hl).mono ?_
    rintro e w' ⟨rfl, rfl⟩
    have b_2 := b_1.trans (hX2.mono (by omega))
    have x_2 := cells_below x_1 hX2 (by omega)
    have v_2 := Blk.past hX2 v_1
    have r0_2 := Blk.past hX2 r0_1
    have r1_2 := Blk.past hX2 r1_1
    clear x_1 v_1 r0_1 r1_1 b_1 cell_v froz_v lt_v cell_r0 froz_r0 lt_r0 cell_r1 froz_r1 lt_r1 hX2
    have cell_v := v_2.cell
    have froz_v := v_2.frozen
    have lt_v := v_2.lt
    have cell_r0 := r0_2.cell
    have froz_r0 := r0_2.frozen
    have lt_r0 := r0_2.lt
    have cell_r1 := r1_2.cell
    have froz_r1 := r1_2.frozen
    have lt_r1 := r1_2.lt
    go_wp2
    ((try simp only [Exit.inBlock, Exit.then]); apply bodyPost_ret0; focus ((try simp only [results, Try.results25]); (try go_simp); (try rfl)))
    refine saveB_no _ _ _ HR.out _ _ ?_ _ rfl
    repeat (first | (with_reducible exact Below.refl _ _) | (with_reducible refine Below.trans ?_ (Below.mono (by assumption) (by first | omega | (simp; done) | (simp; omega) | (simp [*]; done)))) | (with_reducible refine Below.alloc ?_ (by first | omega | (simp; done) | (simp; omega) | (simp [*]; done)) _) | (with_reducible refine Below.setCell ?_ (by first | omega | (simp; done) | (simp; omega) | (simp [*]; done)) _) | (with_reducible refine Below.drew ?_))
  · have hR : saveB k n xs = true := by unfold saveB; rw [h1, h2, ← seal_ask' h1, h4]; rfl
    have HR := hid hR
    have hS : saveL k n xs = sealL k n xs := by unfold saveL; rw [hR]; rfl
    have HS := hid hS
    clear hR hS
    have hn := inB_iff.1 (show inB n 0 100000 = true by unfold vaultOkB at h1; simp only [Bool.and_eq_true] at h1; exact h1.2)
    have hls : (sealL k n xs).length ≤ 1000000000 := by unfold sealL; rw [h4]; simp only [if_true]; rw [sealTo_length]; exact hl
    go_enter Try.func25, Try.ntmps25
    have b_0 := (Below.refl w.heap.size w)
    have s_0 := b_0.size
    have x_0 := hc
    clear hc
    go_wp2_with fail
    refine calls_forget3 (W := w) (b0 := w.heap.size) (t0 := 39) (c0 := #[.int .i64 k, .int .i64 n]) (b1 := w.heap.size + 1) (t1 := 39) (c1 := #[.int .i64 0, .int .i64 0]) (b2 := w.heap.size + 2) (t2 := 49) (c2 := #[.int .i64 0, .slice none 0 0, .int .i64 0]) ?_ ?_ ?_ ?_ ?_
    (focus (first | ((repeat (first | (with_reducible assumption) | (with_reducible apply Blk.drew) | (with_reducible apply Blk.new; first | rfl | (simp; done)) | (with_reducible apply Blk.alloc) | (with_reducible apply Blk.set_) | (with_reducible apply Blk.past; focus assumption) | (with_reducible apply Blk.far; focus (first | (simp; done) | (simp; omega) | (dsimp only; omega))))); done) | (apply Blk.cast; (case h => (repeat (first | (with_reducible assumption) | (with_reducible apply Blk.drew) | (with_reducible apply Blk.new; first | rfl | (simp; done)) | (with_reducible apply Blk.alloc) | (with_reducible apply Blk.set_) | (with_reducible apply Blk.past; focus assumption) | (with_reducible apply Blk.far; focus (first | (simp; done) | (simp; omega) | (dsimp only; omega)))))); (case e => rfl))))
    (focus (first | ((repeat (first | (with_reducible assumption) | (with_reducible apply Blk.drew) | (with_reducible apply Blk.new; first | rfl | (simp; done)) | (with_reducible apply Blk.alloc) | (with_reducible apply Blk.set_) | (with_reducible apply Blk.past; focus assumption) | (with_reducible apply Blk.far; focus (first | (simp; done) | (simp; omega) | (dsimp only; omega))))); done) | (apply Blk.cast; (case h => (repeat (first | (with_reducible assumption) | (with_reducible apply Blk.drew) | (with_reducible apply Blk.new; first | rfl | (simp; done)) | (with_reducible apply Blk.alloc) | (with_reducible apply Blk.set_) | (with_reducible apply Blk.past; focus assumption) | (with_reducible apply Blk.far; focus (first | (simp; done) | (simp; omega) | (dsimp only; omega)))))); (case e => rfl))))
    (focus (first | ((repeat (first | (with_reducible assumption) | (with_reducible apply Blk.drew) | (with_reducible apply Blk.new; first | rfl | (simp; done)) | (with_reducible apply Blk.alloc) | (with_reducible apply Blk.set_) | (with_reducible apply Blk.past; focus assumption) | (with_reducible apply Blk.far; focus (first | (simp; done) | (simp; omega) | (dsimp only; omega))))); done) | (apply Blk.cast; (case h => (repeat (first | (with_reducible assumption) | (with_reducible apply Blk.drew) | (with_reducible apply Blk.new; first | rfl | (simp; done)) | (with_reducible apply Blk.alloc) | (with_reducible apply Blk.set_) | (with_reducible apply Blk.past; focus assumption) | (with_reducible apply Blk.far; focus (first | (simp; done) | (simp; omega) | (dsimp only; omega)))))); (case e => rfl))))
    (focus (repeat (first | (with_reducible exact Below.refl _ _) | (with_reducible refine Below.trans ?_ (Below.mono (by assumption) (by first | omega | (simp; done) | (simp; omega) | (simp [*]; done)))) | (with_reducible refine Below.alloc ?_ (by first | omega | (simp; done) | (simp; omega) | (simp [*]; done)) _) | (with_reducible refine Below.setCell ?_ (by first | omega | (simp; done) | (simp; omega) | (simp [*]; done)) _) | (with_reducible refine Below.drew ?_))))
    intro X1 v_n r0_n r1_n hX1
    have sX1 := hX1.size
    have v_lt := v_n.lt
    have r0_lt := r0_n.lt
    have r1_lt := r1_n.lt
    refine (iVaultOk _ _ _).mono ?_
    rintro e w1 ⟨rfl, hb1⟩
    have s1 := hb1.size
    have hT1 := hX1.trans (hb1.mono sX1)
    have b_1 := b_0.trans (hT1.mono (by omega))
    have x_1 := cells_below x_0 hT1 (by omega)
    have v_1 := Blk.past hb1 v_n
    have r0_1 := Blk.past hb1 r0_n
    have r1_1 := Blk.past hb1 r1_n
    clear x_0 v_n r0_n r1_n b_0 hT1 hX1 hb1
    have cell_v := v_1.cell
    have froz_v := v_1.frozen
    have lt_v := v_1.lt
    have cell_r0 := r0_1.cell
    have froz_r0 := r0_1.frozen
    have lt_r0 := r0_1.lt
    have cell_r1 := r1_1.cell
    have froz_r1 := r1_1.frozen
    have lt_r1 := r1_1.lt
    go_wp2_with fail
    refine calls_forget0 (W := w1) ?_ ?_
    (focus (repeat (first | (with_reducible exact Below.refl _ _) | (with_reducible refine Below.trans ?_ (Below.mono (by assumption) (by first | omega | (simp; done) | (simp; omega) | (simp [*]; done)))) | (with_reducible refine Below.alloc ?_ (by first | omega | (simp; done) | (simp; omega) | (simp [*]; done)) _) | (with_reducible refine Below.setCell ?_ (by first | omega | (simp; done) | (simp; omega) | (simp [*]; done)) _) | (with_reducible refine Below.drew ?_))))
    intro X2 hX2
    have sX2 := hX2.size
    refine (iMay _ _ _ _ _ _ ((cells_below x_1 hX2 (by omega)).more (by omega)) hl).mono ?_
    rintro e w' ⟨rfl, rfl⟩
    have b_2 := b_1.trans (hX2.mono (by omega))
    have x_2 := cells_below x_1 hX2 (by omega)
    have v_2 := Blk.past hX2 v_1
    have r0_2 := Blk.past hX2 r0_1
    have r1_2 := Blk.past hX2 r1_1
    clear x_1 v_1 r0_1 r1_1 b_1 cell_v froz_v lt_v cell_r0 froz_r0 lt_r0 cell_r1 froz_r1 lt_r1 hX2
    have cell_v := v_2.cell
    have froz_v := v_2.frozen
    have lt_v := v_2.lt
    have cell_r0 := r0_2.cell
    have froz_r0 := r0_2.frozen
    have lt_r0 := r0_2.lt
    have cell_r1 := r1_2.cell
    have froz_r1 := r1_2.frozen
    have lt_r1 := r1_2.lt
    go_wp2_with fail
    refine calls_forget0 (W := X2) ?_ ?_
    (focus (repeat (first | (with_reducible exact Below.refl _ _) | (with_reducible refine Below.trans ?_ (Below.mono (by assumption) (by first | omega | (simp; done) | (simp; omega) | (simp [*]; done)))) | (with_reducible refine Below.alloc ?_ (by first | omega | (simp; done) | (simp; omega) | (simp [*]; done)) _) | (with_reducible refine Below.setCell ?_ (by first | omega | (simp; done) | (simp; omega) | (simp [*]; done)) _) | (with_reducible refine Below.drew ?_))))
    intro X3 hX3
    have sX3 := hX3.size
    refine (iSealWords _ _ _ _ _ _ ((cells_below x_2 hX3 (by omega)).more (by omega)) hl).mono ?_
    rintro e w3 ⟨Al, cl, rfl, l_3, hb3⟩
    have s3 := hb3.size
    have hT3 := hX3.trans (hb3.mono sX3)
    have b_3 := b_2.trans (hT3.mono (by omega))
    have x_3 := cells_below x_2 hT3 (by omega)
    have v_3 := Blk.past hT3 v_2
    have r0_3 := Blk.past hT3 r0_2
    have r1_3 := Blk.past hT3 r1_2
    have l_hi := own_hi l_3
    clear x_2 v_2 r0_2 r1_2 b_2 cell_v froz_v lt_v cell_r0 froz_r0 lt_r0 cell_r1 froz_r1 lt_r1 hT3 hX3 hb3
    have cell_v := v_3.cell
    have froz_v := v_3.frozen
    have lt_v := v_3.lt
    have cell_r0 := r0_3.cell
    have froz_r0 := r0_3.frozen
    have lt_r0 := r0_3.lt
    have cell_r1 := r1_3.cell
    have froz_r1 := r1_3.frozen
    have lt_r1 := r1_3.lt
    go_wp2_with fail
    go_region_held3 (fun w' => w'.cell? ⟨w.heap.size, 0, none⟩ = some (.int .i64 k) ∧ w'.cell? ⟨w.heap.size, 1, none⟩ = some (.int .i64 n) ∧ w'.cell? ⟨w.heap.size + 1, 0, none⟩ = some (.int .i64 0) ∧ w'.cell? ⟨w.heap.size + 1, 1, none⟩ = some (.int .i64 0) ∧ w'.cell? ⟨w.heap.size + 2, 0, none⟩ = some (.int .i64 0) ∧ w'.cell? ⟨w.heap.size + 2, 1, none⟩ = some (.slice none 0 0) ∧ w'.cell? ⟨w.heap.size + 2, 2, none⟩ = some (.int .i64 0)) (exact ⟨(Blk.cell (t := 39) (cs := #[.int .i64 k, .int .i64 n]) (by repeat (first | (with_reducible assumption) | (with_reducible apply Blk.drew) | (with_reducible apply Blk.new; first | rfl | (simp; done)) | (with_reducible apply Blk.alloc) | (with_reducible apply Blk.set_) | (with_reducible apply Blk.past; focus assumption) | (with_reducible apply Blk.far; focus (first | (simp; done) | (simp; omega) | (dsimp only; omega))))) 0), (Blk.cell (t := 39) (cs := #[.int .i64 k, .int .i64 n]) (by repeat (first | (with_reducible assumption) | (with_reducible apply Blk.drew) | (with_reducible apply Blk.new; first | rfl | (simp; done)) | (with_reducible apply Blk.alloc) | (with_reducible apply Blk.set_) | (with_reducible apply Blk.past; focus assumption) | (with_reducible apply Blk.far; focus (first | (simp; done) | (simp; omega) | (dsimp only; omega))))) 1), (Blk.cell (t := 39) (cs := #[.int .i64 0, .int .i64 0]) (by repeat (first | (with_reducible assumption) | (with_reducible apply Blk.drew) | (with_reducible apply Blk.new; first | rfl | (simp; done)) | (with_reducible apply Blk.alloc) | (with_reducible apply Blk.set_) | (with_reducible apply Blk.past; focus assumption) | (with_reducible apply Blk.far; focus (first | (simp; done) | (simp; omega) | (dsimp only; omega))))) 0), (Blk.cell (t := 39) (cs := #[.int .i64 0, .int .i64 0]) (by repeat (first | (with_reducible assumption) | (with_reducible apply Blk.drew) | (with_reducible apply Blk.new; first | rfl | (simp; done)) | (with_reducible apply Blk.alloc) | (with_reducible apply Blk.set_) | (with_reducible apply Blk.past; focus assumption) | (with_reducible apply Blk.far; focus (first | (simp; done) | (simp; omega) | (dsimp only; omega))))) 1), (Blk.cell (t := 49) (cs := #[.int .i64 0, .slice none 0 0, .int .i64 0]) (by repeat (first | (with_reducible assumption) | (with_reducible apply Blk.drew) | (with_reducible apply Blk.new; first | rfl | (simp; done)) | (with_reducible apply Blk.alloc) | (with_reducible apply Blk.set_) | (with_reducible apply Blk.past; focus assumption) | (with_reducible apply Blk.far; focus (first | (simp; done) | (simp; omega) | (dsimp only; omega))))) 0), (Blk.cell (t := 49) (cs := #[.int .i64 0, .slice none 0 0, .int .i64 0]) (by repeat (first | (with_reducible assumption) | (with_reducible apply Blk.drew) | (with_reducible apply Blk.new; first | rfl | (simp; done)) | (with_reducible apply Blk.alloc) | (with_reducible apply Blk.set_) | (with_reducible apply Blk.past; focus assumption) | (with_reducible apply Blk.far; focus (first | (simp; done) | (simp; omega) | (dsimp only; omega))))) 1), (Blk.cell (t := 49) (cs := #[.int .i64 0, .slice none 0 0, .int .i64 0]) (by repeat (first | (with_reducible assumption) | (with_reducible apply Blk.drew) | (with_reducible apply Blk.new; first | rfl | (simp; done)) | (with_reducible apply Blk.alloc) | (with_reducible apply Blk.set_) | (with_reducible apply Blk.past; focus assumption) | (with_reducible apply Blk.far; focus (first | (simp; done) | (simp; omega) | (dsimp only; omega))))) 2)⟩) (first | (go_at_call 23; refine (iTagWords _ _ _ _ _ _ (by exact (((Cells.of_own l_3).below (by repeat (first | (with_reducible exact Below.refl _ _) | (with_reducible refine Below.trans ?_ (Below.mono (by assumption) (by first | omega | (simp; done) | (simp; omega) | (simp [*]; done)))) | (with_reducible refine Below.alloc ?_ (by first | omega | (simp; done) | (simp; omega) | (simp [*]; done)) _) | (with_reducible refine Below.setCell ?_ (by first | omega | (simp; done) | (simp; omega) | (simp [*]; done)) _) | (with_reducible refine Below.drew ?_)))).more (by first | omega | (simp; done) | (simp; omega)))) hls).mono ?_; rintro e w' ⟨rfl, rfl⟩))
    all_goals
      go_wp2_with fail
      refine wp_touch2 (w0 := w3) (L := [w.heap.size]) (b0 := w.heap.size) (t0 := 39) (c0 := #[.int .i64 k, .int .i64 (n + 1)]) (b1 := w3.heap.size) (t1 := 49) (c1 := #[.int .i64 n, .slice Al (sealL k n xs).length cl, .int .i64 (tagI k n (sealL k n xs))]) ?_ ?_ ?_ ?_
      (focus (first | ((repeat (first | (with_reducible assumption) | (with_reducible apply Blk.drew) | (with_reducible apply Blk.new; first | rfl | (simp; done)) | (with_reducible apply Blk.alloc) | (with_reducible apply Blk.set_) | (with_reducible apply Blk.past; focus assumption) | (with_reducible apply Blk.far; focus (first | (simp; done) | (simp; omega) | (dsimp only; omega))))); done) | (apply Blk.cast; (case h => (repeat (first | (with_reducible assumption) | (with_reducible apply Blk.drew) | (with_reducible apply Blk.new; first | rfl | (simp; done)) | (with_reducible apply Blk.alloc) | (with_reducible apply Blk.set_) | (with_reducible apply Blk.past; focus assumption) | (with_reducible apply Blk.far; focus (first | (simp; done) | (simp; omega) | (dsimp only; omega)))))); (case e => rfl))))
      (focus (first | ((repeat (first | (with_reducible assumption) | (with_reducible apply Blk.drew) | (with_reducible apply Blk.new; first | rfl | (simp; done)) | (with_reducible apply Blk.alloc) | (with_reducible apply Blk.set_) | (with_reducible apply Blk.past; focus assumption) | (with_reducible apply Blk.far; focus (first | (simp; done) | (simp; omega) | (dsimp only; omega))))); done) | (apply Blk.cast; (case h => (repeat (first | (with_reducible assumption) | (with_reducible apply Blk.drew) | (with_reducible apply Blk.new; first | rfl | (simp; done)) | (with_reducible apply Blk.alloc) | (with_reducible apply Blk.set_) | (with_reducible apply Blk.past; focus assumption) | (with_reducible apply Blk.far; focus (first | (simp; done) | (simp; omega) | (dsimp only; omega)))))); (case e => rfl))))
      (focus (repeat (first | (with_reducible exact Touch.refl _ _) | (with_reducible apply Touch.drew) | (with_reducible apply Touch.alloc) | (with_reducible refine Touch.set_ ?_ _ _ (by simp; done)) | (with_reducible refine Touch.set_new ?_ _ _ (by first | omega | (simp; omega) | (dsimp only; omega))))))
      intro w4 v_4 sb_4 hX4
      have sX4 := hX4.size
      have sb_lt := sb_4.lt
      have b_4 := hX4.below b_3 (by first | (simp; done) | (simp; omega))
      have x_4 := cells_touch hX4 x_3 (by omega) (by first | (simp; done) | (simp; omega))
      have l_4 := own_touch hX4 l_3 l_hi (by first | (simp; done) | (simp; omega))
      have r0_4 := Blk.touch hX4 r0_3 (by first | (simp; done) | (simp; omega))
      have r1_4 := Blk.touch hX4 r1_3 (by first | (simp; done) | (simp; omega))
      clear x_3 l_3 v_3 r0_3 r1_3 b_3 hX4 cell_v froz_v lt_v cell_r0 froz_r0 lt_r0 cell_r1 froz_r1 lt_r1
      have cell_v := v_4.cell
      have froz_v := v_4.frozen
      have lt_v := v_4.lt
      have cell_r0 := r0_4.cell
      have froz_r0 := r0_4.frozen
      have lt_r0 := r0_4.lt
      have cell_r1 := r1_4.cell
      have froz_r1 := r1_4.frozen
      have lt_r1 := r1_4.lt
      have cell_sb := sb_4.cell
      have froz_sb := sb_4.frozen
      have lt_sb := sb_4.lt
      go_wp2_with fail
      go_region_held3 (fun w' => w'.cell? ⟨w.heap.size, 0, none⟩ = some (.int .i64 k) ∧ w'.cell? ⟨w.heap.size, 1, none⟩ = some (.int .i64 (n + 1)) ∧ w'.cell? ⟨w3.heap.size, 0, none⟩ = some (.int .i64 n) ∧ w'.cell? ⟨w3.heap.size, 1, none⟩ = some (.slice Al (sealL k n xs).length cl) ∧ w'.cell? ⟨w3.heap.size, 2, none⟩ = some (.int .i64 (tagI k n (sealL k n xs)))) (exact ⟨(Blk.cell (t := 39) (cs := #[.int .i64 k, .int .i64 (n + 1)]) (by repeat (first | (with_reducible assumption) | (with_reducible apply Blk.drew) | (with_reducible apply Blk.new; first | rfl | (simp; done)) | (with_reducible apply Blk.alloc) | (with_reducible apply Blk.set_) | (with_reducible apply Blk.past; focus assumption) | (with_reducible apply Blk.far; focus (first | (simp; done) | (simp; omega) | (dsimp only; omega))))) 0), (Blk.cell (t := 39) (cs := #[.int .i64 k, .int .i64 (n + 1)]) (by repeat (first | (with_reducible assumption) | (with_reducible apply Blk.drew) | (with_reducible apply Blk.new; first | rfl | (simp; done)) | (with_reducible apply Blk.alloc) | (with_reducible apply Blk.set_) | (with_reducible apply Blk.past; focus assumption) | (with_reducible apply Blk.far; focus (first | (simp; done) | (simp; omega) | (dsimp only; omega))))) 1), (Blk.cell (t := 49) (cs := #[.int .i64 n, .slice Al (sealL k n xs).length cl, .int .i64 (tagI k n (sealL k n xs))]) (by repeat (first | (with_reducible assumption) | (with_reducible apply Blk.drew) | (with_reducible apply Blk.new; first | rfl | (simp; done)) | (with_reducible apply Blk.alloc) | (with_reducible apply Blk.set_) | (with_reducible apply Blk.past; focus assumption) | (with_reducible apply Blk.far; focus (first | (simp; done) | (simp; omega) | (dsimp only; omega))))) 0), (Blk.cell (t := 49) (cs := #[.int .i64 n, .slice Al (sealL k n xs).length cl, .int .i64 (tagI k n (sealL k n xs))]) (by repeat (first | (with_reducible assumption) | (with_reducible apply Blk.drew) | (with_reducible apply Blk.new; first | rfl | (simp; done)) | (with_reducible apply Blk.alloc) | (with_reducible apply Blk.set_) | (with_reducible apply Blk.past; focus assumption) | (with_reducible apply Blk.far; focus (first | (simp; done) | (simp; omega) | (dsimp only; omega))))) 1), (Blk.cell (t := 49) (cs := #[.int .i64 n, .slice Al (sealL k n xs).length cl, .int .i64 (tagI k n (sealL k n xs))]) (by repeat (first | (with_reducible assumption) | (with_reducible apply Blk.drew) | (with_reducible apply Blk.new; first | rfl | (simp; done)) | (with_reducible apply Blk.alloc) | (with_reducible apply Blk.set_) | (with_reducible apply Blk.past; focus assumption) | (with_reducible apply Blk.far; focus (first | (simp; done) | (simp; omega) | (dsimp only; omega))))) 2)⟩) (fail)
      go_wp2_with fail
      ((try simp only [Exit.inBlock, Exit.then]); apply bodyPost_ret0; focus ((try simp only [results, Try.results25]); (try go_simp); (try rfl)))
      refine ⟨Al, cl, ?_, ?_, ?_⟩
      · rw [HR.out, HS.out]; simp
      · rw [HS.out]; exact own_weak (base := X3.heap.size) (by repeat (first | (with_reducible assumption) | (with_reducible apply World.ownsRow.drew) | (with_reducible apply World.ownsRow.alloc) | (with_reducible refine own_set ?_ _ _ (by first | omega | (simp; omega) | (dsimp only; omega))))) (by omega)
      · repeat (first | (with_reducible exact Below.refl _ _) | (with_reducible refine Below.trans ?_ (Below.mono (by assumption) (by first | omega | (simp; done) | (simp; omega) | (simp [*]; done)))) | (with_reducible refine Below.alloc ?_ (by first | omega | (simp; done) | (simp; omega) | (simp [*]; done)) _) | (with_reducible refine Below.setCell ?_ (by first | omega | (simp; done) | (simp; omega) | (simp [*]; done)) _) | (with_reducible refine Below.drew ?_))
  · have hR : saveB k n xs = false := by unfold saveB; rw [h2]; simp
    have HR := hid hR
    clear hR
    go_enter Try.func25, Try.ntmps25
    have b_0 := (Below.refl w.heap.size w)
    have s_0 := b_0.size
    have x_0 := hc
    clear hc
    go_wp2_with fail
    refine calls_forget3 (W := w) (b0 := w.heap.size) (t0 := 39) (c0 := #[.int .i64 k, .int .i64 n]) (b1 := w.heap.size + 1) (t1 := 39) (c1 := #[.int .i64 0, .int .i64 0]) (b2 := w.heap.size + 2) (t2 := 49) (c2 := #[.int .i64 0, .slice none 0 0, .int .i64 0]) ?_ ?_ ?_ ?_ ?_
    (focus (first | ((repeat (first | (with_reducible assumption) | (with_reducible apply Blk.drew) | (with_reducible apply Blk.new; first | rfl | (simp; done)) | (with_reducible apply Blk.alloc) | (with_reducible apply Blk.set_) | (with_reducible apply Blk.past; focus assumption) | (with_reducible apply Blk.far; focus (first | (simp; done) | (simp; omega) | (dsimp only; omega))))); done) | (apply Blk.cast; (case h => (repeat (first | (with_reducible assumption) | (with_reducible apply Blk.drew) | (with_reducible apply Blk.new; first | rfl | (simp; done)) | (with_reducible apply Blk.alloc) | (with_reducible apply Blk.set_) | (with_reducible apply Blk.past; focus assumption) | (with_reducible apply Blk.far; focus (first | (simp; done) | (simp; omega) | (dsimp only; omega)))))); (case e => rfl))))
    (focus (first | ((repeat (first | (with_reducible assumption) | (with_reducible apply Blk.drew) | (with_reducible apply Blk.new; first | rfl | (simp; done)) | (with_reducible apply Blk.alloc) | (with_reducible apply Blk.set_) | (with_reducible apply Blk.past; focus assumption) | (with_reducible apply Blk.far; focus (first | (simp; done) | (simp; omega) | (dsimp only; omega))))); done) | (apply Blk.cast; (case h => (repeat (first | (with_reducible assumption) | (with_reducible apply Blk.drew) | (with_reducible apply Blk.new; first | rfl | (simp; done)) | (with_reducible apply Blk.alloc) | (with_reducible apply Blk.set_) | (with_reducible apply Blk.past; focus assumption) | (with_reducible apply Blk.far; focus (first | (simp; done) | (simp; omega) | (dsimp only; omega)))))); (case e => rfl))))
    (focus (first | ((repeat (first | (with_reducible assumption) | (with_reducible apply Blk.drew) | (with_reducible apply Blk.new; first | rfl | (simp; done)) | (with_reducible apply Blk.alloc) | (with_reducible apply Blk.set_) | (with_reducible apply Blk.past; focus assumption) | (with_reducible apply Blk.far; focus (first | (simp; done) | (simp; omega) | (dsimp only; omega))))); done) | (apply Blk.cast; (case h => (repeat (first | (with_reducible assumption) | (with_reducible apply Blk.drew) | (with_reducible apply Blk.new; first | rfl | (simp; done)) | (with_reducible apply Blk.alloc) | (with_reducible apply Blk.set_) | (with_reducible apply Blk.past; focus assumption) | (with_reducible apply Blk.far; focus (first | (simp; done) | (simp; omega) | (dsimp only; omega)))))); (case e => rfl))))
    (focus (repeat (first | (with_reducible exact Below.refl _ _) | (with_reducible refine Below.trans ?_ (Below.mono (by assumption) (by first | omega | (simp; done) | (simp; omega) | (simp [*]; done)))) | (with_reducible refine Below.alloc ?_ (by first | omega | (simp; done) | (simp; omega) | (simp [*]; done)) _) | (with_reducible refine Below.setCell ?_ (by first | omega | (simp; done) | (simp; omega) | (simp [*]; done)) _) | (with_reducible refine Below.drew ?_))))
    intro X1 v_n r0_n r1_n hX1
    have sX1 := hX1.size
    have v_lt := v_n.lt
    have r0_lt := r0_n.lt
    have r1_lt := r1_n.lt
    refine (iVaultOk _ _ _).mono ?_
    rintro e w1 ⟨rfl, hb1⟩
    have s1 := hb1.size
    have hT1 := hX1.trans (hb1.mono sX1)
    have b_1 := b_0.trans (hT1.mono (by omega))
    have x_1 := cells_below x_0 hT1 (by omega)
    have v_1 := Blk.past hb1 v_n
    have r0_1 := Blk.past hb1 r0_n
    have r1_1 := Blk.past hb1 r1_n
    clear x_0 v_n r0_n r1_n b_0 hT1 hX1 hb1
    have cell_v := v_1.cell
    have froz_v := v_1.frozen
    have lt_v := v_1.lt
    have cell_r0 := r0_1.cell
    have froz_r0 := r0_1.frozen
    have lt_r0 := r0_1.lt
    have cell_r1 := r1_1.cell
    have froz_r1 := r1_1.frozen
    have lt_r1 := r1_1.lt
    go_wp2
    ((try simp only [Exit.inBlock, Exit.then]); apply bodyPost_ret0; focus ((try simp only [results, Try.results25]); (try go_simp); (try rfl)))
    refine saveB_no _ _ _ HR.out _ _ ?_ _ rfl
    repeat (first | (with_reducible exact Below.refl _ _) | (with_reducible refine Below.trans ?_ (Below.mono (by assumption) (by first | omega | (simp; done) | (simp; omega) | (simp [*]; done)))) | (with_reducible refine Below.alloc ?_ (by first | omega | (simp; done) | (simp; omega) | (simp [*]; done)) _) | (with_reducible refine Below.setCell ?_ (by first | omega | (simp; done) | (simp; omega) | (simp [*]; done)) _) | (with_reducible refine Below.drew ?_))
  · have hR : saveB k n xs = false := by unfold saveB; rw [h1]; rfl
    have HR := hid hR
    clear hR
    go_enter Try.func25, Try.ntmps25
    have b_0 := (Below.refl w.heap.size w)
    have s_0 := b_0.size
    have x_0 := hc
    clear hc
    go_wp2_with fail
    refine calls_forget3 (W := w) (b0 := w.heap.size) (t0 := 39) (c0 := #[.int .i64 k, .int .i64 n]) (b1 := w.heap.size + 1) (t1 := 39) (c1 := #[.int .i64 0, .int .i64 0]) (b2 := w.heap.size + 2) (t2 := 49) (c2 := #[.int .i64 0, .slice none 0 0, .int .i64 0]) ?_ ?_ ?_ ?_ ?_
    (focus (first | ((repeat (first | (with_reducible assumption) | (with_reducible apply Blk.drew) | (with_reducible apply Blk.new; first | rfl | (simp; done)) | (with_reducible apply Blk.alloc) | (with_reducible apply Blk.set_) | (with_reducible apply Blk.past; focus assumption) | (with_reducible apply Blk.far; focus (first | (simp; done) | (simp; omega) | (dsimp only; omega))))); done) | (apply Blk.cast; (case h => (repeat (first | (with_reducible assumption) | (with_reducible apply Blk.drew) | (with_reducible apply Blk.new; first | rfl | (simp; done)) | (with_reducible apply Blk.alloc) | (with_reducible apply Blk.set_) | (with_reducible apply Blk.past; focus assumption) | (with_reducible apply Blk.far; focus (first | (simp; done) | (simp; omega) | (dsimp only; omega)))))); (case e => rfl))))
    (focus (first | ((repeat (first | (with_reducible assumption) | (with_reducible apply Blk.drew) | (with_reducible apply Blk.new; first | rfl | (simp; done)) | (with_reducible apply Blk.alloc) | (with_reducible apply Blk.set_) | (with_reducible apply Blk.past; focus assumption) | (with_reducible apply Blk.far; focus (first | (simp; done) | (simp; omega) | (dsimp only; omega))))); done) | (apply Blk.cast; (case h => (repeat (first | (with_reducible assumption) | (with_reducible apply Blk.drew) | (with_reducible apply Blk.new; first | rfl | (simp; done)) | (with_reducible apply Blk.alloc) | (with_reducible apply Blk.set_) | (with_reducible apply Blk.past; focus assumption) | (with_reducible apply Blk.far; focus (first | (simp; done) | (simp; omega) | (dsimp only; omega)))))); (case e => rfl))))
    (focus (first | ((repeat (first | (with_reducible assumption) | (with_reducible apply Blk.drew) | (with_reducible apply Blk.new; first | rfl | (simp; done)) | (with_reducible apply Blk.alloc) | (with_reducible apply Blk.set_) | (with_reducible apply Blk.past; focus assumption) | (with_reducible apply Blk.far; focus (first | (simp; done) | (simp; omega) | (dsimp only; omega))))); done) | (apply Blk.cast; (case h => (repeat (first | (with_reducible assumption) | (with_reducible apply Blk.drew) | (with_reducible apply Blk.new; first | rfl | (simp; done)) | (with_reducible apply Blk.alloc) | (with_reducible apply Blk.set_) | (with_reducible apply Blk.past; focus assumption) | (with_reducible apply Blk.far; focus (first | (simp; done) | (simp; omega) | (dsimp only; omega)))))); (case e => rfl))))
    (focus (repeat (first | (with_reducible exact Below.refl _ _) | (with_reducible refine Below.trans ?_ (Below.mono (by assumption) (by first | omega | (simp; done) | (simp; omega) | (simp [*]; done)))) | (with_reducible refine Below.alloc ?_ (by first | omega | (simp; done) | (simp; omega) | (simp [*]; done)) _) | (with_reducible refine Below.setCell ?_ (by first | omega | (simp; done) | (simp; omega) | (simp [*]; done)) _) | (with_reducible refine Below.drew ?_))))
    intro X1 v_n r0_n r1_n hX1
    have sX1 := hX1.size
    have v_lt := v_n.lt
    have r0_lt := r0_n.lt
    have r1_lt := r1_n.lt
    refine (iVaultOk _ _ _).mono ?_
    rintro e w1 ⟨rfl, hb1⟩
    have s1 := hb1.size
    have hT1 := hX1.trans (hb1.mono sX1)
    have b_1 := b_0.trans (hT1.mono (by omega))
    have x_1 := cells_below x_0 hT1 (by omega)
    have v_1 := Blk.past hb1 v_n
    have r0_1 := Blk.past hb1 r0_n
    have r1_1 := Blk.past hb1 r1_n
    clear x_0 v_n r0_n r1_n b_0 hT1 hX1 hb1
    have cell_v := v_1.cell
    have froz_v := v_1.frozen
    have lt_v := v_1.lt
    have cell_r0 := r0_1.cell
    have froz_r0 := r0_1.frozen
    have lt_r0 := r0_1.lt
    have cell_r1 := r1_1.cell
    have froz_r1 := r1_1.frozen
    have lt_r1 := r1_1.lt
    go_wp2
    ((try simp only [Exit.inBlock, Exit.then]); apply bodyPost_ret0; focus ((try simp only [results, Try.results25]); (try go_simp); (try rfl)))
    refine saveB_no _ _ _ HR.out _ _ ?_ _ rfl
    repeat (first | (with_reducible exact Below.refl _ _) | (with_reducible refine Below.trans ?_ (Below.mono (by assumption) (by first | omega | (simp; done) | (simp; omega) | (simp [*]; done)))) | (with_reducible refine Below.alloc ?_ (by first | omega | (simp; done) | (simp; omega) | (simp [*]; done)) _) | (with_reducible refine Below.setCell ?_ (by first | omega | (simp; done) | (simp; omega) | (simp [*]; done)) _) | (with_reducible refine Below.drew ?_))
end Go.Proofs.Ytdfomahaplcgoaa
