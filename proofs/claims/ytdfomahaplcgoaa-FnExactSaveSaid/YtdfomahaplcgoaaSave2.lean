/- Save, in the reference. -/
import Derived.Test.YtdfomahaplcgoaaSave
import Derived.Deep.DeepCutAuto
import Derived.Outline
namespace Go.Proofs.Ytdfomahaplcgoaa
open Go.RowKit

def SaveCut (w : World) (k n : Int) (xs : List Int) (v7 : Value) (wx : World) : Prop :=
  ∃ b Al cl lo hi, v7 = .pointer (some ⟨b, 0, none⟩) ∧ w.heap.size + 2 < b ∧ w.heap.size + 2 < lo ∧ (b < lo ∨ hi ≤ b) ∧
    Blk wx w.heap.size 39 #[.int .i64 k, .int .i64 n] ∧
    Blk wx (w.heap.size + 1) 39 #[.int .i64 0, .int .i64 0] ∧
    Blk wx (w.heap.size + 2) 49 #[.int .i64 0, .slice none 0 0, .int .i64 0] ∧
    Blk wx b 49 #[.int .i64 n, .slice Al (sealL k n xs).length cl, .int .i64 0] ∧
    wx.ownsRow lo 3 1 (.slice Al (sealL k n xs).length cl) (sealL k n xs).length (ints (sealL k n xs)) ∧
    (∀ q, (Value.slice Al (sealL k n xs).length cl).ownBlock = some q → q < hi) ∧ Below w.heap.size w wx
set_option maxHeartbeats 1600000 in
theorem sSave (k n : Int) (A : Option Addr) (c : Nat) (xs : List Int) (w : World) (hc : Cells w w.heap.size A (ints xs)) (hl : xs.length ≤ 1000000000) :
    Calls Try.prog 39 #[.agg #[.int .i64 k, .int .i64 n], .slice A xs.length c] w (GivesSave w k n xs) := by
  cases h1 : vaultOkB k n; rotate_left
  cases h2 : (n == 100000)
  cases h4 : askB xs
  · have hn := inB_iff.1 (show inB n 0 100000 = true by unfold vaultOkB at h1; simp only [Bool.and_eq_true] at h1; exact h1.2)
    have hR : saveB k n xs = false := by unfold saveB; rw [h4]; simp
    have HR := hid hR
    clear hR
    have h4' : (wordsB xs && decide ((xs.length : Int) ≤ 40)) = _ := h4
    go_enter Try.func39, Try.ntmps39
    have b_0 := (Below.refl w.heap.size w)
    have s_0 := b_0.size
    have x_0 := hc
    clear hc
    go_wp2_with fail
    refine calls_forget3 (W := w) (b0 := w.heap.size) (t0 := 39) (c0 := #[.int .i64 k, .int .i64 n]) (b1 := w.heap.size + 1) (t1 := 39) (c1 := #[.int .i64 0, .int .i64 0]) (b2 := w.heap.size + 2) (t2 := 49) (c2 := #[.int .i64 0, .slice none 0 0, .int .i64 0]) ?_ ?_ ?_ ?_ ?_
    (focus (first | ((repeat (first | (with_reducible assumption) | (with_reducible apply Blk.drew) | (with_reducible apply Blk.new; first | rfl | (simp; done)) | (with_reducible apply Blk.alloc) | (with_reducible apply Blk.set_) | (with_reducible apply Blk.past; focus assumption) | (with_reducible apply Blk.far; focus (first | (simp; done) | (simp; omega) | (dsimp only; omega))))); done) | (apply Blk.cast; (case h => (repeat (first | (with_reducible assumption) | (with_reducible apply Blk.drew) | (with_reducible apply Blk.new; first | rfl | (simp; done)) | (with_reducible apply Blk.alloc) | (with_reducible apply Blk.set_) | (with_reducible apply Blk.past; focus assumption) | (with_reducible apply Blk.far; focus (first | (simp; done) | (simp; omega) | (dsimp only; omega)))))); (case e => rfl))))
    (focus (first | ((repeat (first | (with_reducible assumption) | (with_reducible apply Blk.drew) | (with_reducible apply Blk.new; first | rfl | (simp; done)) | (with_reducible apply Blk.alloc) | (with_reducible apply Blk.set_) | (with_reducible apply Blk.past; focus assumption) | (with_reducible apply Blk.far; focus (first | (simp; done) | (simp; omega) | (dsimp only; omega))))); done) | (apply Blk.cast; (case h => (repeat (first | (with_reducible assumption) | (with_reducible apply Blk.drew) | (with_reducible apply Blk.new; first | rfl | (simp; done)) | (with_reducible apply Blk.alloc) | (with_reducible apply Blk.set_) | (with_reducible apply Blk.past; focus assumption) | (with_reducible apply Blk.far; focus (first | (simp; done) | (simp; omega) | (dsimp only; omega)))))); (case e => rfl))))
    (focus (first | ((repeat (first | (with_reducible assumption) | (with_reducible apply Blk.drew) | (with_reducible apply Blk.new; first | rfl | (simp; done)) | (with_reducible apply Blk.alloc) | (with_reducible apply Blk.set_) | (with_reducible apply Blk.past; focus assumption) | (with_reducible apply Blk.far; focus (first | (simp; done) | (simp; omega) | (dsimp only; omega))))); done) | (apply Blk.cast; (case h => (repeat (first | (with_reducible assumption) | (with_reducible apply Blk.drew) | (with_reducible apply Blk.new; first | rfl | (simp; done)) | (with_reducible apply Blk.alloc) | (with_reducible apply Blk.set_) | (with_reducible apply Blk.past; focus assumption) | (with_reducible apply Blk.far; focus (first | (simp; done) | (simp; omega) | (dsimp only; omega)))))); (case e => rfl))))
    (focus (repeat (first | (with_reducible exact Below.refl _ _) | (with_reducible refine Below.trans ?_ (Below.mono (by assumption) (by first | omega | (simp; done) | (simp; omega) | (simp [*]; done)))) | (with_reducible refine Below.alloc ?_ (by first | omega | (simp; done) | (simp; omega) | (simp [*]; done)) _) | (with_reducible refine Below.setCell ?_ (by first | omega | (simp; done) | (simp; omega) | (simp [*]; done)) _) | (with_reducible refine Below.drew ?_))))
    intro X1 v_n r0_n r1_n hX1
    have sX1 := hX1.size
    have v_lt := v_n.lt
    have r0_lt := r0_n.lt
    have r1_lt := r1_n.lt
    refine (sVaultOk _ _ _).mono ?_
    rintro e w1 ⟨rfl, hb1⟩
    have s1 := hb1.size
    have hT1 := hX1.trans (hb1.mono sX1)
    have b_1 := b_0.trans (hT1.mono (by omega))
    have x_1 := cells_below x_0 hT1 (by omega)
    have v_1 := Blk.past hb1 v_n
    have r0_1 := Blk.past hb1 r0_n
    have r1_1 := Blk.past hb1 r1_n
    clear x_0 v_n r0_n r1_n b_0 hT1 hX1 hb1
    have cell_v := v_1.cell
    have froz_v := v_1.frozen
    have lt_v := v_1.lt
    have cell_r0 := r0_1.cell
    have froz_r0 := r0_1.frozen
    have lt_r0 := r0_1.lt
    have cell_r1 := r1_1.cell
    have froz_r1 := r1_1.frozen
    have lt_r1 := r1_1.lt
    go_wp2_with fail
    refine calls_forget0 (W := w1) ?_ ?_
    (focus (repeat (first | (with_reducible exact Below.refl _ _) | (with_reducible refine Below.trans ?_ (Below.mono (by assumption) (by first | omega | (simp; done) | (simp; omega) | (simp [*]; done)))) | (with_reducible refine Below.alloc ?_ (by first | omega | (simp; done) | (simp; omega) | (simp [*]; done)) _) | (with_reducible refine Below.setCell ?_ (by first | omega | (simp; done) | (simp; omega) | (simp [*]; done)) _) | (with_reducible refine Below.drew ?_))))
    intro X2 hX2
    have sX2 := hX2.size
    refine (sWords _ _ _ _ ((cells_below x_1 hX2 (by omega)).more (by omega)) hl).mono ?_
    rintro e w' ⟨rfl, rfl⟩
    have b_2 := b_1.trans (hX2.mono (by omega))
    have x_2 := cells_below x_1 hX2 (by omega)
    have v_2 := Blk.past hX2 v_1
    have r0_2 := Blk.past hX2 r0_1
    have r1_2 := Blk.past hX2 r1_1
    clear x_1 v_1 r0_1 r1_1 b_1 cell_v froz_v lt_v cell_r0 froz_r0 lt_r0 cell_r1 froz_r1 lt_r1 hX2
    have cell_v := v_2.cell
    have froz_v := v_2.frozen
    have lt_v := v_2.lt
    have cell_r0 := r0_2.cell
    have froz_r0 := r0_2.frozen
    have lt_r0 := r0_2.lt
    have cell_r1 := r1_2.cell
    have froz_r1 := r1_2.frozen
    have lt_r1 := r1_2.lt
    go_wp2
    ((try simp only [Exit.inBlock, Exit.then]); apply bodyPost_ret0; focus ((try simp only [results, Try.results39]); (try go_simp); (try rfl)))
    refine saveB_no _ _ _ HR.out _ _ ?_ _ rfl
    repeat (first | (with_reducible exact Below.refl _ _) | (with_reducible refine Below.trans ?_ (Below.mono (by assumption) (by first | omega | (simp; done) | (simp; omega) | (simp [*]; done)))) | (with_reducible refine Below.alloc ?_ (by first | omega | (simp; done) | (simp; omega) | (simp [*]; done)) _) | (with_reducible refine Below.setCell ?_ (by first | omega | (simp; done) | (simp; omega) | (simp [*]; done)) _) | (with_reducible refine Below.drew ?_))
  · have hR : saveB k n xs = true := by unfold saveB; rw [h1, h2, h4]; rfl
    have HR := hid hR
    have hS : saveL k n xs = sealL k n xs := by unfold saveL; rw [hR]; rfl
    have HS := hid hS
    clear hR hS
    have hn := inB_iff.1 (show inB n 0 100000 = true by unfold vaultOkB at h1; simp only [Bool.and_eq_true] at h1; exact h1.2)
    have hls : (sealL k n xs).length ≤ 1000000000 := by unfold sealL; rw [seal_ask' h1, h4]; simp only [if_true]; rw [sealTo_length]; exact hl
    have h4' : (wordsB xs && decide ((xs.length : Int) ≤ 40)) = _ := h4
    go_enter Try.func39, Try.ntmps39
    have b_0 := (Below.refl w.heap.size w)
    have s_0 := b_0.size
    have x_0 := hc
    clear hc
    go_wp2_with fail
    refine calls_forget3 (W := w) (b0 := w.heap.size) (t0 := 39) (c0 := #[.int .i64 k, .int .i64 n]) (b1 := w.heap.size + 1) (t1 := 39) (c1 := #[.int .i64 0, .int .i64 0]) (b2 := w.heap.size + 2) (t2 := 49) (c2 := #[.int .i64 0, .slice none 0 0, .int .i64 0]) ?_ ?_ ?_ ?_ ?_
    (focus (first | ((repeat (first | (with_reducible assumption) | (with_reducible apply Blk.drew) | (with_reducible apply Blk.new; first | rfl | (simp; done)) | (with_reducible apply Blk.alloc) | (with_reducible apply Blk.set_) | (with_reducible apply Blk.past; focus assumption) | (with_reducible apply Blk.far; focus (first | (simp; done) | (simp; omega) | (dsimp only; omega))))); done) | (apply Blk.cast; (case h => (repeat (first | (with_reducible assumption) | (with_reducible apply Blk.drew) | (with_reducible apply Blk.new; first | rfl | (simp; done)) | (with_reducible apply Blk.alloc) | (with_reducible apply Blk.set_) | (with_reducible apply Blk.past; focus assumption) | (with_reducible apply Blk.far; focus (first | (simp; done) | (simp; omega) | (dsimp only; omega)))))); (case e => rfl))))
    (focus (first | ((repeat (first | (with_reducible assumption) | (with_reducible apply Blk.drew) | (with_reducible apply Blk.new; first | rfl | (simp; done)) | (with_reducible apply Blk.alloc) | (with_reducible apply Blk.set_) | (with_reducible apply Blk.past; focus assumption) | (with_reducible apply Blk.far; focus (first | (simp; done) | (simp; omega) | (dsimp only; omega))))); done) | (apply Blk.cast; (case h => (repeat (first | (with_reducible assumption) | (with_reducible apply Blk.drew) | (with_reducible apply Blk.new; first | rfl | (simp; done)) | (with_reducible apply Blk.alloc) | (with_reducible apply Blk.set_) | (with_reducible apply Blk.past; focus assumption) | (with_reducible apply Blk.far; focus (first | (simp; done) | (simp; omega) | (dsimp only; omega)))))); (case e => rfl))))
    (focus (first | ((repeat (first | (with_reducible assumption) | (with_reducible apply Blk.drew) | (with_reducible apply Blk.new; first | rfl | (simp; done)) | (with_reducible apply Blk.alloc) | (with_reducible apply Blk.set_) | (with_reducible apply Blk.past; focus assumption) | (with_reducible apply Blk.far; focus (first | (simp; done) | (simp; omega) | (dsimp only; omega))))); done) | (apply Blk.cast; (case h => (repeat (first | (with_reducible assumption) | (with_reducible apply Blk.drew) | (with_reducible apply Blk.new; first | rfl | (simp; done)) | (with_reducible apply Blk.alloc) | (with_reducible apply Blk.set_) | (with_reducible apply Blk.past; focus assumption) | (with_reducible apply Blk.far; focus (first | (simp; done) | (simp; omega) | (dsimp only; omega)))))); (case e => rfl))))
    (focus (repeat (first | (with_reducible exact Below.refl _ _) | (with_reducible refine Below.trans ?_ (Below.mono (by assumption) (by first | omega | (simp; done) | (simp; omega) | (simp [*]; done)))) | (with_reducible refine Below.alloc ?_ (by first | omega | (simp; done) | (simp; omega) | (simp [*]; done)) _) | (with_reducible refine Below.setCell ?_ (by first | omega | (simp; done) | (simp; omega) | (simp [*]; done)) _) | (with_reducible refine Below.drew ?_))))
    intro X1 v_n r0_n r1_n hX1
    have sX1 := hX1.size
    have v_lt := v_n.lt
    have r0_lt := r0_n.lt
    have r1_lt := r1_n.lt
    refine (sVaultOk _ _ _).mono ?_
    rintro e w1 ⟨rfl, hb1⟩
    have s1 := hb1.size
    have hT1 := hX1.trans (hb1.mono sX1)
    have b_1 := b_0.trans (hT1.mono (by omega))
    have x_1 := cells_below x_0 hT1 (by omega)
    have v_1 := Blk.past hb1 v_n
    have r0_1 := Blk.past hb1 r0_n
    have r1_1 := Blk.past hb1 r1_n
    clear x_0 v_n r0_n r1_n b_0 hT1 hX1 hb1
    have cell_v := v_1.cell
    have froz_v := v_1.frozen
    have lt_v := v_1.lt
    have cell_r0 := r0_1.cell
    have froz_r0 := r0_1.frozen
    have lt_r0 := r0_1.lt
    have cell_r1 := r1_1.cell
    have froz_r1 := r1_1.frozen
    have lt_r1 := r1_1.lt
    go_wp2_with fail
    refine calls_forget0 (W := w1) ?_ ?_
    (focus (repeat (first | (with_reducible exact Below.refl _ _) | (with_reducible refine Below.trans ?_ (Below.mono (by assumption) (by first | omega | (simp; done) | (simp; omega) | (simp [*]; done)))) | (with_reducible refine Below.alloc ?_ (by first | omega | (simp; done) | (simp; omega) | (simp [*]; done)) _) | (with_reducible refine Below.setCell ?_ (by first | omega | (simp; done) | (simp; omega) | (simp [*]; done)) _) | (with_reducible refine Below.drew ?_))))
    intro X2 hX2
    have sX2 := hX2.size
    refine (sWords _ _ _ _ ((cells_below x_1 hX2 (by omega)).more (by omega)) hl).mono ?_
    rintro e w' ⟨rfl, rfl⟩
    have b_2 := b_1.trans (hX2.mono (by omega))
    have x_2 := cells_below x_1 hX2 (by omega)
    have v_2 := Blk.past hX2 v_1
    have r0_2 := Blk.past hX2 r0_1
    have r1_2 := Blk.past hX2 r1_1
    clear x_1 v_1 r0_1 r1_1 b_1 cell_v froz_v lt_v cell_r0 froz_r0 lt_r0 cell_r1 froz_r1 lt_r1 hX2
    have cell_v := v_2.cell
    have froz_v := v_2.frozen
    have lt_v := v_2.lt
    have cell_r0 := r0_2.cell
    have froz_r0 := r0_2.frozen
    have lt_r0 := r0_2.lt
    have cell_r1 := r1_2.cell
    have froz_r1 := r1_2.frozen
    have lt_r1 := r1_2.lt
    go_upto_region 1 with fail
    go_cut [7] (fun v7 wx => SaveCut w k n xs v7 wx)
    case first =>
      go_region_held3 (fun w' => w'.cell? ⟨w.heap.size, 0, none⟩ = some (.int .i64 k) ∧ w'.cell? ⟨w.heap.size, 1, none⟩ = some (.int .i64 n)) (exact ⟨Blk.cell (t := 39) (cs := #[.int .i64 k, .int .i64 n]) (by repeat (first | (with_reducible assumption) | (with_reducible apply Blk.drew) | (with_reducible apply Blk.new; first | rfl | (simp; done)) | (with_reducible apply Blk.alloc) | (with_reducible apply Blk.set_) | (with_reducible apply Blk.past; focus assumption) | (with_reducible apply Blk.far; focus (first | (simp; done) | (simp; omega) | (dsimp only; omega))))) 0, Blk.cell (t := 39) (cs := #[.int .i64 k, .int .i64 n]) (by repeat (first | (with_reducible assumption) | (with_reducible apply Blk.drew) | (with_reducible apply Blk.new; first | rfl | (simp; done)) | (with_reducible apply Blk.alloc) | (with_reducible apply Blk.set_) | (with_reducible apply Blk.past; focus assumption) | (with_reducible apply Blk.far; focus (first | (simp; done) | (simp; omega) | (dsimp only; omega))))) 1⟩) ((go_at_call 56; refine (sSealWords _ _ _ _ _ _ (by exact ((cells_below x_2 (by repeat (first | (with_reducible exact Below.refl _ _) | (with_reducible refine Below.trans ?_ (Below.mono (by assumption) (by first | omega | (simp; done) | (simp; omega) | (simp [*]; done)))) | (with_reducible refine Below.alloc ?_ (by first | omega | (simp; done) | (simp; omega) | (simp [*]; done)) _) | (with_reducible refine Below.setCell ?_ (by first | omega | (simp; done) | (simp; omega) | (simp [*]; done)) _) | (with_reducible refine Below.drew ?_))) (by omega)).more (by first | omega | (simp; done) | (simp; omega)))) hl).mono ?_; rintro e w3 ⟨Al, cl, rfl, l3, hb3⟩; (first | (with_reducible refine use_topd hb3 ?_; intro zt ct ft kt; try simp only [World.size_alloc] at zt ct ft kt) | skip); have sz := hb3.size; try simp at sz))
      all_goals
        go_wp2_with fail
        go_meet
        unfold SaveCut
        have l_hi := own_hi l3
        have bX := b_2
        first
        | (refine ⟨X2.heap.size, Al, cl, X2.heap.size + 1, w3.heap.size, rfl, by omega, by omega, Or.inl (by omega), ?_, ?_, ?_, ?_, ?_, l_hi, ?_⟩
           · repeat (first | (with_reducible assumption) | (with_reducible apply Blk.drew) | (with_reducible apply Blk.new; first | rfl | (simp; done)) | (with_reducible apply Blk.alloc) | (with_reducible apply Blk.set_) | (with_reducible apply Blk.past; focus assumption) | (with_reducible apply Blk.far; focus (first | (simp; done) | (simp; omega) | (dsimp only; omega))))
           · repeat (first | (with_reducible assumption) | (with_reducible apply Blk.drew) | (with_reducible apply Blk.new; first | rfl | (simp; done)) | (with_reducible apply Blk.alloc) | (with_reducible apply Blk.set_) | (with_reducible apply Blk.past; focus assumption) | (with_reducible apply Blk.far; focus (first | (simp; done) | (simp; omega) | (dsimp only; omega))))
           · repeat (first | (with_reducible assumption) | (with_reducible apply Blk.drew) | (with_reducible apply Blk.new; first | rfl | (simp; done)) | (with_reducible apply Blk.alloc) | (with_reducible apply Blk.set_) | (with_reducible apply Blk.past; focus assumption) | (with_reducible apply Blk.far; focus (first | (simp; done) | (simp; omega) | (dsimp only; omega))))
           · apply Blk.cast
             focus (repeat (first | (with_reducible assumption) | (with_reducible apply Blk.drew) | (with_reducible apply Blk.new; first | rfl | (simp; done)) | (with_reducible apply Blk.alloc) | (with_reducible apply Blk.set_) | (with_reducible apply Blk.past; focus assumption) | (with_reducible apply Blk.far; focus (first | (simp; done) | (simp; omega) | (dsimp only; omega)))))
             rfl
           · have l4 : w3.ownsRow (X2.heap.size + 1) 3 1 (.slice Al (sealL k n xs).length cl) (sealL k n xs).length (ints (sealL k n xs)) := own_weak l3 (by simp)
             repeat (first | (with_reducible assumption) | (with_reducible apply World.ownsRow.drew) | (with_reducible apply World.ownsRow.alloc) | (with_reducible refine own_set ?_ _ _ (by first | omega | (simp; omega) | (dsimp only; omega))))
           · repeat (first | (with_reducible exact Below.refl _ _) | (with_reducible refine Below.trans ?_ (Below.mono (by assumption) (by first | omega | (simp; done) | (simp; omega) | (simp [*]; done)))) | (with_reducible refine Below.alloc ?_ (by first | omega | (simp; done) | (simp; omega) | (simp [*]; done)) _) | (with_reducible refine Below.setCell ?_ (by first | omega | (simp; done) | (simp; omega) | (simp [*]; done)) _) | (with_reducible refine Below.drew ?_)))
        | (refine ⟨w3.heap.size, Al, cl, X2.heap.size, w3.heap.size, rfl, by omega, by omega, Or.inr (Nat.le_refl _), ?_, ?_, ?_, ?_, ?_, l_hi, ?_⟩
           · repeat (first | (with_reducible assumption) | (with_reducible apply Blk.drew) | (with_reducible apply Blk.new; first | rfl | (simp; done)) | (with_reducible apply Blk.alloc) | (with_reducible apply Blk.set_) | (with_reducible apply Blk.past; focus assumption) | (with_reducible apply Blk.far; focus (first | (simp; done) | (simp; omega) | (dsimp only; omega))))
           · repeat (first | (with_reducible assumption) | (with_reducible apply Blk.drew) | (with_reducible apply Blk.new; first | rfl | (simp; done)) | (with_reducible apply Blk.alloc) | (with_reducible apply Blk.set_) | (with_reducible apply Blk.past; focus assumption) | (with_reducible apply Blk.far; focus (first | (simp; done) | (simp; omega) | (dsimp only; omega))))
           · repeat (first | (with_reducible assumption) | (with_reducible apply Blk.drew) | (with_reducible apply Blk.new; first | rfl | (simp; done)) | (with_reducible apply Blk.alloc) | (with_reducible apply Blk.set_) | (with_reducible apply Blk.past; focus assumption) | (with_reducible apply Blk.far; focus (first | (simp; done) | (simp; omega) | (dsimp only; omega))))
           · repeat (first | (with_reducible assumption) | (with_reducible apply Blk.drew) | (with_reducible apply Blk.new; first | rfl | (simp; done)) | (with_reducible apply Blk.alloc) | (with_reducible apply Blk.set_) | (with_reducible apply Blk.past; focus assumption) | (with_reducible apply Blk.far; focus (first | (simp; done) | (simp; omega) | (dsimp only; omega))))
           · have l4 : w3.ownsRow X2.heap.size 3 1 (.slice Al (sealL k n xs).length cl) (sealL k n xs).length (ints (sealL k n xs)) := own_weak l3 (by simp)
             repeat (first | (with_reducible assumption) | (with_reducible apply World.ownsRow.drew) | (with_reducible apply World.ownsRow.alloc) | (with_reducible refine own_set ?_ _ _ (by first | omega | (simp; omega) | (dsimp only; omega))))
           · repeat (first | (with_reducible exact Below.refl _ _) | (with_reducible refine Below.trans ?_ (Below.mono (by assumption) (by first | omega | (simp; done) | (simp; omega) | (simp [*]; done)))) | (with_reducible refine Below.alloc ?_ (by first | omega | (simp; done) | (simp; omega) | (simp [*]; done)) _) | (with_reducible refine Below.setCell ?_ (by first | omega | (simp; done) | (simp; omega) | (simp [*]; done)) _) | (with_reducible refine Below.drew ?_)))
    case rest =>
      obtain ⟨b, Al, cl, lo, hi, rfl, q1, q2, q3, kv, k0, k1, ks, ol, ohi, hb⟩ := hcut
      clear v_lt r0_lt r1_lt cell_v froz_v lt_v cell_r0 froz_r0 lt_r0 cell_r1 froz_r1 lt_r1 v_2 r0_2 r1_2 x_2 b_2
      have b_0 := hb
      have s_0 := b_0.size
      have v_0 := kv
      clear kv
      have v_lt := v_0.lt
      have cell_v := v_0.cell
      have froz_v := v_0.frozen
      have lt_v := v_0.lt
      have r0_0 := k0
      clear k0
      have r0_lt := r0_0.lt
      have cell_r0 := r0_0.cell
      have froz_r0 := r0_0.frozen
      have lt_r0 := r0_0.lt
      have r1_0 := k1
      clear k1
      have r1_lt := r1_0.lt
      have cell_r1 := r1_0.cell
      have froz_r1 := r1_0.frozen
      have lt_r1 := r1_0.lt
      have sb_0 := ks
      clear ks
      have sb_lt := sb_0.lt
      have cell_sb := sb_0.cell
      have froz_sb := sb_0.frozen
      have lt_sb := sb_0.lt
      have l_0 := ol
      clear ol
      have l_hi := ohi
      clear ohi
      go_wp2_with fail
      refine calls_forget0 (W := wc) ?_ ?_
      (focus (repeat (first | (with_reducible exact Below.refl _ _) | (with_reducible refine Below.trans ?_ (Below.mono (by assumption) (by first | omega | (simp; done) | (simp; omega) | (simp [*]; done)))) | (with_reducible refine Below.alloc ?_ (by first | omega | (simp; done) | (simp; omega) | (simp [*]; done)) _) | (with_reducible refine Below.setCell ?_ (by first | omega | (simp; done) | (simp; omega) | (simp [*]; done)) _) | (with_reducible refine Below.drew ?_))))
      intro X1 hX1
      have sX1 := hX1.size
      refine (sTagWords _ _ _ _ _ _ (Cells.of_own (own_below l_0 hX1)) hls).mono ?_
      rintro e w' ⟨rfl, rfl⟩
      have b_1 := b_0.trans (hX1.mono (by omega))
      have l_1 := own_below l_0 hX1
      have v_1 := Blk.past hX1 v_0
      have r0_1 := Blk.past hX1 r0_0
      have r1_1 := Blk.past hX1 r1_0
      have sb_1 := Blk.past hX1 sb_0
      clear l_0 v_0 r0_0 r1_0 sb_0 b_0 cell_v froz_v lt_v cell_r0 froz_r0 lt_r0 cell_r1 froz_r1 lt_r1 cell_sb froz_sb lt_sb hX1
      have cell_v := v_1.cell
      have froz_v := v_1.frozen
      have lt_v := v_1.lt
      have cell_r0 := r0_1.cell
      have froz_r0 := r0_1.frozen
      have lt_r0 := r0_1.lt
      have cell_r1 := r1_1.cell
      have froz_r1 := r1_1.frozen
      have lt_r1 := r1_1.lt
      have cell_sb := sb_1.cell
      have froz_sb := sb_1.frozen
      have lt_sb := sb_1.lt
      go_wp2_with fail
      refine wp_touch2 (w0 := X1) (L := [b, w.heap.size]) (b0 := b) (t0 := 49) (c0 := #[.int .i64 n, .slice Al (sealL k n xs).length cl, .int .i64 (tagI k n (sealL k n xs))]) (b1 := w.heap.size) (t1 := 39) (c1 := #[.int .i64 k, .int .i64 (n + 1)]) ?_ ?_ ?_ ?_
      (focus (first | ((repeat (first | (with_reducible assumption) | (with_reducible apply Blk.drew) | (with_reducible apply Blk.new; first | rfl | (simp; done)) | (with_reducible apply Blk.alloc) | (with_reducible apply Blk.set_) | (with_reducible apply Blk.past; focus assumption) | (with_reducible apply Blk.far; focus (first | (simp; done) | (simp; omega) | (dsimp only; omega))))); done) | (apply Blk.cast; (case h => (repeat (first | (with_reducible assumption) | (with_reducible apply Blk.drew) | (with_reducible apply Blk.new; first | rfl | (simp; done)) | (with_reducible apply Blk.alloc) | (with_reducible apply Blk.set_) | (with_reducible apply Blk.past; focus assumption) | (with_reducible apply Blk.far; focus (first | (simp; done) | (simp; omega) | (dsimp only; omega)))))); (case e => rfl))))
      (focus (first | ((repeat (first | (with_reducible assumption) | (with_reducible apply Blk.drew) | (with_reducible apply Blk.new; first | rfl | (simp; done)) | (with_reducible apply Blk.alloc) | (with_reducible apply Blk.set_) | (with_reducible apply Blk.past; focus assumption) | (with_reducible apply Blk.far; focus (first | (simp; done) | (simp; omega) | (dsimp only; omega))))); done) | (apply Blk.cast; (case h => (repeat (first | (with_reducible assumption) | (with_reducible apply Blk.drew) | (with_reducible apply Blk.new; first | rfl | (simp; done)) | (with_reducible apply Blk.alloc) | (with_reducible apply Blk.set_) | (with_reducible apply Blk.past; focus assumption) | (with_reducible apply Blk.far; focus (first | (simp; done) | (simp; omega) | (dsimp only; omega)))))); (case e => rfl))))
      (focus (repeat (first | (with_reducible exact Touch.refl _ _) | (with_reducible apply Touch.drew) | (with_reducible apply Touch.alloc) | (with_reducible refine Touch.set_ ?_ _ _ (by simp; done)) | (with_reducible refine Touch.set_new ?_ _ _ (by first | omega | (simp; omega) | (dsimp only; omega))))))
      intro w2 sb_2 v_2 hX2
      have sX2 := hX2.size
      have b_2 := hX2.below b_1 (by first | (simp; done) | (simp; omega))
      have l_2 := own_touch hX2 l_1 l_hi (by first | (simp; done) | (simp; omega))
      have r0_2 := Blk.touch hX2 r0_1 (by first | (simp; done) | (simp; omega))
      have r1_2 := Blk.touch hX2 r1_1 (by first | (simp; done) | (simp; omega))
      clear l_1 v_1 r0_1 r1_1 sb_1 b_1 hX2 cell_v froz_v lt_v cell_r0 froz_r0 lt_r0 cell_r1 froz_r1 lt_r1 cell_sb froz_sb lt_sb
      have cell_v := v_2.cell
      have froz_v := v_2.frozen
      have lt_v := v_2.lt
      have cell_r0 := r0_2.cell
      have froz_r0 := r0_2.frozen
      have lt_r0 := r0_2.lt
      have cell_r1 := r1_2.cell
      have froz_r1 := r1_2.frozen
      have lt_r1 := r1_2.lt
      have cell_sb := sb_2.cell
      have froz_sb := sb_2.frozen
      have lt_sb := sb_2.lt
      go_wp2_with fail
      go_region_held3 (fun w' => w'.cell? ⟨w.heap.size, 0, none⟩ = some (.int .i64 k) ∧ w'.cell? ⟨w.heap.size, 1, none⟩ = some (.int .i64 (n + 1)) ∧ w'.cell? ⟨b, 0, none⟩ = some (.int .i64 n) ∧ w'.cell? ⟨b, 1, none⟩ = some (.slice Al (sealL k n xs).length cl) ∧ w'.cell? ⟨b, 2, none⟩ = some (.int .i64 (tagI k n (sealL k n xs)))) (exact ⟨(Blk.cell (t := 39) (cs := #[.int .i64 k, .int .i64 (n + 1)]) (by repeat (first | (with_reducible assumption) | (with_reducible apply Blk.drew) | (with_reducible apply Blk.new; first | rfl | (simp; done)) | (with_reducible apply Blk.alloc) | (with_reducible apply Blk.set_) | (with_reducible apply Blk.past; focus assumption) | (with_reducible apply Blk.far; focus (first | (simp; done) | (simp; omega) | (dsimp only; omega))))) 0), (Blk.cell (t := 39) (cs := #[.int .i64 k, .int .i64 (n + 1)]) (by repeat (first | (with_reducible assumption) | (with_reducible apply Blk.drew) | (with_reducible apply Blk.new; first | rfl | (simp; done)) | (with_reducible apply Blk.alloc) | (with_reducible apply Blk.set_) | (with_reducible apply Blk.past; focus assumption) | (with_reducible apply Blk.far; focus (first | (simp; done) | (simp; omega) | (dsimp only; omega))))) 1), (Blk.cell (t := 49) (cs := #[.int .i64 n, .slice Al (sealL k n xs).length cl, .int .i64 (tagI k n (sealL k n xs))]) (by repeat (first | (with_reducible assumption) | (with_reducible apply Blk.drew) | (with_reducible apply Blk.new; first | rfl | (simp; done)) | (with_reducible apply Blk.alloc) | (with_reducible apply Blk.set_) | (with_reducible apply Blk.past; focus assumption) | (with_reducible apply Blk.far; focus (first | (simp; done) | (simp; omega) | (dsimp only; omega))))) 0), (Blk.cell (t := 49) (cs := #[.int .i64 n, .slice Al (sealL k n xs).length cl, .int .i64 (tagI k n (sealL k n xs))]) (by repeat (first | (with_reducible assumption) | (with_reducible apply Blk.drew) | (with_reducible apply Blk.new; first | rfl | (simp; done)) | (with_reducible apply Blk.alloc) | (with_reducible apply Blk.set_) | (with_reducible apply Blk.past; focus assumption) | (with_reducible apply Blk.far; focus (first | (simp; done) | (simp; omega) | (dsimp only; omega))))) 1), (Blk.cell (t := 49) (cs := #[.int .i64 n, .slice Al (sealL k n xs).length cl, .int .i64 (tagI k n (sealL k n xs))]) (by repeat (first | (with_reducible assumption) | (with_reducible apply Blk.drew) | (with_reducible apply Blk.new; first | rfl | (simp; done)) | (with_reducible apply Blk.alloc) | (with_reducible apply Blk.set_) | (with_reducible apply Blk.past; focus assumption) | (with_reducible apply Blk.far; focus (first | (simp; done) | (simp; omega) | (dsimp only; omega))))) 2)⟩) (fail)
      go_wp2_with fail
      ((try simp only [Exit.inBlock, Exit.then]); apply bodyPost_ret0; focus ((try simp only [results, Try.results39]); (try go_simp); (try rfl)))
      refine ⟨Al, cl, ?_, ?_, ?_⟩
      · rw [HR.out, HS.out]; simp
      · rw [HS.out]; exact own_weak (base := lo) (by repeat (first | (with_reducible assumption) | (with_reducible apply World.ownsRow.drew) | (with_reducible apply World.ownsRow.alloc) | (with_reducible refine own_set ?_ _ _ (by first | omega | (simp; omega) | (dsimp only; omega))))) (by omega)
      · repeat (first | (with_reducible exact Below.refl _ _) | (with_reducible refine Below.trans ?_ (Below.mono (by assumption) (by first | omega | (simp; done) | (simp; omega) | (simp [*]; done)))) | (with_reducible refine Below.alloc ?_ (by first | omega | (simp; done) | (simp; omega) | (simp [*]; done)) _) | (with_reducible refine Below.setCell ?_ (by first | omega | (simp; done) | (simp; omega) | (simp [*]; done)) _) | (with_reducible refine Below.drew ?_))
  · have hR : saveB k n xs = false := by unfold saveB; rw [h2]; simp
    have HR := hid hR
    clear hR
    go_enter Try.func39, Try.ntmps39
    have b_0 := (Below.refl w.heap.size w)
    have s_0 := b_0.size
    have x_0 := hc
    clear hc
    go_wp2_with fail
    refine calls_forget3 (W := w) (b0 := w.heap.size) (t0 := 39) (c0 := #[.int .i64 k, .int .i64 n]) (b1 := w.heap.size + 1) (t1 := 39) (c1 := #[.int .i64 0, .int .i64 0]) (b2 := w.heap.size + 2) (t2 := 49) (c2 := #[.int .i64 0, .slice none 0 0, .int .i64 0]) ?_ ?_ ?_ ?_ ?_
    (focus (first | ((repeat (first | (with_reducible assumption) | (with_reducible apply Blk.drew) | (with_reducible apply Blk.new; first | rfl | (simp; done)) | (with_reducible apply Blk.alloc) | (with_reducible apply Blk.set_) | (with_reducible apply Blk.past; focus assumption) | (with_reducible apply Blk.far; focus (first | (simp; done) | (simp; omega) | (dsimp only; omega))))); done) | (apply Blk.cast; (case h => (repeat (first | (with_reducible assumption) | (with_reducible apply Blk.drew) | (with_reducible apply Blk.new; first | rfl | (simp; done)) | (with_reducible apply Blk.alloc) | (with_reducible apply Blk.set_) | (with_reducible apply Blk.past; focus assumption) | (with_reducible apply Blk.far; focus (first | (simp; done) | (simp; omega) | (dsimp only; omega)))))); (case e => rfl))))
    (focus (first | ((repeat (first | (with_reducible assumption) | (with_reducible apply Blk.drew) | (with_reducible apply Blk.new; first | rfl | (simp; done)) | (with_reducible apply Blk.alloc) | (with_reducible apply Blk.set_) | (with_reducible apply Blk.past; focus assumption) | (with_reducible apply Blk.far; focus (first | (simp; done) | (simp; omega) | (dsimp only; omega))))); done) | (apply Blk.cast; (case h => (repeat (first | (with_reducible assumption) | (with_reducible apply Blk.drew) | (with_reducible apply Blk.new; first | rfl | (simp; done)) | (with_reducible apply Blk.alloc) | (with_reducible apply Blk.set_) | (with_reducible apply Blk.past; focus assumption) | (with_reducible apply Blk.far; focus (first | (simp; done) | (simp; omega) | (dsimp only; omega)))))); (case e => rfl))))
    (focus (first | ((repeat (first | (with_reducible assumption) | (with_reducible apply Blk.drew) | (with_reducible apply Blk.new; first | rfl | (simp; done)) | (with_reducible apply Blk.alloc) | (with_reducible apply Blk.set_) | (with_reducible apply Blk.past; focus assumption) | (with_reducible apply Blk.far; focus (first | (simp; done) | (simp; omega) | (dsimp only; omega))))); done) | (apply Blk.cast; (case h => (repeat (first | (with_reducible assumption) | (with_reducible apply Blk.drew) | (with_reducible apply Blk.new; first | rfl | (simp; done)) | (with_reducible apply Blk.alloc) | (with_reducible apply Blk.set_) | (with_reducible apply Blk.past; focus assumption) | (with_reducible apply Blk.far; focus (first | (simp; done) | (simp; omega) | (dsimp only; omega)))))); (case e => rfl))))
    (focus (repeat (first | (with_reducible exact Below.refl _ _) | (with_reducible refine Below.trans ?_ (Below.mono (by assumption) (by first | omega | (simp; done) | (simp; omega) | (simp [*]; done)))) | (with_reducible refine Below.alloc ?_ (by first | omega | (simp; done) | (simp; omega) | (simp [*]; done)) _) | (with_reducible refine Below.setCell ?_ (by first | omega | (simp; done) | (simp; omega) | (simp [*]; done)) _) | (with_reducible refine Below.drew ?_))))
    intro X1 v_n r0_n r1_n hX1
    have sX1 := hX1.size
    have v_lt := v_n.lt
    have r0_lt := r0_n.lt
    have r1_lt := r1_n.lt
    refine (sVaultOk _ _ _).mono ?_
    rintro e w1 ⟨rfl, hb1⟩
    have s1 := hb1.size
    have hT1 := hX1.trans (hb1.mono sX1)
    have b_1 := b_0.trans (hT1.mono (by omega))
    have x_1 := cells_below x_0 hT1 (by omega)
    have v_1 := Blk.past hb1 v_n
    have r0_1 := Blk.past hb1 r0_n
    have r1_1 := Blk.past hb1 r1_n
    clear x_0 v_n r0_n r1_n b_0 hT1 hX1 hb1
    have cell_v := v_1.cell
    have froz_v := v_1.frozen
    have lt_v := v_1.lt
    have cell_r0 := r0_1.cell
    have froz_r0 := r0_1.frozen
    have lt_r0 := r0_1.lt
    have cell_r1 := r1_1.cell
    have froz_r1 := r1_1.frozen
    have lt_r1 := r1_1.lt
    go_wp2
    ((try simp only [Exit.inBlock, Exit.then]); apply bodyPost_ret0; focus ((try simp only [results, Try.results39]); (try go_simp); (try rfl)))
    refine saveB_no _ _ _ HR.out _ _ ?_ _ rfl
    repeat (first | (with_reducible exact Below.refl _ _) | (with_reducible refine Below.trans ?_ (Below.mono (by assumption) (by first | omega | (simp; done) | (simp; omega) | (simp [*]; done)))) | (with_reducible refine Below.alloc ?_ (by first | omega | (simp; done) | (simp; omega) | (simp [*]; done)) _) | (with_reducible refine Below.setCell ?_ (by first | omega | (simp; done) | (simp; omega) | (simp [*]; done)) _) | (with_reducible refine Below.drew ?_))
  · have hR : saveB k n xs = false := by unfold saveB; rw [h1]; rfl
    have HR := hid hR
    clear hR
    go_enter Try.func39, Try.ntmps39
    have b_0 := (Below.refl w.heap.size w)
    have s_0 := b_0.size
    have x_0 := hc
    clear hc
    go_wp2_with fail
    refine calls_forget3 (W := w) (b0 := w.heap.size) (t0 := 39) (c0 := #[.int .i64 k, .int .i64 n]) (b1 := w.heap.size + 1) (t1 := 39) (c1 := #[.int .i64 0, .int .i64 0]) (b2 := w.heap.size + 2) (t2 := 49) (c2 := #[.int .i64 0, .slice none 0 0, .int .i64 0]) ?_ ?_ ?_ ?_ ?_
    (focus (first | ((repeat (first | (with_reducible assumption) | (with_reducible apply Blk.drew) | (with_reducible apply Blk.new; first | rfl | (simp; done)) | (with_reducible apply Blk.alloc) | (with_reducible apply Blk.set_) | (with_reducible apply Blk.past; focus assumption) | (with_reducible apply Blk.far; focus (first | (simp; done) | (simp; omega) | (dsimp only; omega))))); done) | (apply Blk.cast; (case h => (repeat (first | (with_reducible assumption) | (with_reducible apply Blk.drew) | (with_reducible apply Blk.new; first | rfl | (simp; done)) | (with_reducible apply Blk.alloc) | (with_reducible apply Blk.set_) | (with_reducible apply Blk.past; focus assumption) | (with_reducible apply Blk.far; focus (first | (simp; done) | (simp; omega) | (dsimp only; omega)))))); (case e => rfl))))
    (focus (first | ((repeat (first | (with_reducible assumption) | (with_reducible apply Blk.drew) | (with_reducible apply Blk.new; first | rfl | (simp; done)) | (with_reducible apply Blk.alloc) | (with_reducible apply Blk.set_) | (with_reducible apply Blk.past; focus assumption) | (with_reducible apply Blk.far; focus (first | (simp; done) | (simp; omega) | (dsimp only; omega))))); done) | (apply Blk.cast; (case h => (repeat (first | (with_reducible assumption) | (with_reducible apply Blk.drew) | (with_reducible apply Blk.new; first | rfl | (simp; done)) | (with_reducible apply Blk.alloc) | (with_reducible apply Blk.set_) | (with_reducible apply Blk.past; focus assumption) | (with_reducible apply Blk.far; focus (first | (simp; done) | (simp; omega) | (dsimp only; omega)))))); (case e => rfl))))
    (focus (first | ((repeat (first | (with_reducible assumption) | (with_reducible apply Blk.drew) | (with_reducible apply Blk.new; first | rfl | (simp; done)) | (with_reducible apply Blk.alloc) | (with_reducible apply Blk.set_) | (with_reducible apply Blk.past; focus assumption) | (with_reducible apply Blk.far; focus (first | (simp; done) | (simp; omega) | (dsimp only; omega))))); done) | (apply Blk.cast; (case h => (repeat (first | (with_reducible assumption) | (with_reducible apply Blk.drew) | (with_reducible apply Blk.new; first | rfl | (simp; done)) | (with_reducible apply Blk.alloc) | (with_reducible apply Blk.set_) | (with_reducible apply Blk.past; focus assumption) | (with_reducible apply Blk.far; focus (first | (simp; done) | (simp; omega) | (dsimp only; omega)))))); (case e => rfl))))
    (focus (repeat (first | (with_reducible exact Below.refl _ _) | (with_reducible refine Below.trans ?_ (Below.mono (by assumption) (by first | omega | (simp; done) | (simp; omega) | (simp [*]; done)))) | (with_reducible refine Below.alloc ?_ (by first | omega | (simp; done) | (simp; omega) | (simp [*]; done)) _) | (with_reducible refine Below.setCell ?_ (by first | omega | (simp; done) | (simp; omega) | (simp [*]; done)) _) | (with_reducible refine Below.drew ?_))))
    intro X1 v_n r0_n r1_n hX1
    have sX1 := hX1.size
    have v_lt := v_n.lt
    have r0_lt := r0_n.lt
    have r1_lt := r1_n.lt
    refine (sVaultOk _ _ _).mono ?_
    rintro e w1 ⟨rfl, hb1⟩
    have s1 := hb1.size
    have hT1 := hX1.trans (hb1.mono sX1)
    have b_1 := b_0.trans (hT1.mono (by omega))
    have x_1 := cells_below x_0 hT1 (by omega)
    have v_1 := Blk.past hb1 v_n
    have r0_1 := Blk.past hb1 r0_n
    have r1_1 := Blk.past hb1 r1_n
    clear x_0 v_n r0_n r1_n b_0 hT1 hX1 hb1
    have cell_v := v_1.cell
    have froz_v := v_1.frozen
    have lt_v := v_1.lt
    have cell_r0 := r0_1.cell
    have froz_r0 := r0_1.frozen
    have lt_r0 := r0_1.lt
    have cell_r1 := r1_1.cell
    have froz_r1 := r1_1.frozen
    have lt_r1 := r1_1.lt
    go_wp2
    ((try simp only [Exit.inBlock, Exit.then]); apply bodyPost_ret0; focus ((try simp only [results, Try.results39]); (try go_simp); (try rfl)))
    refine saveB_no _ _ _ HR.out _ _ ?_ _ rfl
    repeat (first | (with_reducible exact Below.refl _ _) | (with_reducible refine Below.trans ?_ (Below.mono (by assumption) (by first | omega | (simp; done) | (simp; omega) | (simp [*]; done)))) | (with_reducible refine Below.alloc ?_ (by first | omega | (simp; done) | (simp; omega) | (simp [*]; done)) _) | (with_reducible refine Below.setCell ?_ (by first | omega | (simp; done) | (simp; omega) | (simp [*]; done)) _) | (with_reducible refine Below.drew ?_))
end Go.Proofs.Ytdfomahaplcgoaa
