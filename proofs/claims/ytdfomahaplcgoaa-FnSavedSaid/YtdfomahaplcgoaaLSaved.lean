/- The law that the last checkpoint can be loaded, and older or changed ones are rejected (FnSaved). No conditions. -/
import Derived.Test.YtdfomahaplcgoaaSave
import Derived.Test.YtdfomahaplcgoaaLPads
import Derived.Test.YtdfomahaplcgoaaSavedLaw
import Derived.StillTailTactics
set_option linter.unusedVariables false
namespace Go.Proofs.Ytdfomahaplcgoaa
open Go.RowKit Go.ChangeShapes Go.WideShapes Go.ChangeAt

namespace saved
theorem iSave_ok (k n : Int) (A : Option Addr) (c : Nat) (xs : List Int) (w : World) (h : saveB k n xs = true) (hlen : (sealL k n xs).length = xs.length) (hc : Cells w w.heap.size A (ints xs)) (hl : xs.length ≤ 1000000000) :
    Calls Try.prog 25 #[.agg #[.int .i64 k, .int .i64 n], .slice A xs.length c] w fun e w' => ∃ A' c', e = .returned (.tuple #[.agg #[.int .i64 k, .int .i64 (n + 1)],
      .agg #[.int .i64 n, .slice A' xs.length c', .int .i64 (tagI k n (sealL k n xs))], .bool true]) ∧ w'.ownsRow w.heap.size 3 1 (.slice A' xs.length c') xs.length (ints (sealL k n xs)) ∧ Below w.heap.size w w' := by
  have h0 := iSave k n A c xs w hc hl
  have e : saveL k n xs = sealL k n xs := by unfold saveL; rw [h]; rfl
  unfold GivesSave at h0
  rw [e, h, hlen] at h0
  exact h0
theorem iLoad_ok (k n m : Int) (A : Option Addr) (c l : Nat) (ys zs : List Int) (t : Int) (w : World) (hl : ys.length = l) (h : loadB k n m ys t = true) (hz : sealL k m ys = zs) (hc : Cells w w.heap.size A (ints ys)) (hl2 : l ≤ 1000000000) :
    Calls Try.prog 26 #[.agg #[.int .i64 k, .int .i64 n], .agg #[.int .i64 m, .slice A l c, .int .i64 t]] w fun e w' => ∃ A' c', e = .returned (.tuple #[.slice A' zs.length c', .bool true]) ∧
      w'.ownsRow w.heap.size 3 1 (.slice A' zs.length c') zs.length (ints zs) ∧ Below w.heap.size w w' := by
  subst hl
  have h0 := iLoad k n m A c ys t w hc hl2
  have e : loadL k n m ys t = zs := by unfold loadL; rw [h]; exact hz
  rw [e, h] at h0
  exact h0
theorem iLoad_no (k n m : Int) (A : Option Addr) (c l : Nat) (ys : List Int) (t : Int) (w : World) (hl : ys.length = l) (h : loadB k n m ys t = false) (hc : Cells w w.heap.size A (ints ys)) (hl2 : l ≤ 1000000000) :
    Calls Try.prog 26 #[.agg #[.int .i64 k, .int .i64 n], .agg #[.int .i64 m, .slice A l c, .int .i64 t]] w fun e w' => ∃ A' c', e = .returned (.tuple #[.slice A' 0 c', .bool false]) ∧
      w'.ownsRow w.heap.size 3 1 (.slice A' 0 c') 0 [] ∧ Below w.heap.size w w' := by
  subst hl
  have h0 := iLoad k n m A c ys t w hc hl2
  have e : loadL k n m ys t = [] := by unfold loadL; rw [h]; rfl
  rw [e, h] at h0
  exact h0
theorem iVault_yes (k n : Int) (w : World) (h : vaultOkB k n = true) :
    Calls Try.prog 27 #[.agg #[.int .i64 k, .int .i64 n]] w fun e w' => e = .returned (.bool true) ∧ Below w.heap.size w w' := by
  have h0 := iVaultOk k n w
  rw [h] at h0
  exact h0
theorem places_at (A : Option Addr) (c : Nat) (bs : List Int) (w : World) (hb : Bytes w w.heap.size A bs) :
    Calls Try.prog 12 #[.slice A bs.length c] w fun e w' => ∃ (ps : List Int) (A' : Option Addr) (c' : Nat), (ps.length = 12 ∧ ∀ x ∈ ps, 0 ≤ x ∧ x < 10000) ∧ e = .returned (.slice A' 12 c') ∧
      w'.ownsRow w.heap.size 3 1 (.slice A' 12 c') 12 (ints ps) ∧ Below w.heap.size w w' := by
  refine (places_any A c bs w hb).mono ?_
  rintro e w' ⟨ps, hl, hs, A', c', he, ho, hb'⟩
  rw [hl] at he ho
  exact ⟨ps, A', c', ⟨hl, hs⟩, he, ho, hb'⟩
theorem ask_small {xs : List Int} (hw : wordsB xs = true) (hl : xs.length ≤ 40) : askB xs = true := by
  unfold askB
  rw [hw]
  have : ((xs.length : Nat) : Int) ≤ 40 := by omega
  simp [this]
theorem vault_small {k n : Int} (hk : isWordB k = true) (h0 : 0 ≤ n) (h1 : n ≤ 100000) : vaultOkB k n = true := by
  unfold vaultOkB
  rw [hk, inB_iff.2 ⟨h0, h1⟩]
  rfl
theorem save_small {k n : Int} {xs : List Int} (hk : isWordB k = true) (h0 : 0 ≤ n) (h1 : n < 100000) (hw : wordsB xs = true) (hl : xs.length ≤ 40) : saveB k n xs = true := by
  unfold saveB
  rw [vault_small hk h0 (by omega), ask_small hw hl]
  have : (n == 100000) = false := by simp; omega
  rw [this]
  rfl
theorem load_small {k n : Int} {ys : List Int} (hk : isWordB k = true) (h0 : 0 ≤ n) (h1 : n < 100000) (hw : wordsB ys = true) (hl : ys.length ≤ 40) (t : Int) : loadB k (n + 1) n ys t = !(t != tagI k n ys) := by
  unfold loadB
  rw [vault_small hk (by omega) (by omega), ask_small hw hl]
  have e1 : (n + 1 == 0) = false := by simp; omega
  have e2 : (n != n + 1 - 1) = false := by first | (simp; done) | (simp; omega)
  rw [e1, e2]
  simp
theorem load_old {k n : Int} (ys : List Int) (t : Int) : loadB k (n + 1 + 1) n ys t = false := by
  unfold loadB
  have e2 : (n != n + 1 + 1 - 1) = true := by simp; omega
  rw [e2]
  simp
set_option maxRecDepth 100000 in
set_option maxHeartbeats 6400000 in
theorem walk (A : Option Addr) (c : Nat) (bs : List Int) (w : World) (hb : Bytes w w.heap.size A bs) :
    Calls Try.prog 7 #[.slice A bs.length c] w fun e w' => e = .returned (.bool true) ∧ Below w.heap.size w w' := by
  have hl := hb.len
  have HB := hid hb
  clear hb
  by_cases h1 : (1048576 : Int) < (bs.length : Int)
  · go_enter Try.func7, Try.ntmps7
    go_wp2_with (go_at_call 11; refine (big_any _ _ _ _ hl).mono ?_; rintro e w' ⟨rfl, rfl⟩)
    go_ret
    exact ⟨rfl, Below.refl _ _⟩
  go_enter Try.func7, Try.ntmps7
  go_wp2_with fail
  refine (big_any _ _ _ _ hl).mono ?_
  rintro e w' ⟨rfl, rfl⟩
  go_wp2_with fail
  refine (state_any _ _ _ _ HB.out).mono ?_
  rintro e w0 ⟨k, n, xs, A', c', hk, hn0, hn1, hx1, hx6, hws, rfl, hown, hb0⟩
  obtain ⟨gw, rfl, hg0, hg1, hgc⟩ := own_at hown (by omega)
  have hs1 := sealB_small (n := n) hk hn0 (by omega) hws (by omega)
  have hlen := sealL_len hs1
  have hs1b := sealB_small (n := n + 1) hk (by omega) (by omega) hws (by omega)
  have hlenb := sealL_len hs1b
  have hsw := sealL_words hs1 hws
  have hs2 := sealB_small (n := n) hk hn0 (by omega) hsw (by omega)
  have HT := hid (sealL_twice hs1 hws hs2)
  have HSV := hid (save_small (n := n) hk hn0 (by omega) hws (by omega))
  have HSV2 := hid (save_small (n := n + 1) hk (by omega) (by omega) hws (by omega))
  have HLEN := hid hlen
  have HLENB := hid hlenb
  have hld := load_small (n := n) hk hn0 (by omega) hsw (by omega) (tagI k n (sealL k n xs))
  have HLD := hid (show loadB k (n + 1) n (sealL k n xs) (tagI k n (sealL k n xs)) = true by rw [hld]; simp)
  have HVO := hid (vault_small (n := n + 1 + 1) hk (by omega) (by omega))
  have HK := hid hk
  have HSW := hid hsw
  have HS2 := hid hs2
  clear hk hws hgc hs1 hlen hsw hs2 hs1b hlenb hld
  have b_0 := hb0
  have s_0 := b_0.size
  have wd_in := own_in hown
  have wd_0 := hown
  clear hown
  go_wp2_with fail
  refine calls_forget1 (W := w0) (b0 := w0.heap.size) (t0 := 39) (c0 := #[.int .i64 k, .int .i64 n]) ?_ ?_ ?_
  (focus (first | ((repeat (first | (with_reducible assumption) | (with_reducible apply Blk.drew) | (with_reducible apply Blk.drewN) | (with_reducible apply Blk.new; first | rfl | (simp; done)) | (with_reducible apply Blk.alloc) | (with_reducible apply Blk.set_) | (with_reducible apply Blk.past; focus assumption) | (with_reducible apply Blk.far; focus (first | (simp; done) | (simp; omega) | (dsimp only; omega))))); done) | (apply Blk.cast; (case h => (repeat (first | (with_reducible assumption) | (with_reducible apply Blk.drew) | (with_reducible apply Blk.drewN) | (with_reducible apply Blk.new; first | rfl | (simp; done)) | (with_reducible apply Blk.alloc) | (with_reducible apply Blk.set_) | (with_reducible apply Blk.past; focus assumption) | (with_reducible apply Blk.far; focus (first | (simp; done) | (simp; omega) | (dsimp only; omega)))))); (case e => rfl))))
  (focus (repeat (first | (with_reducible exact Below.refl _ _) | (with_reducible refine Below.trans ?_ (Below.mono (by assumption) (by first | omega | (simp; done) | (simp; omega) | (simp [*]; done)))) | (with_reducible refine Below.alloc ?_ (by first | omega | (simp; done) | (simp; omega) | (simp [*]; done)) _) | (with_reducible refine Below.setCell ?_ (by first | omega | (simp; done) | (simp; omega) | (simp [*]; done)) _) | (with_reducible refine Below.drew ?_))))
  intro X1 v_n hX1
  have sX1 := hX1.size
  have v_lt := v_n.lt
  refine (places_at _ _ _ _ ((HB.out.step (b_0.trans (hX1.mono (by omega)))).more (by omega))).mono ?_
  rintro e w1 ⟨ps, Ap, cp, hps, rfl, pl_1, hb1⟩
  have s1 := hb1.size
  have hT1 := hX1.trans (hb1.mono sX1)
  have b_1 := b_0.trans (hT1.mono (by omega))
  have wd_1 := own_below wd_0 hT1
  have v_1 := Blk.past hb1 v_n
  have pl_in := own_in pl_1
  clear wd_0 b_0 v_n hX1 hT1 hb1
  have cell_v := v_1.cell
  have froz_v := v_1.frozen
  have lt_v := v_1.lt
  go_wp2_with fail
  refine calls_forget0 (W := w1) ?_ ?_
  (focus (repeat (first | (with_reducible exact Below.refl _ _) | (with_reducible refine Below.trans ?_ (Below.mono (by assumption) (by first | omega | (simp; done) | (simp; omega) | (simp [*]; done)))) | (with_reducible refine Below.alloc ?_ (by first | omega | (simp; done) | (simp; omega) | (simp [*]; done)) _) | (with_reducible refine Below.setCell ?_ (by first | omega | (simp; done) | (simp; omega) | (simp [*]; done)) _) | (with_reducible refine Below.drew ?_))))
  intro X2 hX2
  have sX2 := hX2.size
  refine (iSave_ok _ _ _ _ _ _ HSV.out HLEN.out (Cells.of_own (own_below wd_1 hX2)) (by omega)).mono ?_
  rintro e w2 ⟨As, cs, rfl, sl_2, hb2⟩
  have s2 := hb2.size
  have hT2 := hX2.trans (hb2.mono sX2)
  have b_2 := b_1.trans (hT2.mono (by omega))
  have wd_2 := own_below wd_1 hT2
  have pl_2 := own_below pl_1 hT2
  have v_2 := Blk.past hT2 v_1
  have sl_in := own_in sl_2
  clear wd_1 pl_1 v_1 b_1 cell_v froz_v lt_v hX2 hT2 hb2
  have cell_v := v_2.cell
  have froz_v := v_2.frozen
  have lt_v := v_2.lt
  go_wp2_with fail
  refine calls_forget2 (W := w2) (b0 := w2.heap.size) (t0 := 39) (c0 := #[.int .i64 k, .int .i64 (n + 1)]) (b1 := w2.heap.size + 1) (t1 := 49) (c1 := #[.int .i64 n, .slice As xs.length cs, .int .i64 (tagI k n (sealL k n xs))]) ?_ ?_ ?_ ?_
  (focus (first | ((repeat (first | (with_reducible assumption) | (with_reducible apply Blk.drew) | (with_reducible apply Blk.drewN) | (with_reducible apply Blk.new; first | rfl | (simp; done)) | (with_reducible apply Blk.alloc) | (with_reducible apply Blk.set_) | (with_reducible apply Blk.past; focus assumption) | (with_reducible apply Blk.far; focus (first | (simp; done) | (simp; omega) | (dsimp only; omega))))); done) | (apply Blk.cast; (case h => (repeat (first | (with_reducible assumption) | (with_reducible apply Blk.drew) | (with_reducible apply Blk.drewN) | (with_reducible apply Blk.new; first | rfl | (simp; done)) | (with_reducible apply Blk.alloc) | (with_reducible apply Blk.set_) | (with_reducible apply Blk.past; focus assumption) | (with_reducible apply Blk.far; focus (first | (simp; done) | (simp; omega) | (dsimp only; omega)))))); (case e => rfl))))
  (focus (first | ((repeat (first | (with_reducible assumption) | (with_reducible apply Blk.drew) | (with_reducible apply Blk.drewN) | (with_reducible apply Blk.new; first | rfl | (simp; done)) | (with_reducible apply Blk.alloc) | (with_reducible apply Blk.set_) | (with_reducible apply Blk.past; focus assumption) | (with_reducible apply Blk.far; focus (first | (simp; done) | (simp; omega) | (dsimp only; omega))))); done) | (apply Blk.cast; (case h => (repeat (first | (with_reducible assumption) | (with_reducible apply Blk.drew) | (with_reducible apply Blk.drewN) | (with_reducible apply Blk.new; first | rfl | (simp; done)) | (with_reducible apply Blk.alloc) | (with_reducible apply Blk.set_) | (with_reducible apply Blk.past; focus assumption) | (with_reducible apply Blk.far; focus (first | (simp; done) | (simp; omega) | (dsimp only; omega)))))); (case e => rfl))))
  (focus (repeat (first | (with_reducible exact Below.refl _ _) | (with_reducible refine Below.trans ?_ (Below.mono (by assumption) (by first | omega | (simp; done) | (simp; omega) | (simp [*]; done)))) | (with_reducible refine Below.alloc ?_ (by first | omega | (simp; done) | (simp; omega) | (simp [*]; done)) _) | (with_reducible refine Below.setCell ?_ (by first | omega | (simp; done) | (simp; omega) | (simp [*]; done)) _) | (with_reducible refine Below.drew ?_))))
  intro X3 a_n sb_n hX3
  have sX3 := hX3.size
  have a_lt := a_n.lt
  have sb_lt := sb_n.lt
  refine (iLoad_ok _ _ _ _ _ _ _ xs _ _ HLEN.out HLD.out HT.out (Cells.of_own (own_below sl_2 hX3)) (by omega)).mono ?_
  rintro e w3 ⟨Al, cl, rfl, l_3, hb3⟩
  have s3 := hb3.size
  have hT3 := hX3.trans (hb3.mono sX3)
  have b_3 := b_2.trans (hT3.mono (by omega))
  have wd_3 := own_below wd_2 hT3
  have pl_3 := own_below pl_2 hT3
  have sl_3 := own_below sl_2 hT3
  have v_3 := Blk.past hT3 v_2
  have a_3 := Blk.past hb3 a_n
  have sb_3 := Blk.past hb3 sb_n
  have l_in := own_in l_3
  clear wd_2 pl_2 sl_2 v_2 b_2 cell_v froz_v lt_v a_n sb_n hX3 hT3 hb3
  have cell_v := v_3.cell
  have froz_v := v_3.frozen
  have lt_v := v_3.lt
  have cell_a := a_3.cell
  have froz_a := a_3.frozen
  have lt_a := a_3.lt
  have cell_sb := sb_3.cell
  have froz_sb := sb_3.frozen
  have lt_sb := sb_3.lt
  go_wp2_with fail
  refine calls_forget0 (W := w3) ?_ ?_
  (focus (repeat (first | (with_reducible exact Below.refl _ _) | (with_reducible refine Below.trans ?_ (Below.mono (by assumption) (by first | omega | (simp; done) | (simp; omega) | (simp [*]; done)))) | (with_reducible refine Below.alloc ?_ (by first | omega | (simp; done) | (simp; omega) | (simp [*]; done)) _) | (with_reducible refine Below.setCell ?_ (by first | omega | (simp; done) | (simp; omega) | (simp [*]; done)) _) | (with_reducible refine Below.drew ?_))))
  intro X4 hX4
  have sX4 := hX4.size
  refine (iSave_ok _ _ _ _ _ _ HSV2.out HLENB.out (Cells.of_own (own_below wd_3 hX4)) (by omega)).mono ?_
  rintro e w4 ⟨As2, cs2, rfl, s2_4, hb4⟩
  have s4 := hb4.size
  have hT4 := hX4.trans (hb4.mono sX4)
  have b_4 := b_3.trans (hT4.mono (by omega))
  have wd_4 := own_below wd_3 hT4
  have pl_4 := own_below pl_3 hT4
  have sl_4 := own_below sl_3 hT4
  have l_4 := own_below l_3 hT4
  have v_4 := Blk.past hT4 v_3
  have a_4 := Blk.past hT4 a_3
  have sb_4 := Blk.past hT4 sb_3
  have s2_in := own_in s2_4
  clear wd_3 pl_3 sl_3 l_3 v_3 a_3 sb_3 b_3 cell_v froz_v lt_v cell_a froz_a lt_a cell_sb froz_sb lt_sb hX4 hT4 hb4
  have cell_v := v_4.cell
  have froz_v := v_4.frozen
  have lt_v := v_4.lt
  have cell_a := a_4.cell
  have froz_a := a_4.frozen
  have lt_a := a_4.lt
  have cell_sb := sb_4.cell
  have froz_sb := sb_4.frozen
  have lt_sb := sb_4.lt
  go_wp2_with fail
  refine calls_forget2 (W := w4) (b0 := w4.heap.size) (t0 := 39) (c0 := #[.int .i64 k, .int .i64 (n + 1 + 1)]) (b1 := w4.heap.size + 1) (t1 := 49) (c1 := #[.int .i64 (n + 1), .slice As2 xs.length cs2, .int .i64 (tagI k (n + 1) (sealL k (n + 1) xs))]) ?_ ?_ ?_ ?_
  (focus (first | ((repeat (first | (with_reducible assumption) | (with_reducible apply Blk.drew) | (with_reducible apply Blk.drewN) | (with_reducible apply Blk.new; first | rfl | (simp; done)) | (with_reducible apply Blk.alloc) | (with_reducible apply Blk.set_) | (with_reducible apply Blk.past; focus assumption) | (with_reducible apply Blk.far; focus (first | (simp; done) | (simp; omega) | (dsimp only; omega))))); done) | (apply Blk.cast; (case h => (repeat (first | (with_reducible assumption) | (with_reducible apply Blk.drew) | (with_reducible apply Blk.drewN) | (with_reducible apply Blk.new; first | rfl | (simp; done)) | (with_reducible apply Blk.alloc) | (with_reducible apply Blk.set_) | (with_reducible apply Blk.past; focus assumption) | (with_reducible apply Blk.far; focus (first | (simp; done) | (simp; omega) | (dsimp only; omega)))))); (case e => rfl))))
  (focus (first | ((repeat (first | (with_reducible assumption) | (with_reducible apply Blk.drew) | (with_reducible apply Blk.drewN) | (with_reducible apply Blk.new; first | rfl | (simp; done)) | (with_reducible apply Blk.alloc) | (with_reducible apply Blk.set_) | (with_reducible apply Blk.past; focus assumption) | (with_reducible apply Blk.far; focus (first | (simp; done) | (simp; omega) | (dsimp only; omega))))); done) | (apply Blk.cast; (case h => (repeat (first | (with_reducible assumption) | (with_reducible apply Blk.drew) | (with_reducible apply Blk.drewN) | (with_reducible apply Blk.new; first | rfl | (simp; done)) | (with_reducible apply Blk.alloc) | (with_reducible apply Blk.set_) | (with_reducible apply Blk.past; focus assumption) | (with_reducible apply Blk.far; focus (first | (simp; done) | (simp; omega) | (dsimp only; omega)))))); (case e => rfl))))
  (focus (repeat (first | (with_reducible exact Below.refl _ _) | (with_reducible refine Below.trans ?_ (Below.mono (by assumption) (by first | omega | (simp; done) | (simp; omega) | (simp [*]; done)))) | (with_reducible refine Below.alloc ?_ (by first | omega | (simp; done) | (simp; omega) | (simp [*]; done)) _) | (with_reducible refine Below.setCell ?_ (by first | omega | (simp; done) | (simp; omega) | (simp [*]; done)) _) | (with_reducible refine Below.drew ?_))))
  intro X5 bb_n sb2_n hX5
  have sX5 := hX5.size
  have bb_lt := bb_n.lt
  have sb2_lt := sb2_n.lt
  refine (iLoad_no _ _ _ _ _ _ (sealL k n xs) _ _ HLEN.out (load_old _ _) (Cells.of_own (own_below sl_4 hX5)) (by omega)).mono ?_
  rintro e w5 ⟨Al2, cl2, rfl, l2_5, hb5⟩
  have s5 := hb5.size
  have hT5 := hX5.trans (hb5.mono sX5)
  have b_5 := b_4.trans (hT5.mono (by omega))
  have wd_5 := own_below wd_4 hT5
  have pl_5 := own_below pl_4 hT5
  have sl_5 := own_below sl_4 hT5
  have l_5 := own_below l_4 hT5
  have s2_5 := own_below s2_4 hT5
  have v_5 := Blk.past hT5 v_4
  have a_5 := Blk.past hT5 a_4
  have sb_5 := Blk.past hT5 sb_4
  have bb_5 := Blk.past hb5 bb_n
  have sb2_5 := Blk.past hb5 sb2_n
  have l2_in := own_in l2_5
  clear wd_4 pl_4 sl_4 l_4 s2_4 v_4 a_4 sb_4 b_4 cell_v froz_v lt_v cell_a froz_a lt_a cell_sb froz_sb lt_sb bb_n sb2_n hX5 hT5 hb5
  have cell_v := v_5.cell
  have froz_v := v_5.frozen
  have lt_v := v_5.lt
  have cell_a := a_5.cell
  have froz_a := a_5.frozen
  have lt_a := a_5.lt
  have cell_sb := sb_5.cell
  have froz_sb := sb_5.frozen
  have lt_sb := sb_5.lt
  have cell_bb := bb_5.cell
  have froz_bb := bb_5.frozen
  have lt_bb := bb_5.lt
  have cell_sb2 := sb2_5.cell
  have froz_sb2 := sb2_5.frozen
  have lt_sb2 := sb2_5.lt
  go_wp2_with fail
  refine calls_forget0 (W := w5) ?_ ?_
  (focus (repeat (first | (with_reducible exact Below.refl _ _) | (with_reducible refine Below.trans ?_ (Below.mono (by assumption) (by first | omega | (simp; done) | (simp; omega) | (simp [*]; done)))) | (with_reducible refine Below.alloc ?_ (by first | omega | (simp; done) | (simp; omega) | (simp [*]; done)) _) | (with_reducible refine Below.setCell ?_ (by first | omega | (simp; done) | (simp; omega) | (simp [*]; done)) _) | (with_reducible refine Below.drew ?_))))
  intro X6 hX6
  have sX6 := hX6.size
  refine (sameInts_same _ _ _ _ _ _ (Cells.of_own (own_below l_5 hX6)) (Cells.of_own (own_below wd_5 hX6)) (by omega)).mono ?_
  rintro e w6 ⟨rfl, hb6⟩
  have s6 := hb6.size
  have hT6 := hX6.trans (hb6.mono sX6)
  have b_6 := b_5.trans (hT6.mono (by omega))
  have wd_6 := own_below wd_5 hT6
  have pl_6 := own_below pl_5 hT6
  have sl_6 := own_below sl_5 hT6
  have l_6 := own_below l_5 hT6
  have s2_6 := own_below s2_5 hT6
  have l2_6 := own_below l2_5 hT6
  have v_6 := Blk.past hT6 v_5
  have a_6 := Blk.past hT6 a_5
  have sb_6 := Blk.past hT6 sb_5
  have bb_6 := Blk.past hT6 bb_5
  have sb2_6 := Blk.past hT6 sb2_5
  clear wd_5 pl_5 sl_5 l_5 s2_5 l2_5 v_5 a_5 sb_5 bb_5 sb2_5 b_5 cell_v froz_v lt_v cell_a froz_a lt_a cell_sb froz_sb lt_sb cell_bb froz_bb lt_bb cell_sb2 froz_sb2 lt_sb2 hX6 hT6 hb6
  have cell_v := v_6.cell
  have froz_v := v_6.frozen
  have lt_v := v_6.lt
  have cell_a := a_6.cell
  have froz_a := a_6.frozen
  have lt_a := a_6.lt
  have cell_sb := sb_6.cell
  have froz_sb := sb_6.frozen
  have lt_sb := sb_6.lt
  have cell_bb := bb_6.cell
  have froz_bb := bb_6.frozen
  have lt_bb := bb_6.lt
  have cell_sb2 := sb2_6.cell
  have froz_sb2 := sb2_6.frozen
  have lt_sb2 := sb2_6.lt
  obtain ⟨gs, rfl, hgs0, hgs1, _⟩ := own_at sl_6 (by omega)
  obtain ⟨gp, rfl, hgp0, hgp1, hpc⟩ := own_at pl_6 (by omega)
  obtain ⟨x0, e0⟩ : ∃ x, ps[0]? = some x := ⟨_, List.getElem?_eq_getElem (by omega)⟩
  obtain ⟨x1, e1⟩ : ∃ x, ps[1]? = some x := ⟨_, List.getElem?_eq_getElem (by omega)⟩
  obtain ⟨p0, q0⟩ := hps.2 x0 (List.mem_of_getElem? e0)
  obtain ⟨p1, q1⟩ := hps.2 x1 (List.mem_of_getElem? e1)
  have hf0 := hpc 0 _ (ints_get e0)
  have hf1 := hpc 1 _ (ints_get e1)
  obtain ⟨kk, hkk⟩ : ∃ kk : Nat, x0 % (xs.length : Int) = (kk : Int) := ⟨(x0 % (xs.length : Int)).toNat, by have := Int.emod_nonneg x0 (show (xs.length : Int) ≠ 0 by omega); omega⟩
  have hkl : kk < xs.length := by have := Int.emod_lt_of_pos x0 (show (0 : Int) < (xs.length : Int) by omega); omega
  have HKK := hid hkk
  clear hpc e0 e1 hkk hps
  clear l_in s2_in l2_in
  have f0_6 := hf0
  clear hf0
  have lt_f0 : gp < w6.heap.size := by omega
  have f1_6 := hf1
  clear hf1
  have lt_f1 : gp < w6.heap.size := by omega
  clear l_6
  clear s2_6
  clear l2_6
  clear cell_sb2 froz_sb2 lt_sb2
  clear sb2_6
  go_upto_region 12 with fail
  refine wp_forget1 (w0 := w6) (B := w6.heap.size) (b0 := w6.heap.size) (t0 := 49) (c0 := #[.int .i64 n, .slice (some ⟨gs, 0, none⟩) xs.length cs, .int .i64 (tagI k n (sealL k n xs))]) ?_ ?_ ?_
  (focus (first | ((repeat (first | (with_reducible assumption) | (with_reducible apply Blk.drew) | (with_reducible apply Blk.drewN) | (with_reducible apply Blk.new; first | rfl | (simp; done)) | (with_reducible apply Blk.alloc) | (with_reducible apply Blk.set_) | (with_reducible apply Blk.past; focus assumption) | (with_reducible apply Blk.far; focus (first | (simp; done) | (simp; omega) | (dsimp only; omega))))); done) | (apply Blk.cast; (case h => (repeat (first | (with_reducible assumption) | (with_reducible apply Blk.drew) | (with_reducible apply Blk.drewN) | (with_reducible apply Blk.new; first | rfl | (simp; done)) | (with_reducible apply Blk.alloc) | (with_reducible apply Blk.set_) | (with_reducible apply Blk.past; focus assumption) | (with_reducible apply Blk.far; focus (first | (simp; done) | (simp; omega) | (dsimp only; omega)))))); (case e => rfl))))
  (focus (repeat (first | (with_reducible exact Below.refl _ _) | (with_reducible refine Below.trans ?_ (Below.mono (by assumption) (by first | omega | (simp; done) | (simp; omega) | (simp [*]; done)))) | (with_reducible refine Below.alloc ?_ (by first | omega | (simp; done) | (simp; omega) | (simp [*]; done)) _) | (with_reducible refine Below.setCell ?_ (by first | omega | (simp; done) | (simp; omega) | (simp [*]; done)) _) | (with_reducible refine Below.drew ?_))))
  intro w7 xb_7 hX7
  have sX7 := hX7.size
  have xb_lt := xb_7.lt
  have b_7 := b_6.trans (hX7.mono (by omega))
  have wd_7 := own_below wd_6 hX7
  have pl_7 := own_below pl_6 hX7
  have sl_7 := own_below sl_6 hX7
  have v_7 := Blk.past hX7 v_6
  have a_7 := Blk.past hX7 a_6
  have sb_7 := Blk.past hX7 sb_6
  have bb_7 := Blk.past hX7 bb_6
  have f0_7 := cell_kept f0_6 hX7 (by dsimp only; omega)
  have f1_7 := cell_kept f1_6 hX7 (by dsimp only; omega)
  clear wd_6 pl_6 sl_6 v_6 a_6 sb_6 bb_6 f0_6 f1_6 b_6 cell_v froz_v lt_v cell_a froz_a lt_a cell_sb froz_sb lt_sb cell_bb froz_bb lt_bb lt_f0 lt_f1 hX7
  have cell_v := v_7.cell
  have froz_v := v_7.frozen
  have lt_v := v_7.lt
  have cell_a := a_7.cell
  have froz_a := a_7.frozen
  have lt_a := a_7.lt
  have cell_sb := sb_7.cell
  have froz_sb := sb_7.frozen
  have lt_sb := sb_7.lt
  have cell_bb := bb_7.cell
  have froz_bb := bb_7.frozen
  have lt_bb := bb_7.lt
  have cell_xb := xb_7.cell
  have froz_xb := xb_7.frozen
  have lt_xb := xb_7.lt
  have lt_f0 : gp < w7.heap.size := by omega
  have lt_f1 : gp < w7.heap.size := by omega
  go_wp2_with (at_builtin; refine wpList_appi rfl _ _ 24 rfl w7.heap.size 3 (.int .i64 0) 1 8 Try.underlying24 infoInt rfl (by decide) _ 0 [] rfl (own_lit #[] 0 rfl (Nat.le_refl _) (Nat.zero_le _) rfl) ⟨gs, 0, none⟩ (xs.length) _ (ints (sealL k n xs)) rfl (by first | (simp [ints_length]; done) | (rw [ints_length, Nat.mul_one]; assumption) | (rw [ints_length, Nat.mul_one]; exact Hid.out (by assumption))) (news_of (own_cells sl_7 (by omega)).2 (own_cells sl_7 (by omega)).1 _) (ints_one _) (by omega) (by decide) (by simp) ?_)
  intro A_cx c_cx w8 cx_8 hg8 _
  try simp only [Nat.zero_add, List.nil_append] at cx_8
  have hb8 : Below w7.heap.size w7 w8 := ((Below.refl _ _).alloc (Nat.le_refl _) _).grown hg8 (by simp) (fun q hq => by have h1 := own_here q hq; omega)
  have s8 := hb8.size
  have b_8 := b_7.trans (hb8.mono (by omega))
  have wd_8 := own_below wd_7 hb8
  have pl_8 := own_below pl_7 hb8
  have sl_8 := own_below sl_7 hb8
  have v_8 := Blk.past hb8 v_7
  have a_8 := Blk.past hb8 a_7
  have sb_8 := Blk.past hb8 sb_7
  have bb_8 := Blk.past hb8 bb_7
  have xb_8 := Blk.past hb8 xb_7
  have f0_8 := cell_kept f0_7 hb8 (by dsimp only; omega)
  have f1_8 := cell_kept f1_7 hb8 (by dsimp only; omega)
  have cx_in := own_in cx_8
  clear wd_7 pl_7 sl_7 v_7 a_7 sb_7 bb_7 xb_7 f0_7 f1_7 b_7 cell_v froz_v lt_v cell_a froz_a lt_a cell_sb froz_sb lt_sb cell_bb froz_bb lt_bb cell_xb froz_xb lt_xb lt_f0 lt_f1 hg8 hb8
  have cell_v := v_8.cell
  have froz_v := v_8.frozen
  have lt_v := v_8.lt
  have cell_a := a_8.cell
  have froz_a := a_8.frozen
  have lt_a := a_8.lt
  have cell_sb := sb_8.cell
  have froz_sb := sb_8.frozen
  have lt_sb := sb_8.lt
  have cell_bb := bb_8.cell
  have froz_bb := bb_8.frozen
  have lt_bb := bb_8.lt
  have cell_xb := xb_8.cell
  have froz_xb := xb_8.frozen
  have lt_xb := xb_8.lt
  have lt_f0 : gp < w8.heap.size := by omega
  have lt_f1 : gp < w8.heap.size := by omega
  obtain ⟨gx, rfl, hgx0, hgx1, _⟩ := own_at cx_8 (by omega)
  have hxl : (0 : Int) < (xs.length : Int) := by omega
  go_upto_region 14 with fail
  rw [HKK.out]
  refine wp_touch1 (w0 := w8) (L := [w6.heap.size]) (b0 := w6.heap.size) (t0 := 49) (c0 := #[.int .i64 n, .slice (some ⟨gx, 0, none⟩) xs.length c_cx, .int .i64 (tagI k n (sealL k n xs))]) ?_ ?_ ?_
  (focus (first | ((repeat (first | (with_reducible assumption) | (with_reducible apply Blk.drew) | (with_reducible apply Blk.drewN) | (with_reducible apply Blk.new; first | rfl | (simp; done)) | (with_reducible apply Blk.alloc) | (with_reducible apply Blk.set_) | (with_reducible apply Blk.past; focus assumption) | (with_reducible apply Blk.far; focus (first | (simp; done) | (simp; omega) | (dsimp only; omega))))); done) | (apply Blk.cast; (case h => (repeat (first | (with_reducible assumption) | (with_reducible apply Blk.drew) | (with_reducible apply Blk.drewN) | (with_reducible apply Blk.new; first | rfl | (simp; done)) | (with_reducible apply Blk.alloc) | (with_reducible apply Blk.set_) | (with_reducible apply Blk.past; focus assumption) | (with_reducible apply Blk.far; focus (first | (simp; done) | (simp; omega) | (dsimp only; omega)))))); (case e => rfl))))
  (focus (repeat (first | (with_reducible exact Touch.refl _ _) | (with_reducible assumption) | (with_reducible apply Touch.drew) | (with_reducible apply Touch.drewN) | (with_reducible apply Touch.alloc) | (with_reducible refine Touch.set_ ?_ _ _ (by simp; done)) | (with_reducible refine Touch.set_new ?_ _ _ (by first | omega | (simp; omega) | (dsimp only; omega))))))
  intro w9 xb_9 hX9
  have sX9 := hX9.size
  have b_9 := hX9.below b_8 (by first | (simp; done) | (simp; omega))
  have wd_9 := own_touch' hX9 wd_8 (fun q hq => by have h1 := wd_in q hq; simp; omega)
  have pl_9 := own_touch' hX9 pl_8 (fun q hq => by have h1 := pl_in q hq; simp; omega)
  have sl_9 := own_touch' hX9 sl_8 (fun q hq => by have h1 := sl_in q hq; simp; omega)
  have cx_9 := own_touch' hX9 cx_8 (fun q hq => by have h1 := cx_in q hq; simp; omega)
  have v_9 := Blk.touch hX9 v_8 (by first | (simp; done) | (simp; omega))
  have a_9 := Blk.touch hX9 a_8 (by first | (simp; done) | (simp; omega))
  have sb_9 := Blk.touch hX9 sb_8 (by first | (simp; done) | (simp; omega))
  have bb_9 := Blk.touch hX9 bb_8 (by first | (simp; done) | (simp; omega))
  have f0_9 := Touch.cell hX9 f0_8 (by dsimp only; omega) (by first | (simp; done) | (simp; omega))
  have f1_9 := Touch.cell hX9 f1_8 (by dsimp only; omega) (by first | (simp; done) | (simp; omega))
  clear wd_8 pl_8 sl_8 cx_8 v_8 a_8 sb_8 bb_8 xb_8 f0_8 f1_8 b_8 cell_v froz_v lt_v cell_a froz_a lt_a cell_sb froz_sb lt_sb cell_bb froz_bb lt_bb cell_xb froz_xb lt_xb lt_f0 lt_f1 hX9
  have cell_v := v_9.cell
  have froz_v := v_9.frozen
  have lt_v := v_9.lt
  have cell_a := a_9.cell
  have froz_a := a_9.frozen
  have lt_a := a_9.lt
  have cell_sb := sb_9.cell
  have froz_sb := sb_9.frozen
  have lt_sb := sb_9.lt
  have cell_bb := bb_9.cell
  have froz_bb := bb_9.frozen
  have lt_bb := bb_9.lt
  have cell_xb := xb_9.cell
  have froz_xb := xb_9.frozen
  have lt_xb := xb_9.lt
  have lt_f0 : gp < w9.heap.size := by omega
  have lt_f1 : gp < w9.heap.size := by omega
  obtain ⟨y, hy⟩ : ∃ y, (sealL k n xs)[kk]? = some y := ⟨_, List.getElem?_eq_getElem (by rw [HLEN.out]; exact hkl)⟩
  have hu := (own_cells cx_9 (by omega)).2 kk _ (ints_get hy)
  have hfr := cx_9.frozenAt kk
  have hk0 : (0 : Int) ≤ (kk : Int) := by omega
  have hk1 : (kk : Int) < (xs.length : Int) := by omega
  have hyw := wordsB_get HSW.out hy
  have HYW := hid hyw
  have HY := hid hy
  clear hy hyw
  go_still_tail 14, (by kernel_rfl)
  have hpw : isWordB (1 + x1) = true := isWordB_iff.2 (by omega)
  have hzw := (xor_word HYW.out hpw).2
  have hzn := xor_ne HYW.out hpw (by omega)
  have HZ := hid (And.intro hzw hzn)
  clear hpw hzw hzn
  go_upto_region 15 with fail
  first | refine wp_stored (cx_9.stored kk _) ?_ | refine wp_storedd (cx_9.stored kk _) ?_
  intro w10 cx_10 hg10
  have s10 := hg10.size
  have b_10 := gr_below hg10 b_9 (by omega) (fun q hq => by have h1 := cx_in q hq; omega)
  have wd_10 := gr_own hg10 wd_9 (fun q p hq hp => by have h1 := cx_in q hq; have h2 := wd_in p hp; omega)
  have pl_10 := gr_own hg10 pl_9 (fun q p hq hp => by have h1 := cx_in q hq; have h2 := pl_in p hp; omega)
  have sl_10 := gr_own hg10 sl_9 (fun q p hq hp => by have h1 := cx_in q hq; have h2 := sl_in p hp; omega)
  have v_10 := gr_blk hg10 v_9 (fun q hq => by have h1 := cx_in q hq; omega)
  have a_10 := gr_blk hg10 a_9 (fun q hq => by have h1 := cx_in q hq; omega)
  have sb_10 := gr_blk hg10 sb_9 (fun q hq => by have h1 := cx_in q hq; omega)
  have bb_10 := gr_blk hg10 bb_9 (fun q hq => by have h1 := cx_in q hq; omega)
  have xb_10 := gr_blk hg10 xb_9 (fun q hq => by have h1 := cx_in q hq; omega)
  have f0_10 := gr_cell hg10 f0_9 (by dsimp only; omega) (fun q hq => by have h1 := cx_in q hq; dsimp only; omega)
  have f1_10 := gr_cell hg10 f1_9 (by dsimp only; omega) (fun q hq => by have h1 := cx_in q hq; dsimp only; omega)
  clear wd_9 pl_9 sl_9 cx_9 v_9 a_9 sb_9 bb_9 xb_9 f0_9 f1_9 b_9 cell_v froz_v lt_v cell_a froz_a lt_a cell_sb froz_sb lt_sb cell_bb froz_bb lt_bb cell_xb froz_xb lt_xb lt_f0 lt_f1 hg10
  have cell_v := v_10.cell
  have froz_v := v_10.frozen
  have lt_v := v_10.lt
  have cell_a := a_10.cell
  have froz_a := a_10.frozen
  have lt_a := a_10.lt
  have cell_sb := sb_10.cell
  have froz_sb := sb_10.frozen
  have lt_sb := sb_10.lt
  have cell_bb := bb_10.cell
  have froz_bb := bb_10.frozen
  have lt_bb := bb_10.lt
  have cell_xb := xb_10.cell
  have froz_xb := xb_10.frozen
  have lt_xb := xb_10.lt
  have lt_f0 : gp < w10.heap.size := by omega
  have lt_f1 : gp < w10.heap.size := by omega
  clear hu hfr
  have hset : (ints (sealL k n xs)).set kk (.int .i64 (bits .xor .i64 y (1 + x1))) = ints ((sealL k n xs).set kk (bits .xor .i64 y (1 + x1))) := by simp [ints, List.map_set]
  rw [hset] at cx_10
  clear hset
  have hsl : ((sealL k n xs).set kk (bits .xor .i64 y (1 + x1))).length = xs.length := by rw [List.length_set]; exact HLEN.out
  have hcw := words_set (i := kk) HSW.out HZ.out.1
  have hs3 := sealB_small (n := n) HK.out hn0 (by omega) hcw (by omega)
  have htag := tagI_changed HK.out HSW.out HY.out HZ.out.1 HZ.out.2 HS2.out hs3
  have hld := load_small (n := n) HK.out hn0 (by omega) hcw (by omega) (tagI k n (sealL k n xs))
  have HLD2 := hid (show loadB k (n + 1) n ((sealL k n xs).set kk (bits .xor .i64 y (1 + x1))) (tagI k n (sealL k n xs)) = false by rw [hld]; simpa using htag.symm)
  have HSL := hid hsl
  clear hsl hcw hs3 htag hld
  go_wp2_with fail
  refine calls_forget0 (W := w10) ?_ ?_
  (focus (repeat (first | (with_reducible exact Below.refl _ _) | (with_reducible refine Below.trans ?_ (Below.mono (by assumption) (by first | omega | (simp; done) | (simp; omega) | (simp [*]; done)))) | (with_reducible refine Below.alloc ?_ (by first | omega | (simp; done) | (simp; omega) | (simp [*]; done)) _) | (with_reducible refine Below.setCell ?_ (by first | omega | (simp; done) | (simp; omega) | (simp [*]; done)) _) | (with_reducible refine Below.drew ?_))))
  intro X11 hX11
  have sX11 := hX11.size
  refine (iLoad_no _ _ _ _ _ _ ((sealL k n xs).set kk (bits .xor .i64 y (1 + x1))) _ _ HSL.out HLD2.out (Cells.of_own (own_below cx_10 hX11)) (by omega)).mono ?_
  rintro e w11 ⟨Al3, cl3, rfl, l3_11, hb11⟩
  have s11 := hb11.size
  have hT11 := hX11.trans (hb11.mono sX11)
  have b_11 := b_10.trans (hT11.mono (by omega))
  have wd_11 := own_below wd_10 hT11
  have pl_11 := own_below pl_10 hT11
  have sl_11 := own_below sl_10 hT11
  have cx_11 := own_below cx_10 hT11
  have v_11 := Blk.past hT11 v_10
  have a_11 := Blk.past hT11 a_10
  have sb_11 := Blk.past hT11 sb_10
  have bb_11 := Blk.past hT11 bb_10
  have xb_11 := Blk.past hT11 xb_10
  have f0_11 := cell_kept f0_10 hT11 (by dsimp only; omega)
  have f1_11 := cell_kept f1_10 hT11 (by dsimp only; omega)
  have l3_in := own_in l3_11
  clear wd_10 pl_10 sl_10 cx_10 v_10 a_10 sb_10 bb_10 xb_10 f0_10 f1_10 b_10 cell_v froz_v lt_v cell_a froz_a lt_a cell_sb froz_sb lt_sb cell_bb froz_bb lt_bb cell_xb froz_xb lt_xb lt_f0 lt_f1 hX11 hT11 hb11
  have cell_v := v_11.cell
  have froz_v := v_11.frozen
  have lt_v := v_11.lt
  have cell_a := a_11.cell
  have froz_a := a_11.frozen
  have lt_a := a_11.lt
  have cell_sb := sb_11.cell
  have froz_sb := sb_11.frozen
  have lt_sb := sb_11.lt
  have cell_bb := bb_11.cell
  have froz_bb := bb_11.frozen
  have lt_bb := bb_11.lt
  have cell_xb := xb_11.cell
  have froz_xb := xb_11.frozen
  have lt_xb := xb_11.lt
  have lt_f0 : gp < w11.heap.size := by omega
  have lt_f1 : gp < w11.heap.size := by omega
  go_wp2_with fail
  refine calls_forget0 (W := w11) ?_ ?_
  (focus (repeat (first | (with_reducible exact Below.refl _ _) | (with_reducible refine Below.trans ?_ (Below.mono (by assumption) (by first | omega | (simp; done) | (simp; omega) | (simp [*]; done)))) | (with_reducible refine Below.alloc ?_ (by first | omega | (simp; done) | (simp; omega) | (simp [*]; done)) _) | (with_reducible refine Below.setCell ?_ (by first | omega | (simp; done) | (simp; omega) | (simp [*]; done)) _) | (with_reducible refine Below.drew ?_))))
  intro X12 hX12
  have sX12 := hX12.size
  refine (iVault_yes _ _ _ HVO.out).mono ?_
  rintro e w12 ⟨rfl, hb12⟩
  have s12 := hb12.size
  have hT12 := hX12.trans (hb12.mono sX12)
  have b_12 := b_11.trans (hT12.mono (by omega))
  have wd_12 := own_below wd_11 hT12
  have pl_12 := own_below pl_11 hT12
  have sl_12 := own_below sl_11 hT12
  have cx_12 := own_below cx_11 hT12
  have l3_12 := own_below l3_11 hT12
  have v_12 := Blk.past hT12 v_11
  have a_12 := Blk.past hT12 a_11
  have sb_12 := Blk.past hT12 sb_11
  have bb_12 := Blk.past hT12 bb_11
  have xb_12 := Blk.past hT12 xb_11
  have f0_12 := cell_kept f0_11 hT12 (by dsimp only; omega)
  have f1_12 := cell_kept f1_11 hT12 (by dsimp only; omega)
  clear wd_11 pl_11 sl_11 cx_11 l3_11 v_11 a_11 sb_11 bb_11 xb_11 f0_11 f1_11 b_11 cell_v froz_v lt_v cell_a froz_a lt_a cell_sb froz_sb lt_sb cell_bb froz_bb lt_bb cell_xb froz_xb lt_xb lt_f0 lt_f1 hX12 hT12 hb12
  have cell_v := v_12.cell
  have froz_v := v_12.frozen
  have lt_v := v_12.lt
  have cell_a := a_12.cell
  have froz_a := a_12.frozen
  have lt_a := a_12.lt
  have cell_sb := sb_12.cell
  have froz_sb := sb_12.frozen
  have lt_sb := sb_12.lt
  have cell_bb := bb_12.cell
  have froz_bb := bb_12.frozen
  have lt_bb := bb_12.lt
  have cell_xb := xb_12.cell
  have froz_xb := xb_12.frozen
  have lt_xb := xb_12.lt
  have lt_f0 : gp < w12.heap.size := by omega
  have lt_f1 : gp < w12.heap.size := by omega
  have htest : (n + 1 + 1 == n + 2) = true := by rw [beq_iff_eq]; omega
  go_wp2
  go_ret
  refine ⟨rfl, b_12.trans ?_⟩
  repeat (first | (with_reducible exact Below.refl _ _) | (with_reducible refine Below.trans ?_ (Below.mono (by assumption) (by first | omega | (simp; done) | (simp; omega) | (simp [*]; done)))) | (with_reducible refine Below.alloc ?_ (by first | omega | (simp; done) | (simp; omega) | (simp [*]; done)) _) | (with_reducible refine Below.setCell ?_ (by first | omega | (simp; done) | (simp; omega) | (simp [*]; done)) _) | (with_reducible refine Below.drew ?_))
set_option maxRecDepth 100000 in
theorem lifted (os : Os) (started : os.Started) (H : Type) (enc : TypeId × Value → H) :
    ReturnsInHanded {} Try.checked os 7 .any (Rows.fnSavedSpec.pre6 enc Try.prog Try.f7 Rows.fnSavedRow.domain false) (Rows.fnSavedSpec.post enc Try.prog Try.f7 false true false false) := by
  refine returnsInHanded_of_change (C := Try.checked) own started (by kernel_rfl) Try.func7
    (ChangeSpec.witness6 (enc := enc) (C := Try.checked) false ⟨#[], #[.slice none 0 0], []⟩ 8 (by kernel_rfl) (by kernel_rfl) (by kernel_rfl) (by kernel_rfl)) ?_
  intro W base args ds gs before hval0 hW _ _
  have hval : ∀ (j : Nat) t v, Try.f7.params[j]? = some t → args[j]? = some v → Value.okWide Try.prog W .any base t v := hval0
  have hW' := hW
  obtain ⟨p, q, hA0, hV, rfl, _, _⟩ := hW
  have hA : DataW.TrodAll enc Try.prog W 0 (fun _ => true) true Try.f7.params.toList args.toList ds p := hA0
  rw [Try.params7] at hA hval
  obtain ⟨v0, vs0, d0, ds0, p0, q0, hargs, rfl, rfl, h0, r0⟩ := trodAll_cons hA
  obtain ⟨rfl, rfl, rfl⟩ := trodAll_nil r0
  obtain rfl : args = #[v0] := by cases args; simp_all
  obtain ⟨rfl, rfl⟩ := trodVars_none hV
  obtain ⟨A0, c0, xs0, rfl, hb0⟩ := view_bytes Try.underlying22 Try.underlying5 (by kernel_rfl) (hval 0 22 v0 rfl rfl) h0 (fun x hx => hW'.lt x (by simp [hx]))
  refine (walk A0 c0 xs0 W hb0).mono fun e W' ⟨he, hb⟩ => ?_
  subst he
  exact ⟨_, rfl, law_post rfl (by kernel_rfl) (by kernel_rfl) rfl Try.underlying4 hW' rfl rfl rfl hb⟩
theorem closed : joinedFacts Try.prog 7 Try.f7 Rows.fnSavedSpec Rows.fnSavedRow = true := by
  unfold joinedFacts
  rw [makeIs, mayIs, finalsIs]
  kernel_rfl
theorem over : Rows.fnSavedRow.holds Try.pinned (OpenSpec.ofChange Rows.fnSavedSpec) :=
  OpenClaim.holds_of_wide 7 Try.f7 rfl rfl rfl rfl rfl rfl rfl ⟨rfl, rfl, rfl, rfl, rfl⟩ rfl rfl rfl rfl rfl (by kernel_rfl) Try.func7 closed
    (of_decide_eq_true (by kernel_rfl)) (by unfold Func.isWrapper; first | (rw [if_pos (by decide +kernel)]; kernel_rfl) | (rw [if_neg (by decide +kernel)]; exact ⟨rfl, rfl⟩))
    (fun os started H enc _ => lifted os started H enc)
theorem proved : Rows.FnSavedSaid := over
#print axioms proved

end saved
end Go.Proofs.Ytdfomahaplcgoaa
