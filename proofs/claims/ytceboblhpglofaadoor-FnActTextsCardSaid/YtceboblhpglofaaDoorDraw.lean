/- The reference's draws: the cursor, a byte, a number below a bound, the twelve places. Only the ranges of what is drawn are kept. -/
import Derived.Test.YtceboblhpglofaaDoorMem
import Derived.Test.YtceboblhpglofaaDoorIntS
import Derived.Deep.DeepCutAuto
import Derived.Outline
namespace Go.Proofs.YtceboblhpglofaaDoor
open Go.RowKit

def bytesV (xs : List Int) : List Value := xs.map (Value.int .u8)
theorem bytesV_get {xs : List Int} {k : Nat} {x : Int} (h : xs[k]? = some x) : (bytesV xs)[k]? = some (.int .u8 x) := by simp [bytesV, h]
theorem and255 (a : Int) : 0 ≤ bits .and .i64 a 255 ∧ bits .and .i64 a 255 ≤ 255 := by
  have e : bits .and .i64 a 255 = IntKind.i64.wrap ((BitVec.ofInt 64 a &&& BitVec.ofInt 64 255).toNat : Int) := rfl
  have h : (BitVec.ofInt 64 a &&& BitVec.ofInt 64 255).toNat ≤ 255 := by
    rw [BitVec.toNat_and]
    have e2 : (BitVec.ofInt 64 255).toNat = 255 := by decide
    rw [e2]
    exact Nat.and_le_right
  rw [e, IntKind.wrap_i64]
  omega
/-- The cursor: the bytes, a place among them, a number. -/
def Cur (w : World) (p : Nat) (A : Option Addr) (n c : Nat) : Prop :=
  ∃ i h : Int, Blk w p 53 #[.slice A n c, .int .i64 i, .int .i64 h] ∧ 0 ≤ i ∧ i ≤ n
structure Bytes (w : World) (p : Nat) (A : Option Addr) (bs : List Int) : Prop where
  cells : Cells w p A (bytesV bs)
  small : ∀ x ∈ bs, 0 ≤ x ∧ x ≤ 255
  len : bs.length ≤ 9223372036854775807
set_option maxHeartbeats 800000 in
theorem byte_any (p : Nat) (A : Option Addr) (c : Nat) (bs : List Int) (w : World) (hc : Cur w p A bs.length c) (hb : Bytes w p A bs) :
    Calls Tryd.prog 24 #[.pointer (some ⟨p, 0, none⟩)] w fun e w' => ∃ r, e = .returned (.int .i64 r) ∧ 0 ≤ r ∧ r ≤ 255 ∧ Cur w' p A bs.length c ∧ Touch [p] w w' := by
  obtain ⟨i, h, k0, hi0, hi1⟩ := hc
  have c0 := k0.cell
  have f0 := k0.frozen
  have z0 := k0.lt
  have hl := hb.len
  have HB := hid hb
  clear hb
  go_enter Tryd.func24, Tryd.ntmps24
  go_wp2_with fail
  apply wp_touch1 (w0 := w) (L := [p]) (b0 := p)
  case h0 => repeat (first | (with_reducible assumption) | (with_reducible apply Blk.drew) | (with_reducible apply Blk.drewN) | (with_reducible apply Blk.new; first | rfl | (simp; done)) | (with_reducible apply Blk.alloc) | (with_reducible apply Blk.set_) | (with_reducible apply Blk.past; focus assumption) | (with_reducible apply Blk.far; focus (first | (simp; done) | (simp; omega) | (dsimp only; omega))))
  case hb => repeat (first | (with_reducible exact Touch.refl _ _) | (with_reducible assumption) | (with_reducible apply Touch.drew) | (with_reducible apply Touch.drewN) | (with_reducible apply Touch.alloc) | (with_reducible refine Touch.set_ ?_ _ _ (by simp; done)) | (with_reducible refine Touch.set_new ?_ _ _ (by first | omega | (simp; omega) | (dsimp only; omega))))
  case h =>
  intro W k1 hT
  obtain ⟨h2, k2⟩ : ∃ h2, Blk W p 53 #[.slice A bs.length c, .int .i64 i, .int .i64 h2] := ⟨_, k1⟩
  have sT := hT.size
  have c2 := k2.cell
  have f2 := k2.frozen
  have z2 := k2.lt
  clear k1 c0 f0
  go_cut [3] (fun v3 wx => ∃ x, 0 ≤ x ∧ x ≤ 255 ∧ v3 = .int .i64 x ∧ ∃ n, wx = W.drewN n)
  case first =>
    go_quiet (fail)
    go_wp2_with fail
    go_meet
    exact ⟨_, (and255 _).1, (and255 _).2, rfl, nq, rfl⟩
  case rest =>
    obtain ⟨x, hx0, hx1, rfl, nq, rfl⟩ := hcut
    obtain ⟨j, rfl⟩ := Int.eq_ofNat_of_zero_le hi0
    by_cases hlt : j < bs.length
    · obtain ⟨y, hy⟩ : ∃ y, bs[j]? = some y := ⟨_, List.getElem?_eq_getElem hlt⟩
      obtain ⟨hy0, hy1⟩ := HB.out.small y (List.mem_of_getElem? hy)
      obtain ⟨b, off, rfl, hB, hcl⟩ := HB.out.cells (by simp [bytesV]; omega)
      have hcell : W.cell? ⟨b, off + j, none⟩ = some (.int .u8 y) := hT.cell (hcl j _ (bytesV_get hy)) (by dsimp only; omega) (by simp; omega)
      have hlt' : (j : Int) < (bs.length : Int) := by omega
      clear hcl hy
      go_wp2_with fail
      go_quiet (fail)
      go_wp2_with fail
      go_quiet (fail)
      go_wp2_with fail
      go_ret
      exact ⟨_, rfl, (and255 _).1, (and255 _).2, ⟨_, h2, by (first | ((repeat (first | (with_reducible assumption) | (with_reducible apply Blk.drew) | (with_reducible apply Blk.drewN) | (with_reducible apply Blk.new; first | rfl | (simp; done)) | (with_reducible apply Blk.alloc) | (with_reducible apply Blk.set_) | (with_reducible apply Blk.past; focus assumption) | (with_reducible apply Blk.far; focus (first | (simp; done) | (simp; omega) | (dsimp only; omega))))); done) | (apply Blk.cast; (case h => (repeat (first | (with_reducible assumption) | (with_reducible apply Blk.drew) | (with_reducible apply Blk.drewN) | (with_reducible apply Blk.new; first | rfl | (simp; done)) | (with_reducible apply Blk.alloc) | (with_reducible apply Blk.set_) | (with_reducible apply Blk.past; focus assumption) | (with_reducible apply Blk.far; focus (first | (simp; done) | (simp; omega) | (dsimp only; omega)))))); (case e => rfl))), by omega, by omega⟩, by repeat (first | (with_reducible exact Touch.refl _ _) | (with_reducible assumption) | (with_reducible apply Touch.drew) | (with_reducible apply Touch.drewN) | (with_reducible apply Touch.alloc) | (with_reducible refine Touch.set_ ?_ _ _ (by simp; done)) | (with_reducible refine Touch.set_new ?_ _ _ (by first | omega | (simp; omega) | (dsimp only; omega))))⟩
    · go_wp2_with fail
      go_quiet (fail)
      go_wp2_with fail
      go_ret
      exact ⟨_, rfl, hx0, hx1, ⟨_, h2, by (first | ((repeat (first | (with_reducible assumption) | (with_reducible apply Blk.drew) | (with_reducible apply Blk.drewN) | (with_reducible apply Blk.new; first | rfl | (simp; done)) | (with_reducible apply Blk.alloc) | (with_reducible apply Blk.set_) | (with_reducible apply Blk.past; focus assumption) | (with_reducible apply Blk.far; focus (first | (simp; done) | (simp; omega) | (dsimp only; omega))))); done) | (apply Blk.cast; (case h => (repeat (first | (with_reducible assumption) | (with_reducible apply Blk.drew) | (with_reducible apply Blk.drewN) | (with_reducible apply Blk.new; first | rfl | (simp; done)) | (with_reducible apply Blk.alloc) | (with_reducible apply Blk.set_) | (with_reducible apply Blk.past; focus assumption) | (with_reducible apply Blk.far; focus (first | (simp; done) | (simp; omega) | (dsimp only; omega)))))); (case e => rfl))), by omega, by omega⟩, by repeat (first | (with_reducible exact Touch.refl _ _) | (with_reducible assumption) | (with_reducible apply Touch.drew) | (with_reducible apply Touch.drewN) | (with_reducible apply Touch.alloc) | (with_reducible refine Touch.set_ ?_ _ _ (by simp; done)) | (with_reducible refine Touch.set_new ?_ _ _ (by first | omega | (simp; omega) | (dsimp only; omega))))⟩
theorem Bytes.touch {w w' : World} {p : Nat} {A : Option Addr} {bs : List Int} (h : Bytes w p A bs) (hT : Touch [p] w w') (hp : p ≤ w.heap.size) : Bytes w' p A bs :=
  ⟨cells_touch hT h.cells hp (by simp), h.small, h.len⟩
theorem Bytes.step {w w' : World} {p : Nat} {A : Option Addr} {bs : List Int} (h : Bytes w p A bs) (hb : Below p w w') : Bytes w' p A bs := ⟨h.cells.below hb, h.small, h.len⟩
theorem Cur.lt {w : World} {p n c : Nat} {A : Option Addr} (h : Cur w p A n c) : p < w.heap.size := by
  obtain ⟨i, x, k, _, _⟩ := h
  exact k.lt
theorem tmod_lt (x n : Int) (h0 : 0 ≤ x) (hn : 1 ≤ n) : 0 ≤ x.tmod n ∧ x.tmod n < n := by
  rw [Int.tmod_eq_emod_of_nonneg h0]
  exact ⟨Int.emod_nonneg _ (by omega), Int.emod_lt_of_pos _ (by omega)⟩
theorem emod_lt (x n : Int) (hn : 1 ≤ n) : 0 ≤ x % n ∧ x % n < n := ⟨Int.emod_nonneg _ (by omega), Int.emod_lt_of_pos _ (by omega)⟩
set_option maxHeartbeats 800000 in
theorem below_any (n : Int) (p : Nat) (A : Option Addr) (c : Nat) (bs : List Int) (w : World) (hn : 1 ≤ n) (hn2 : n ≤ 1000000000000) (hc : Cur w p A bs.length c) (hb : Bytes w p A bs) :
    Calls Tryd.prog 13 #[.pointer (some ⟨p, 0, none⟩), .int .i64 n] w fun e w' => ∃ r, e = .returned (.int .i64 r) ∧ 0 ≤ r ∧ r < n ∧ Cur w' p A bs.length c ∧ Touch [p] w w' := by
  have HB := hid hb
  have HC := hid hc
  have hp := hc.lt
  clear hb hc
  by_cases h1 : n ≤ 256
  · go_enter Tryd.func13, Tryd.ntmps13
    go_wp2_with fail
    refine (byte_any _ _ _ _ _ HC.out HB.out).mono ?_
    rintro e w1 ⟨r, rfl, hr0, hr1, hc1, hT1⟩
    go_wp2
    go_ret
    exact ⟨_, rfl, (emod_lt _ _ hn).1, (emod_lt _ _ hn).2, hc1, hT1⟩
  · go_enter Tryd.func13, Tryd.ntmps13
    go_wp2_with fail
    refine (byte_any _ _ _ _ _ HC.out HB.out).mono ?_
    rintro e w1 ⟨r1, rfl, hr10, hr11, hc1, hT1⟩
    have hb1 := HB.out.touch hT1 (by omega)
    have z1 := hT1.size
    go_wp2_with fail
    refine (byte_any _ _ _ _ _ hc1 hb1).mono ?_
    rintro e w2 ⟨r2, rfl, hr20, hr21, hc2, hT2⟩
    have hb2 := hb1.touch hT2 (by omega)
    have z2 := hT2.size
    go_wp2_with fail
    refine (byte_any _ _ _ _ _ hc2 hb2).mono ?_
    rintro e w3 ⟨r3, rfl, hr30, hr31, hc3, hT3⟩
    have hb3 := hb2.touch hT3 (by omega)
    have z3 := hT3.size
    go_wp2_with fail
    refine (byte_any _ _ _ _ _ hc3 hb3).mono ?_
    rintro e w4 ⟨r4, rfl, hr40, hr41, hc4, hT4⟩
    have hT := ((hT1.trans hT2).trans hT3).trans hT4
    clear hT1 hT2 hT3 hT4 hc1 hc2 hc3 hb1 hb2 hb3
    go_wp2
    go_ret
    exact ⟨_, rfl, (emod_lt _ _ hn).1, (emod_lt _ _ hn).2, hc4, hT⟩
set_option maxRecDepth 100000 in
set_option maxHeartbeats 800000 in
theorem new_any (A : Option Addr) (c : Nat) (bs : List Int) (w : World) (hb : Bytes w w.heap.size A bs) :
    Calls Tryd.prog 12 #[.slice A bs.length c] w fun e w' => e = .returned (.pointer (some ⟨w.heap.size, 0, none⟩)) ∧ Cur w' w.heap.size A bs.length c ∧ Below w.heap.size w w' := by
  have HB := hid hb
  have hl := hb.len
  clear hb
  go_enter Tryd.func12, Tryd.ntmps12
  go_wp2
  go_loop [3, 4] (fun h i => ∃ (k : Nat) (x : Int), k ≤ bs.length ∧ i = .int .i64 k ∧ h = .int .i64 x) (fun _ i => bs.length - (intOf i).toNat)
  case atStart => exact ⟨0, _, Nat.zero_le _, rfl, rfl⟩
  case round =>
    obtain ⟨k, x, hk, rfl, rfl⟩ := hrel
    by_cases hlt : k < bs.length ∧ k < 4000
    · obtain ⟨hlt, hlt2⟩ := hlt
      have hlt3 : (k : Int) < 4000 := by omega
      clear hlt2
      obtain ⟨y, hy⟩ : ∃ y, bs[k]? = some y := ⟨_, List.getElem?_eq_getElem hlt⟩
      obtain ⟨hy0, hy1⟩ := HB.out.small y (List.mem_of_getElem? hy)
      obtain ⟨b, off, rfl, hB, hcl⟩ := HB.out.cells (by simp [bytesV]; omega)
      have hcell : w.cell? ⟨b, off + k, none⟩ = some (.int .u8 y) := hcl k _ (bytesV_get hy)
      have hk' : (k : Int) < (bs.length : Int) := by omega
      clear hcl hy
      go_wp2
      go_round
      case rel => exact ⟨k + 1, _, by omega, by go_num, rfl⟩
      case measure => simp [intOf]; omega
    · have hlt' : bs.length ≤ k ∨ 4000 ≤ k := by omega
      clear hlt
      rcases hlt' with hlt | hlt
      · obtain rfl : k = bs.length := by omega
        go_wp2
        go_ret
        exact ⟨rfl, ⟨_, _, by repeat (first | (with_reducible assumption) | (with_reducible apply Blk.drew) | (with_reducible apply Blk.drewN) | (with_reducible apply Blk.new; first | rfl | (simp; done)) | (with_reducible apply Blk.alloc) | (with_reducible apply Blk.set_) | (with_reducible apply Blk.past; focus assumption) | (with_reducible apply Blk.far; focus (first | (simp; done) | (simp; omega) | (dsimp only; omega)))), by omega, by omega⟩, by repeat (first | (with_reducible exact Below.refl _ _) | (with_reducible refine Below.trans ?_ (Below.mono (by assumption) (by first | omega | (simp; done) | (simp; omega) | (simp [*]; done)))) | (with_reducible refine Below.alloc ?_ (by first | omega | (simp; done) | (simp; omega) | (simp [*]; done)) _) | (with_reducible refine Below.setCell ?_ (by first | omega | (simp; done) | (simp; omega) | (simp [*]; done)) _) | (with_reducible refine Below.drew ?_) | (with_reducible refine below_drewN ?_))⟩
      · have hlt3 : (4000 : Int) ≤ (k : Int) := by omega
        clear hlt
        by_cases hx : k < bs.length
        · go_wp2
          go_ret
          exact ⟨rfl, ⟨_, _, by repeat (first | (with_reducible assumption) | (with_reducible apply Blk.drew) | (with_reducible apply Blk.drewN) | (with_reducible apply Blk.new; first | rfl | (simp; done)) | (with_reducible apply Blk.alloc) | (with_reducible apply Blk.set_) | (with_reducible apply Blk.past; focus assumption) | (with_reducible apply Blk.far; focus (first | (simp; done) | (simp; omega) | (dsimp only; omega)))), by omega, by omega⟩, by repeat (first | (with_reducible exact Below.refl _ _) | (with_reducible refine Below.trans ?_ (Below.mono (by assumption) (by first | omega | (simp; done) | (simp; omega) | (simp [*]; done)))) | (with_reducible refine Below.alloc ?_ (by first | omega | (simp; done) | (simp; omega) | (simp [*]; done)) _) | (with_reducible refine Below.setCell ?_ (by first | omega | (simp; done) | (simp; omega) | (simp [*]; done)) _) | (with_reducible refine Below.drew ?_) | (with_reducible refine below_drewN ?_))⟩
        · obtain rfl : k = bs.length := by omega
          go_wp2
          go_ret
          exact ⟨rfl, ⟨_, _, by repeat (first | (with_reducible assumption) | (with_reducible apply Blk.drew) | (with_reducible apply Blk.drewN) | (with_reducible apply Blk.new; first | rfl | (simp; done)) | (with_reducible apply Blk.alloc) | (with_reducible apply Blk.set_) | (with_reducible apply Blk.past; focus assumption) | (with_reducible apply Blk.far; focus (first | (simp; done) | (simp; omega) | (dsimp only; omega)))), by omega, by omega⟩, by repeat (first | (with_reducible exact Below.refl _ _) | (with_reducible refine Below.trans ?_ (Below.mono (by assumption) (by first | omega | (simp; done) | (simp; omega) | (simp [*]; done)))) | (with_reducible refine Below.alloc ?_ (by first | omega | (simp; done) | (simp; omega) | (simp [*]; done)) _) | (with_reducible refine Below.setCell ?_ (by first | omega | (simp; done) | (simp; omega) | (simp [*]; done)) _) | (with_reducible refine Below.drew ?_) | (with_reducible refine below_drewN ?_))⟩
theorem Cur.grown {w w' : World} {p n c : Nat} {A : Option Addr} {row : Option Nat} (h : Cur w p A n c) (hg : w.grownBy w' row) (hne : ∀ q, row = some q → q ≠ p) : Cur w' p A n c := by
  obtain ⟨i, x, k, h0, h1⟩ := h
  exact ⟨i, x, gr_blk hg k hne, h0, h1⟩
theorem Cur.below {w w' : World} {p n c : Nat} {A : Option Addr} (h : Cur w p A n c) (hb : Below w.heap.size w w') : Cur w' p A n c := by
  obtain ⟨i, x, k, h0, h1⟩ := h
  exact ⟨i, x, Blk.past hb k, h0, h1⟩
theorem Cur.alloc {w : World} {p n c : Nat} {A : Option Addr} (h : Cur w p A n c) (o : Obj) : Cur (w.alloc o) p A n c := by
  obtain ⟨i, x, k, h0, h1⟩ := h
  exact ⟨i, x, k.alloc o, h0, h1⟩
theorem mem_snoc {P : Int → Prop} {xs : List Int} {r : Int} (h : ∀ x ∈ xs, P x) (hr : P r) : ∀ x ∈ xs ++ [r], P x := by
  intro x hx
  rcases List.mem_append.1 hx with h1 | h1
  · exact h x h1
  · simp at h1; subst h1; exact hr
theorem big_any (A : Option Addr) (n c : Nat) (w : World) (_hn : n ≤ 9223372036854775807) : Calls Tryd.prog 5 #[.slice A n c] w fun e w' => e = .returned (.bool (decide ((1048576 : Int) < (n : Int)))) ∧ w = w' := by
  go_enter Tryd.func5, Tryd.ntmps5
  go_wp2
  go_ret
  exact ⟨rfl, rfl⟩
open Go.ChangeShapes Go.WideShapes in
theorem view_bytes {H : Type} {enc : TypeId × Value → H} {P : Program} {W : World} {r : Reach} {b0 : Nat} {t e : TypeId} {v : Value} {d : DataW H} {ps : List MemPlace}
    (ht : P.underlying t = some (.slice e)) (he : P.underlying e = some (.int .u8)) (hc : P.cellsOf e = 1) (hv : Value.okWide P W r b0 t v)
    (h : DataW.Trod enc P W 0 (fun _ => true) true t v d ps) (hlt : ∀ x ∈ ps, x.block < W.heap.size) :
    ∃ A c xs, v = .slice A (List.length xs) c ∧ Bytes W W.heap.size A xs := by
  obtain ⟨a0, len0, cap0, rfl⟩ := okWide_slice ht hv
  obtain ⟨fuel, hf⟩ := h
  have hf' : DataW.trod enc P W 0 (fun _ => true) true fuel t [.slice a0 len0 cap0] = some (d, ps) := by simpa [Value.cells] using hf
  rcases open_ints ht he hc hf' with ⟨hcs, hx⟩ | ⟨a, len, cap, zs, hcs, _, hl, hm, hz, hx, hcell, hwz⟩
  · simp at hcs
    obtain ⟨rfl, rfl, rfl⟩ := hcs
    exact ⟨none, 0, [], rfl, Cells.nil_, by simp, by simp⟩
  · simp at hcs
    obtain ⟨rfl, rfl, rfl⟩ := hcs
    simp only [if_true] at hz
    have hlen : (zs.take len0).length = len0 := by rw [List.length_take]; omega
    refine ⟨some a, cap0, zs.take len0, by rw [hlen], fun h0 => ?_, fun x hx => ?_, by rw [hlen]; unfold maxLen at hm; omega⟩
    · have hb0 : (bytesV (zs.take len0)).length = len0 := by unfold bytesV; rw [List.length_map, hlen]
      rw [hb0] at h0
      obtain ⟨b, off, spot⟩ := a
      have hspot : spot = none := by simpa [Addr.add] using World.cell?_spot (hcell 0 (by omega))
      subst hspot
      refine ⟨b, off, rfl, hlt (.cell b off) (by rw [(Prod.mk.inj hx).2]; exact MemPlace.mem_row.2 ⟨0, by omega, by simp⟩), fun i v hv => ?_⟩
      have hi : i < len0 := by
        have := (List.getElem?_eq_some_iff.1 hv).1
        omega
      have hg : (zs.take len0)[i]? = some (zs.getD i 0) := by
        rw [List.getElem?_take, if_pos hi, List.getD_eq_getElem?_getD, List.getElem?_eq_getElem (by omega)]
        rfl
      rw [bytesV_get hg] at hv
      injection hv with hv
      rw [← hv, ← add_plain]
      exact hcell i (by omega)
    · have h1 := hwz x (List.mem_of_mem_take hx)
      simp only [Lit.wf, Bool.and_eq_true, decide_eq_true_eq] at h1
      exact h1
end Go.Proofs.YtceboblhpglofaaDoor
