import Derived.Test.YtjknadnknainbaaGreatDoorMem
import Derived.Test.YtjknadnknainbaaGreatDoorIntS
import Derived.Deep.DeepCutAuto
import Derived.Outline
import Derived.Test.YtjknadnknainbaaGreatDoorPlain
import Derived.ArgAppend
import Derived.Test.YtjknadnknainbaaGreatDoorGrow4
/- The reference's draws: the cursor, a byte, a number below a bound, the twelve places. Only the ranges of what is drawn are kept. -/
namespace Go.Proofs.YtjknadnknainbaaGreatDoor
open Go.RowKit

def bytesV (xs : List Int) : List Value := xs.map (Value.int .u8)
theorem bytesV_get {xs : List Int} {k : Nat} {x : Int} (h : xs[k]? = some x) : (bytesV xs)[k]? = some (.int .u8 x) := by simp [bytesV, h]
theorem and255 (a : Int) : 0 ≤ bits .and .i64 a 255 ∧ bits .and .i64 a 255 ≤ 255 := by
  have e : bits .and .i64 a 255 = IntKind.i64.wrap ((BitVec.ofInt 64 a &&& BitVec.ofInt 64 255).toNat : Int) := rfl
  have h : (BitVec.ofInt 64 a &&& BitVec.ofInt 64 255).toNat ≤ 255 := by
    rw [BitVec.toNat_and]
    have e2 : (BitVec.ofInt 64 255).toNat = 255 := by decide
    rw [e2]
    exact Nat.and_le_right
  rw [e, IntKind.wrap_i64]
  omega
/-- The cursor: the bytes, a place among them, a number. -/
def Cur (w : World) (p : Nat) (A : Option Addr) (n c : Nat) : Prop :=
  ∃ i h : Int, Blk w p 66 #[.slice A n c, .int .i64 i, .int .i64 h] ∧ 0 ≤ i ∧ i ≤ n
structure Bytes (w : World) (p : Nat) (A : Option Addr) (bs : List Int) : Prop where
  cells : Cells w p A (bytesV bs)
  small : ∀ x ∈ bs, 0 ≤ x ∧ x ≤ 255
  len : bs.length ≤ 9223372036854775807
set_option maxHeartbeats 800000 in
theorem byte_any (p : Nat) (A : Option Addr) (c : Nat) (bs : List Int) (w : World) (hc : Cur w p A bs.length c) (hb : Bytes w p A bs) :
    Calls Tryz.prog 35 #[.pointer (some ⟨p, 0, none⟩)] w fun e w' => ∃ r, e = .returned (.int .i64 r) ∧ 0 ≤ r ∧ r ≤ 255 ∧ Cur w' p A bs.length c ∧ Touch [p] w w' := by
  obtain ⟨i, h, k0, hi0, hi1⟩ := hc
  have c0 := k0.cell
  have f0 := k0.frozen
  have z0 := k0.lt
  have hl := hb.len
  have HB := hid hb
  clear hb
  go_enter Tryz.func35, Tryz.ntmps35
  go_wp2_with fail
  apply wp_touch1 (w0 := w) (L := [p]) (b0 := p)
  case h0 => exact blkBy
  case hb => exact tchBy
  case h =>
  intro W k1 hT
  obtain ⟨h2, k2⟩ : ∃ h2, Blk W p 66 #[.slice A bs.length c, .int .i64 i, .int .i64 h2] := ⟨_, k1⟩
  have sT := hT.size
  have c2 := k2.cell
  have f2 := k2.frozen
  have z2 := k2.lt
  clear k1 c0 f0
  go_cut [3] (fun v3 wx => ∃ x, 0 ≤ x ∧ x ≤ 255 ∧ v3 = .int .i64 x ∧ ∃ n, wx = W.drewN n)
  case first =>
    go_quiet (fail)
    go_wp2_with fail
    go_meet
    exact ⟨_, (and255 _).1, (and255 _).2, rfl, nq, rfl⟩
  case rest =>
    obtain ⟨x, hx0, hx1, rfl, nq, rfl⟩ := hcut
    obtain ⟨j, rfl⟩ := Int.eq_ofNat_of_zero_le hi0
    by_cases hlt : j < bs.length
    · obtain ⟨y, hy⟩ : ∃ y, bs[j]? = some y := ⟨_, List.getElem?_eq_getElem hlt⟩
      obtain ⟨hy0, hy1⟩ := HB.out.small y (List.mem_of_getElem? hy)
      obtain ⟨b, off, rfl, hB, hcl⟩ := HB.out.cells (by simp [bytesV]; omega)
      have hcell : W.cell? ⟨b, off + j, none⟩ = some (.int .u8 y) := hT.cell (hcl j _ (bytesV_get hy)) (by dsimp only; omega) (by simp; omega)
      have hlt' : (j : Int) < (bs.length : Int) := by omega
      clear hcl hy
      go_wp2_with fail
      go_quiet (fail)
      go_wp2_with fail
      go_quiet (fail)
      go_wp2_with fail
      go_ret
      exact ⟨_, rfl, (and255 _).1, (and255 _).2, ⟨_, h2, by exact blkcBy, by omega, by omega⟩, by exact tchBy⟩
    · go_wp2_with fail
      go_quiet (fail)
      go_wp2_with fail
      go_ret
      exact ⟨_, rfl, hx0, hx1, ⟨_, h2, by exact blkcBy, by omega, by omega⟩, by exact tchBy⟩
theorem Bytes.touch {w w' : World} {p : Nat} {A : Option Addr} {bs : List Int} (h : Bytes w p A bs) (hT : Touch [p] w w') (hp : p ≤ w.heap.size) : Bytes w' p A bs :=
  ⟨cells_touch hT h.cells hp (by simp), h.small, h.len⟩
theorem Bytes.step {w w' : World} {p : Nat} {A : Option Addr} {bs : List Int} (h : Bytes w p A bs) (hb : Below p w w') : Bytes w' p A bs := ⟨h.cells.below hb, h.small, h.len⟩
theorem Cur.lt {w : World} {p n c : Nat} {A : Option Addr} (h : Cur w p A n c) : p < w.heap.size := by
  obtain ⟨i, x, k, _, _⟩ := h
  exact k.lt
theorem tmod_lt (x n : Int) (h0 : 0 ≤ x) (hn : 1 ≤ n) : 0 ≤ x.tmod n ∧ x.tmod n < n := by
  rw [Int.tmod_eq_emod_of_nonneg h0]
  exact ⟨Int.emod_nonneg _ (by omega), Int.emod_lt_of_pos _ (by omega)⟩
theorem emod_lt (x n : Int) (hn : 1 ≤ n) : 0 ≤ x % n ∧ x % n < n := ⟨Int.emod_nonneg _ (by omega), Int.emod_lt_of_pos _ (by omega)⟩
set_option maxHeartbeats 800000 in
theorem below_any (n : Int) (p : Nat) (A : Option Addr) (c : Nat) (bs : List Int) (w : World) (hn : 1 ≤ n) (hn2 : n ≤ 1000000000000) (hc : Cur w p A bs.length c) (hb : Bytes w p A bs) :
    Calls Tryz.prog 18 #[.pointer (some ⟨p, 0, none⟩), .int .i64 n] w fun e w' => ∃ r, e = .returned (.int .i64 r) ∧ 0 ≤ r ∧ r < n ∧ Cur w' p A bs.length c ∧ Touch [p] w w' := by
  have HB := hid hb
  have HC := hid hc
  have hp := hc.lt
  clear hb hc
  by_cases h1 : n ≤ 256
  · go_enter Tryz.func18, Tryz.ntmps18
    go_wp2_with fail
    refine (byte_any _ _ _ _ _ HC.out HB.out).mono ?_
    rintro e w1 ⟨r, rfl, hr0, hr1, hc1, hT1⟩
    go_wp2
    go_ret
    exact ⟨_, rfl, (emod_lt _ _ hn).1, (emod_lt _ _ hn).2, hc1, hT1⟩
  · go_enter Tryz.func18, Tryz.ntmps18
    go_wp2_with fail
    refine (byte_any _ _ _ _ _ HC.out HB.out).mono ?_
    rintro e w1 ⟨r1, rfl, hr10, hr11, hc1, hT1⟩
    have hb1 := HB.out.touch hT1 (by omega)
    have z1 := hT1.size
    go_wp2_with fail
    refine (byte_any _ _ _ _ _ hc1 hb1).mono ?_
    rintro e w2 ⟨r2, rfl, hr20, hr21, hc2, hT2⟩
    have hb2 := hb1.touch hT2 (by omega)
    have z2 := hT2.size
    go_wp2_with fail
    refine (byte_any _ _ _ _ _ hc2 hb2).mono ?_
    rintro e w3 ⟨r3, rfl, hr30, hr31, hc3, hT3⟩
    have hb3 := hb2.touch hT3 (by omega)
    have z3 := hT3.size
    go_wp2_with fail
    refine (byte_any _ _ _ _ _ hc3 hb3).mono ?_
    rintro e w4 ⟨r4, rfl, hr40, hr41, hc4, hT4⟩
    have hT := ((hT1.trans hT2).trans hT3).trans hT4
    clear hT1 hT2 hT3 hT4 hc1 hc2 hc3 hb1 hb2 hb3
    go_wp2
    go_ret
    exact ⟨_, rfl, (emod_lt _ _ hn).1, (emod_lt _ _ hn).2, hc4, hT⟩
set_option maxRecDepth 100000 in
set_option maxHeartbeats 800000 in
theorem new_any (A : Option Addr) (c : Nat) (bs : List Int) (w : World) (hb : Bytes w w.heap.size A bs) :
    Calls Tryz.prog 17 #[.slice A bs.length c] w fun e w' => e = .returned (.pointer (some ⟨w.heap.size, 0, none⟩)) ∧ Cur w' w.heap.size A bs.length c ∧ Below w.heap.size w w' := by
  have HB := hid hb
  have hl := hb.len
  clear hb
  go_enter Tryz.func17, Tryz.ntmps17
  go_wp2
  go_loop [3, 4] (fun h i => ∃ (k : Nat) (x : Int), k ≤ bs.length ∧ i = .int .i64 k ∧ h = .int .i64 x) (fun _ i => bs.length - (intOf i).toNat)
  case atStart => exact ⟨0, _, Nat.zero_le _, rfl, rfl⟩
  case round =>
    obtain ⟨k, x, hk, rfl, rfl⟩ := hrel
    by_cases hlt : k < bs.length ∧ k < 4000
    · obtain ⟨hlt, hlt2⟩ := hlt
      have hlt3 : (k : Int) < 4000 := by omega
      clear hlt2
      obtain ⟨y, hy⟩ : ∃ y, bs[k]? = some y := ⟨_, List.getElem?_eq_getElem hlt⟩
      obtain ⟨hy0, hy1⟩ := HB.out.small y (List.mem_of_getElem? hy)
      obtain ⟨b, off, rfl, hB, hcl⟩ := HB.out.cells (by simp [bytesV]; omega)
      have hcell : w.cell? ⟨b, off + k, none⟩ = some (.int .u8 y) := hcl k _ (bytesV_get hy)
      have hk' : (k : Int) < (bs.length : Int) := by omega
      clear hcl hy
      go_wp2
      go_round
      case rel => exact ⟨k + 1, _, by omega, by go_num, rfl⟩
      case measure => simp [intOf]; omega
    · have hlt' : bs.length ≤ k ∨ 4000 ≤ k := by omega
      clear hlt
      rcases hlt' with hlt | hlt
      · obtain rfl : k = bs.length := by omega
        go_wp2
        go_ret
        exact ⟨rfl, ⟨_, _, by exact blkBy, by omega, by omega⟩, by exact belBy⟩
      · have hlt3 : (4000 : Int) ≤ (k : Int) := by omega
        clear hlt
        by_cases hx : k < bs.length
        · go_wp2
          go_ret
          exact ⟨rfl, ⟨_, _, by exact blkBy, by omega, by omega⟩, by exact belBy⟩
        · obtain rfl : k = bs.length := by omega
          go_wp2
          go_ret
          exact ⟨rfl, ⟨_, _, by exact blkBy, by omega, by omega⟩, by exact belBy⟩
theorem Cur.grown {w w' : World} {p n c : Nat} {A : Option Addr} {row : Option Nat} (h : Cur w p A n c) (hg : w.grownBy w' row) (hne : ∀ q, row = some q → q ≠ p) : Cur w' p A n c := by
  obtain ⟨i, x, k, h0, h1⟩ := h
  exact ⟨i, x, gr_blk hg k hne, h0, h1⟩
theorem Cur.below {w w' : World} {p n c : Nat} {A : Option Addr} (h : Cur w p A n c) (hb : Below w.heap.size w w') : Cur w' p A n c := by
  obtain ⟨i, x, k, h0, h1⟩ := h
  exact ⟨i, x, Blk.past hb k, h0, h1⟩
theorem Cur.alloc {w : World} {p n c : Nat} {A : Option Addr} (h : Cur w p A n c) (o : Obj) : Cur (w.alloc o) p A n c := by
  obtain ⟨i, x, k, h0, h1⟩ := h
  exact ⟨i, x, k.alloc o, h0, h1⟩
theorem mem_snoc {P : Int → Prop} {xs : List Int} {r : Int} (h : ∀ x ∈ xs, P x) (hr : P r) : ∀ x ∈ xs ++ [r], P x := by
  intro x hx
  rcases List.mem_append.1 hx with h1 | h1
  · exact h x h1
  · simp at h1; subst h1; exact hr
theorem big_any (A : Option Addr) (n c : Nat) (w : World) (_hn : n ≤ 9223372036854775807) : Calls Tryz.prog 5 #[.slice A n c] w fun e w' => e = .returned (.bool (decide ((1048576 : Int) < (n : Int)))) ∧ w = w' := by
  go_enter Tryz.func5, Tryz.ntmps5
  go_wp2
  go_ret
  exact ⟨rfl, rfl⟩
open Go.ChangeShapes Go.WideShapes in
theorem view_bytes {H : Type} {enc : TypeId × Value → H} {P : Program} {W : World} {r : Reach} {b0 : Nat} {t e : TypeId} {v : Value} {d : DataW H} {ps : List MemPlace}
    (ht : P.underlying t = some (.slice e)) (he : P.underlying e = some (.int .u8)) (hc : P.cellsOf e = 1) (hv : Value.okWide P W r b0 t v)
    (h : DataW.Trod enc P W 0 (fun _ => true) true t v d ps) (hlt : ∀ x ∈ ps, x.block < W.heap.size) :
    ∃ A c xs, v = .slice A (List.length xs) c ∧ Bytes W W.heap.size A xs := by
  obtain ⟨a0, len0, cap0, rfl⟩ := okWide_slice ht hv
  obtain ⟨fuel, hf⟩ := h
  have hf' : DataW.trod enc P W 0 (fun _ => true) true fuel t [.slice a0 len0 cap0] = some (d, ps) := by simpa [Value.cells] using hf
  rcases open_ints ht he hc hf' with ⟨hcs, hx⟩ | ⟨a, len, cap, zs, hcs, _, hl, hm, hz, hx, hcell, hwz⟩
  · simp at hcs
    obtain ⟨rfl, rfl, rfl⟩ := hcs
    exact ⟨none, 0, [], rfl, Cells.nil_, by simp, by simp⟩
  · simp at hcs
    obtain ⟨rfl, rfl, rfl⟩ := hcs
    simp only [if_true] at hz
    have hlen : (zs.take len0).length = len0 := by rw [List.length_take]; omega
    refine ⟨some a, cap0, zs.take len0, by rw [hlen], fun h0 => ?_, fun x hx => ?_, by rw [hlen]; unfold maxLen at hm; omega⟩
    · have hb0 : (bytesV (zs.take len0)).length = len0 := by unfold bytesV; rw [List.length_map, hlen]
      rw [hb0] at h0
      obtain ⟨b, off, spot⟩ := a
      have hspot : spot = none := by simpa [Addr.add] using World.cell?_spot (hcell 0 (by omega))
      subst hspot
      refine ⟨b, off, rfl, hlt (.cell b off) (by rw [(Prod.mk.inj hx).2]; exact MemPlace.mem_row.2 ⟨0, by omega, by simp⟩), fun i v hv => ?_⟩
      have hi : i < len0 := by
        have := (List.getElem?_eq_some_iff.1 hv).1
        omega
      have hg : (zs.take len0)[i]? = some (zs.getD i 0) := by
        rw [List.getElem?_take, if_pos hi, List.getD_eq_getElem?_getD, List.getElem?_eq_getElem (by omega)]
        rfl
      rw [bytesV_get hg] at hv
      injection hv with hv
      rw [← hv, ← add_plain]
      exact hcell i (by omega)
    · have h1 := hwz x (List.mem_of_mem_take hx)
      simp only [Lit.wf, Bool.and_eq_true, decide_eq_true_eq] at h1
      exact h1
end Go.Proofs.YtjknadnknainbaaGreatDoor
/- More of the reference's draws: a number out of a list, a word, a vault and its words. Only what the laws need of them is kept. -/
namespace Go.Proofs.YtjknadnknainbaaGreatDoor
open Go.RowKit

theorem news_of {w : World} {g : Nat} {xs : List Value} (h : ∀ i v, xs[i]? = some v → w.cell? ⟨g, i, none⟩ = some v) (hg : g < w.heap.size) (o : Obj) :
    ∀ (j : Nat) (u : Value), xs[j]? = some u → (w.alloc o).cell? ((⟨g, 0, none⟩ : Addr).add j) = some u := fun j u hu => by
  have e : (⟨g, 0, none⟩ : Addr).add j = ⟨g, j, none⟩ := by simp [Addr.add]; omega
  rw [e]
  exact cell_alloc (h j u hu) hg
theorem own_cells {w : World} {base e size n c g : Nat} {xs : List Value} (h : w.ownsRow base e size (.slice (some ⟨g, 0, none⟩) n c) n xs) (hn : 0 < n) :
    g < w.heap.size ∧ ∀ i v, xs[i]? = some v → w.cell? ⟨g, i, none⟩ = some v := by
  obtain ⟨g', e, _, h1, h2⟩ := own_at h hn
  injection e with e
  injection e with e _ _
  subst e
  exact ⟨h1, h2⟩
theorem wpList_unguard {P : Program} {w : World} {ops : Array Oper} {rest : List Oper} {o : Oper} {a : Act} {Q : Exit → Act → World → Prop} (hw : Region.wanted o (yielded ops a.tmps) = true)
    (h : wpList P ops Q ({ o with guard := none } :: rest) a w) : wpList P ops Q (o :: rest) a w := by
  unfold wpList at h ⊢
  rw [if_pos hw]
  rw [if_pos (by simp [Region.wanted])] at h
  exact h
theorem wpList_app1k {P : Program} {w : World} {ops : Array Oper} {rest : List Oper} {o : Oper} {a : Act} {Q : Exit → Act → World → Prop} (hgd : o.guard = none) (s x : Operand) (t : TypeId)
    (ho : o.op = .call { callee := .builtin .append, args := #[s, x], argTypes := #[t, t] })
    (base e : Nat) (z : Value) (bytes : Nat) (ht : P.underlying t = some (.slice e)) (hinfo : (P.info? e).map (fun i => (i.zero, i.size, i.bytes)) = some (some z, 1, bytes)) (hzs : z.cells.size = 1)
    (g n c : Nat) (xs : List Value) (hs : a.eval s = .slice (some ⟨g, 0, none⟩) n c) (hown : w.ownsRow base e 1 (.slice (some ⟨g, 0, none⟩) n c) n xs)
    (ad : Addr) (cc : Nat) (u : Value) (hx : a.eval x = .slice (some ad) 1 cc) (hnews : ∀ j v, [u][j]? = some v → w.cell? (ad.add j) = some v) (h1 : u.oneCell' = true)
    (hbound : n + 1 ≤ 1000000000) (hbytes : bytes ≤ 1000)
    (h : ∀ A c' w', Cells w' w'.heap.size A (xs ++ [u]) → Cells w' w'.heap.size (some ⟨g, 0, none⟩) xs → w.grownBy w' (some g) → wpList P ops Q rest (a.put o.dst (.slice A (n + 1) c')) w') : wpList P ops Q (o :: rest) a w := by
  obtain ⟨i, hi, hz0, hz1, hz2⟩ := info_parts hinfo
  have hmul : (n + 1) * bytes ≤ 1000000000 * 1000 := Nat.mul_le_mul hbound hbytes
  have hlen : xs.length = n := by simpa using hown.1
  rcases hown.2 with ⟨hv, _⟩ | ⟨g', cap, cur, hv, hg, hh, hn', hcap, hsz, htk⟩
  · injection hv with h2 _ _
    cases h2
  · injection hv with hA _ hcc
    injection hA with hA
    injection hA with hA _ _
    subst hA hcc
    have hlt : g < w.heap.size := by
      rcases Nat.lt_or_ge g w.heap.size with h0 | h0
      · exact h0
      · rw [Array.getElem?_eq_none h0] at hh; cases hh
    have hcell : ∀ i, w.cell? ⟨g, i, none⟩ = cur[i]? := fun i => by simp [World.cell?, hh]
    have hfr : ∀ i, w.frozen? ⟨g, i, none⟩ = false := fun i => by simp [World.frozen?, hh]
    have holds : ∀ j v, xs[j]? = some v → w.cell? ⟨g, j, none⟩ = some v := fun j v hv => by
      rw [hcell]
      subst htk
      rw [List.getElem?_take] at hv
      split at hv
      · simpa using hv
      · cases hv
    refine wpList_append_arg w hgd s x t ho e i z 1 bytes ht hi hz0 hz1 hz2 hzs (by decide) g 0 n c xs hs (by omega) (fun j v hv => by rw [Nat.zero_add]; exact holds j v hv) ad 1 cc [u] hx rfl hnews (by intro v hv; simp at hv; subst hv; exact h1)
      (fun hr j hj => ?_) (by unfold maxLen; omega) (by omega) (fun hr => ?_) (fun hr v' w' hown' hg' => ?_)
    · rw [hcell, hfr]
      refine ⟨?_, rfl⟩
      have : 0 + n * 1 + j < cur.size := by simp at hj; omega
      rw [Array.getElem?_eq_getElem this]
      rfl
    · have hb0 : (w.cell? ⟨g, 0 + n * 1, none⟩).isSome = true := by
        rw [hcell]
        have : 0 + n * 1 < cur.size := by omega
        rw [Array.getElem?_eq_getElem this]
        rfl
      have hset : w.setCells g (0 + n * 1) [u] = w.setCell ⟨g, 0 + n * 1, none⟩ u := rfl
      have hin := World.cell?_setCells_in g [u] (0 + n * 1) w (fun j hj => by simp at hj; subst hj; exact hb0) 0 (by simp)
      have hout : ∀ j v, j < n → w.cell? ⟨g, j, none⟩ = some v → (w.setCells g (0 + n * 1) [u]).cell? ⟨g, j, none⟩ = some v := fun j v hj hv => (World.cell?_setCells_out g [u] (0 + n * 1) w ⟨g, j, none⟩ (fun _ _ => .inl (by dsimp only; omega))).trans hv
      have hzz : (w.setCells g (0 + n * 1) [u]).heap.size = w.heap.size := by rw [hset]; simp
      refine h (some ⟨g, 0, none⟩) c _ (fun _ => ⟨g, 0, rfl, by omega, fun j v hv => ?_⟩) (fun _ => ⟨g, 0, rfl, by omega, fun j v hv => ?_⟩) ⟨rfl, rfl, rfl, by omega, fun k hk hne => ?_⟩
      · rw [Nat.zero_add j]
        by_cases hj : j < n
        · rw [List.getElem?_append_left (by omega)] at hv
          exact hout j v hj (holds j v hv)
        · have hj2 : j = n := by
            have := (List.getElem?_eq_some_iff.1 hv).1
            simp at this
            omega
          subst hj2
          rw [List.getElem?_append_right (by omega), hlen, Nat.sub_self] at hv
          simp at hv hin
          rw [← hv]
          simpa using hin
      · rw [Nat.zero_add j]
        have hj := (List.getElem?_eq_some_iff.1 hv).1
        exact hout j v (by omega) (holds j v hv)
      · exact Below.heap_setCell w _ u k (fun e => hne (by rw [e]))
    · obtain ⟨A, c', rfl⟩ := own_shape hown'
      refine h A c' w' (Cells.of_own hown') (fun _ => ⟨g, 0, rfl, Nat.lt_of_lt_of_le hlt hg'.size, fun j v hv => ?_⟩) ⟨hg'.os, hg'.tape, hg'.output, hg'.size, fun k hk _ => hg'.block k hk (by simp)⟩
      rw [Nat.zero_add]
      exact (World.cell?_of_block (hg'.block g hlt (by simp))).trans (holds j v hv)
theorem wp_stored {P : Program} {c : Code} {Q : Exit → Act → World → Prop} {a : Act} {w : World} {g j base e size n : Nat} {v u : Value} {xs : List Value}
    (hs : (w.setCell ⟨g, j, none⟩ u).ownsRow base e size v n xs ∧ w.grownBy (w.setCell ⟨g, j, none⟩ u) (some g))
    (h : ∀ W : World, W.ownsRow base e size v n xs → w.grownBy W (some g) → Code.wp P c Q a W) : Code.wp P c Q a (w.setCell ⟨g, j, none⟩ u) := h _ hs.1 hs.2
theorem wp_storedd {P : Program} {c : Code} {Q : Exit → Act → World → Prop} {a : Act} {w : World} {g j base e size n : Nat} {v u : Value} {xs : List Value}
    (hs : (w.setCell ⟨g, j, none⟩ u).ownsRow base e size v n xs ∧ w.grownBy (w.setCell ⟨g, j, none⟩ u) (some g))
    (h : ∀ W : World, W.ownsRow base e size v n xs → w.grownBy W (some g) → Code.wp P c Q a W) : Code.wp P c Q a (w.setCell ⟨g, j, none⟩ u).drew :=
  h _ hs.1.drew ⟨hs.2.os, hs.2.tape, hs.2.output, hs.2.size, hs.2.block⟩
theorem Cur.touch {L : List Nat} {w w' : World} {p n c : Nat} {A : Option Addr} (h : Cur w p A n c) (hT : Touch L w w') (hp : p ∉ L) : Cur w' p A n c := by
  obtain ⟨i, x, k, h0, h1⟩ := h
  exact ⟨i, x, Blk.touch hT k hp, h0, h1⟩
theorem Bytes.more {w : World} {p q : Nat} {A : Option Addr} {bs : List Int} (h : Bytes w p A bs) (hq : p ≤ q) : Bytes w q A bs := ⟨h.cells.more hq, h.small, h.len⟩
theorem wordsB_app {xs : List Int} {r : Int} (h : wordsB xs = true) (hr : isWordB r = true) : wordsB (xs ++ [r]) = true := by
  unfold wordsB at *
  simp [h, hr, List.all_append]
end Go.Proofs.YtjknadnknainbaaGreatDoor
/- A drawn choice; what a cursor leaves in place. -/
namespace Go.Proofs.YtjknadnknainbaaGreatDoor
open Go.RowKit

theorem Touch.trans_new {L M : List Nat} {w w1 w2 : World} (h1 : Touch L w w1) (h2 : Touch M w1 w2) (hM : ∀ i ∈ M, w.heap.size ≤ i) : Touch L w w2 :=
  ⟨h2.os.trans h1.os, h2.tape.trans h1.tape, h2.output.trans h1.output, Nat.le_trans h1.size h2.size, fun i hi hn => (h2.block i (Nat.lt_of_lt_of_le hi h1.size) (fun hm => by have := hM i hm; omega)).trans (h1.block i hi hn)⟩
theorem below0_touch {L : List Nat} {w0 w w' : World} (h : Touch L w w') (h0 : Below 0 w0 w) : Below 0 w0 w' :=
  ⟨h.os.trans h0.os, h.tape.trans h0.tape, h.output.trans h0.output, Nat.le_trans h0.size h.size, fun i hi => absurd hi (Nat.not_lt_zero i)⟩
end Go.Proofs.YtjknadnknainbaaGreatDoor
