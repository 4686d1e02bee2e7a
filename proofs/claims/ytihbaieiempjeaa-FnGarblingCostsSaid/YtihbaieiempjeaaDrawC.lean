import Derived.Test.YtihbaieiempjeaaBy
import Derived.Test.YtihbaieiempjeaaMem
import Derived.Test.YtihbaieiempjeaaIntS
import Derived.Deep.DeepCutAuto
import Derived.Outline
import Derived.Test.YtihbaieiempjeaaPlain
import Derived.ArgAppend
import Derived.Test.YtihbaieiempjeaaLab
import Derived.Test.YtihbaieiempjeaaSimL
import Derived.Test.YtihbaieiempjeaaGarG
/- The reference's draws: the cursor, a byte, a number below a bound, the twelve places. Only the ranges of what is drawn are kept. -/
namespace Go.Proofs.Ytihbaieiempjeaa
open Go.RowKit

def bytesV (xs : List Int) : List Value := xs.map (Value.int .u8)
theorem bytesV_get {xs : List Int} {k : Nat} {x : Int} (h : xs[k]? = some x) : (bytesV xs)[k]? = some (.int .u8 x) := by simp [bytesV, h]
theorem and255 (a : Int) : 0 ≤ bits .and .i64 a 255 ∧ bits .and .i64 a 255 ≤ 255 := by
  have e : bits .and .i64 a 255 = IntKind.i64.wrap ((BitVec.ofInt 64 a &&& BitVec.ofInt 64 255).toNat : Int) := rfl
  have h : (BitVec.ofInt 64 a &&& BitVec.ofInt 64 255).toNat ≤ 255 := by
    rw [BitVec.toNat_and]
    have e2 : (BitVec.ofInt 64 255).toNat = 255 := by decide
    rw [e2]
    exact Nat.and_le_right
  rw [e, IntKind.wrap_i64]
  omega
/-- The cursor: the bytes, a place among them, a number. -/
def Cur (w : World) (p : Nat) (A : Option Addr) (n c : Nat) : Prop :=
  ∃ i h : Int, Blk w p 87 #[.slice A n c, .int .i64 i, .int .i64 h] ∧ 0 ≤ i ∧ i ≤ n
structure Bytes (w : World) (p : Nat) (A : Option Addr) (bs : List Int) : Prop where
  cells : Cells w p A (bytesV bs)
  small : ∀ x ∈ bs, 0 ≤ x ∧ x ≤ 255
  len : bs.length ≤ 9223372036854775807
set_option maxHeartbeats 800000 in
theorem byte_any (p : Nat) (A : Option Addr) (c : Nat) (bs : List Int) (w : World) (hc : Cur w p A bs.length c) (hb : Bytes w p A bs) :
    Calls Try.prog 85 #[.pointer (some ⟨p, 0, none⟩)] w fun e w' => ∃ r, e = .returned (.int .i64 r) ∧ 0 ≤ r ∧ r ≤ 255 ∧ Cur w' p A bs.length c ∧ Touch [p] w w' := by
  obtain ⟨i, h, k0, hi0, hi1⟩ := hc
  have c0 := k0.cell
  have f0 := k0.frozen
  have z0 := k0.lt
  have hl := hb.len
  have HB := hid hb
  clear hb
  go_enter Try.func85, Try.ntmps85
  go_wp2_with fail
  apply wp_touch1 (w0 := w) (L := [p]) (b0 := p)
  case h0 => exact blkBy
  case hb => exact tchBy
  case h =>
  intro W k1 hT
  obtain ⟨h2, k2⟩ : ∃ h2, Blk W p 87 #[.slice A bs.length c, .int .i64 i, .int .i64 h2] := ⟨_, k1⟩
  have sT := hT.size
  have c2 := k2.cell
  have f2 := k2.frozen
  have z2 := k2.lt
  clear k1 c0 f0
  go_cut [3] (fun v3 wx => ∃ x, 0 ≤ x ∧ x ≤ 255 ∧ v3 = .int .i64 x ∧ ∃ n, wx = W.drewN n)
  case first =>
    go_quiet (fail)
    go_wp2_with fail
    go_meet
    exact ⟨_, (and255 _).1, (and255 _).2, rfl, nq, rfl⟩
  case rest =>
    obtain ⟨x, hx0, hx1, rfl, nq, rfl⟩ := hcut
    obtain ⟨j, rfl⟩ := Int.eq_ofNat_of_zero_le hi0
    by_cases hlt : j < bs.length
    · obtain ⟨y, hy⟩ : ∃ y, bs[j]? = some y := ⟨_, List.getElem?_eq_getElem hlt⟩
      obtain ⟨hy0, hy1⟩ := HB.out.small y (List.mem_of_getElem? hy)
      obtain ⟨b, off, rfl, hB, hcl⟩ := HB.out.cells (by simp [bytesV]; omega)
      have hcell : W.cell? ⟨b, off + j, none⟩ = some (.int .u8 y) := hT.cell (hcl j _ (bytesV_get hy)) (by dsimp only; omega) (by simp; omega)
      have hlt' : (j : Int) < (bs.length : Int) := by omega
      clear hcl hy
      go_wp2_with fail
      go_quiet (fail)
      go_wp2_with fail
      go_quiet (fail)
      go_wp2_with fail
      go_ret
      exact ⟨_, rfl, (and255 _).1, (and255 _).2, ⟨_, h2, by exact blkcBy, by omega, by omega⟩, by exact tchBy⟩
    · go_wp2_with fail
      go_quiet (fail)
      go_wp2_with fail
      go_ret
      exact ⟨_, rfl, hx0, hx1, ⟨_, h2, by exact blkcBy, by omega, by omega⟩, by exact tchBy⟩
theorem Bytes.touch {w w' : World} {p : Nat} {A : Option Addr} {bs : List Int} (h : Bytes w p A bs) (hT : Touch [p] w w') (hp : p ≤ w.heap.size) : Bytes w' p A bs :=
  ⟨cells_touch hT h.cells hp (by simp), h.small, h.len⟩
theorem Bytes.step {w w' : World} {p : Nat} {A : Option Addr} {bs : List Int} (h : Bytes w p A bs) (hb : Below p w w') : Bytes w' p A bs := ⟨h.cells.below hb, h.small, h.len⟩
theorem Cur.lt {w : World} {p n c : Nat} {A : Option Addr} (h : Cur w p A n c) : p < w.heap.size := by
  obtain ⟨i, x, k, _, _⟩ := h
  exact k.lt
theorem tmod_lt (x n : Int) (h0 : 0 ≤ x) (hn : 1 ≤ n) : 0 ≤ x.tmod n ∧ x.tmod n < n := by
  rw [Int.tmod_eq_emod_of_nonneg h0]
  exact ⟨Int.emod_nonneg _ (by omega), Int.emod_lt_of_pos _ (by omega)⟩
theorem emod_lt (x n : Int) (hn : 1 ≤ n) : 0 ≤ x % n ∧ x % n < n := ⟨Int.emod_nonneg _ (by omega), Int.emod_lt_of_pos _ (by omega)⟩
set_option maxHeartbeats 800000 in
theorem below_any (n : Int) (p : Nat) (A : Option Addr) (c : Nat) (bs : List Int) (w : World) (hn : 1 ≤ n) (hn2 : n ≤ 1000000000000) (hc : Cur w p A bs.length c) (hb : Bytes w p A bs) :
    Calls Try.prog 46 #[.pointer (some ⟨p, 0, none⟩), .int .i64 n] w fun e w' => ∃ r, e = .returned (.int .i64 r) ∧ 0 ≤ r ∧ r < n ∧ Cur w' p A bs.length c ∧ Touch [p] w w' := by
  have HB := hid hb
  have HC := hid hc
  have hp := hc.lt
  clear hb hc
  by_cases h1 : n ≤ 256
  · go_enter Try.func46, Try.ntmps46
    go_wp2_with fail
    refine (byte_any _ _ _ _ _ HC.out HB.out).mono ?_
    rintro e w1 ⟨r, rfl, hr0, hr1, hc1, hT1⟩
    go_wp2
    go_ret
    exact ⟨_, rfl, (emod_lt _ _ hn).1, (emod_lt _ _ hn).2, hc1, hT1⟩
  · go_enter Try.func46, Try.ntmps46
    go_wp2_with fail
    refine (byte_any _ _ _ _ _ HC.out HB.out).mono ?_
    rintro e w1 ⟨r1, rfl, hr10, hr11, hc1, hT1⟩
    have hb1 := HB.out.touch hT1 (by omega)
    have z1 := hT1.size
    go_wp2_with fail
    refine (byte_any _ _ _ _ _ hc1 hb1).mono ?_
    rintro e w2 ⟨r2, rfl, hr20, hr21, hc2, hT2⟩
    have hb2 := hb1.touch hT2 (by omega)
    have z2 := hT2.size
    go_wp2_with fail
    refine (byte_any _ _ _ _ _ hc2 hb2).mono ?_
    rintro e w3 ⟨r3, rfl, hr30, hr31, hc3, hT3⟩
    have hb3 := hb2.touch hT3 (by omega)
    have z3 := hT3.size
    go_wp2_with fail
    refine (byte_any _ _ _ _ _ hc3 hb3).mono ?_
    rintro e w4 ⟨r4, rfl, hr40, hr41, hc4, hT4⟩
    have hT := ((hT1.trans hT2).trans hT3).trans hT4
    clear hT1 hT2 hT3 hT4 hc1 hc2 hc3 hb1 hb2 hb3
    go_wp2
    go_ret
    exact ⟨_, rfl, (emod_lt _ _ hn).1, (emod_lt _ _ hn).2, hc4, hT⟩
set_option maxRecDepth 100000 in
set_option maxHeartbeats 800000 in
theorem new_any (A : Option Addr) (c : Nat) (bs : List Int) (w : World) (hb : Bytes w w.heap.size A bs) :
    Calls Try.prog 24 #[.slice A bs.length c] w fun e w' => e = .returned (.pointer (some ⟨w.heap.size, 0, none⟩)) ∧ Cur w' w.heap.size A bs.length c ∧ Below w.heap.size w w' := by
  have HB := hid hb
  have hl := hb.len
  clear hb
  go_enter Try.func24, Try.ntmps24
  go_wp2
  go_loop [3, 4] (fun h i => ∃ (k : Nat) (x : Int), k ≤ bs.length ∧ i = .int .i64 k ∧ h = .int .i64 x) (fun _ i => bs.length - (intOf i).toNat)
  case atStart => exact ⟨0, _, Nat.zero_le _, rfl, rfl⟩
  case round =>
    obtain ⟨k, x, hk, rfl, rfl⟩ := hrel
    by_cases hlt : k < bs.length ∧ k < 4000
    · obtain ⟨hlt, hlt2⟩ := hlt
      have hlt3 : (k : Int) < 4000 := by omega
      clear hlt2
      obtain ⟨y, hy⟩ : ∃ y, bs[k]? = some y := ⟨_, List.getElem?_eq_getElem hlt⟩
      obtain ⟨hy0, hy1⟩ := HB.out.small y (List.mem_of_getElem? hy)
      obtain ⟨b, off, rfl, hB, hcl⟩ := HB.out.cells (by simp [bytesV]; omega)
      have hcell : w.cell? ⟨b, off + k, none⟩ = some (.int .u8 y) := hcl k _ (bytesV_get hy)
      have hk' : (k : Int) < (bs.length : Int) := by omega
      clear hcl hy
      go_wp2
      go_round
      case rel => exact ⟨k + 1, _, by omega, by go_num, rfl⟩
      case measure => simp [intOf]; omega
    · have hlt' : bs.length ≤ k ∨ 4000 ≤ k := by omega
      clear hlt
      rcases hlt' with hlt | hlt
      · obtain rfl : k = bs.length := by omega
        go_wp2
        go_ret
        exact ⟨rfl, ⟨_, _, by exact blkBy, by omega, by omega⟩, by exact belBy⟩
      · have hlt3 : (4000 : Int) ≤ (k : Int) := by omega
        clear hlt
        by_cases hx : k < bs.length
        · go_wp2
          go_ret
          exact ⟨rfl, ⟨_, _, by exact blkBy, by omega, by omega⟩, by exact belBy⟩
        · obtain rfl : k = bs.length := by omega
          go_wp2
          go_ret
          exact ⟨rfl, ⟨_, _, by exact blkBy, by omega, by omega⟩, by exact belBy⟩
theorem Cur.grown {w w' : World} {p n c : Nat} {A : Option Addr} {row : Option Nat} (h : Cur w p A n c) (hg : w.grownBy w' row) (hne : ∀ q, row = some q → q ≠ p) : Cur w' p A n c := by
  obtain ⟨i, x, k, h0, h1⟩ := h
  exact ⟨i, x, gr_blk hg k hne, h0, h1⟩
theorem Cur.below {w w' : World} {p n c : Nat} {A : Option Addr} (h : Cur w p A n c) (hb : Below w.heap.size w w') : Cur w' p A n c := by
  obtain ⟨i, x, k, h0, h1⟩ := h
  exact ⟨i, x, Blk.past hb k, h0, h1⟩
theorem Cur.alloc {w : World} {p n c : Nat} {A : Option Addr} (h : Cur w p A n c) (o : Obj) : Cur (w.alloc o) p A n c := by
  obtain ⟨i, x, k, h0, h1⟩ := h
  exact ⟨i, x, k.alloc o, h0, h1⟩
theorem mem_snoc {P : Int → Prop} {xs : List Int} {r : Int} (h : ∀ x ∈ xs, P x) (hr : P r) : ∀ x ∈ xs ++ [r], P x := by
  intro x hx
  rcases List.mem_append.1 hx with h1 | h1
  · exact h x h1
  · simp at h1; subst h1; exact hr
theorem big_any (A : Option Addr) (n c : Nat) (w : World) (_hn : n ≤ 9223372036854775807) : Calls Try.prog 6 #[.slice A n c] w fun e w' => e = .returned (.bool (decide ((1048576 : Int) < (n : Int)))) ∧ w = w' := by
  go_enter Try.func6, Try.ntmps6
  go_wp2
  go_ret
  exact ⟨rfl, rfl⟩
open Go.ChangeShapes Go.WideShapes in
theorem view_bytes {H : Type} {enc : TypeId × Value → H} {P : Program} {W : World} {r : Reach} {b0 : Nat} {t e : TypeId} {v : Value} {d : DataW H} {ps : List MemPlace}
    (ht : P.underlying t = some (.slice e)) (he : P.underlying e = some (.int .u8)) (hc : P.cellsOf e = 1) (hv : Value.okWide P W r b0 t v)
    (h : DataW.Trod enc P W 0 (fun _ => true) true t v d ps) (hlt : ∀ x ∈ ps, x.block < W.heap.size) :
    ∃ A c xs, v = .slice A (List.length xs) c ∧ Bytes W W.heap.size A xs := by
  obtain ⟨a0, len0, cap0, rfl⟩ := okWide_slice ht hv
  obtain ⟨fuel, hf⟩ := h
  have hf' : DataW.trod enc P W 0 (fun _ => true) true fuel t [.slice a0 len0 cap0] = some (d, ps) := by simpa [Value.cells] using hf
  rcases open_ints ht he hc hf' with ⟨hcs, hx⟩ | ⟨a, len, cap, zs, hcs, _, hl, hm, hz, hx, hcell, hwz⟩
  · simp at hcs
    obtain ⟨rfl, rfl, rfl⟩ := hcs
    exact ⟨none, 0, [], rfl, Cells.nil_, by simp, by simp⟩
  · simp at hcs
    obtain ⟨rfl, rfl, rfl⟩ := hcs
    simp only [if_true] at hz
    have hlen : (zs.take len0).length = len0 := by rw [List.length_take]; omega
    refine ⟨some a, cap0, zs.take len0, by rw [hlen], fun h0 => ?_, fun x hx => ?_, by rw [hlen]; unfold maxLen at hm; omega⟩
    · have hb0 : (bytesV (zs.take len0)).length = len0 := by unfold bytesV; rw [List.length_map, hlen]
      rw [hb0] at h0
      obtain ⟨b, off, spot⟩ := a
      have hspot : spot = none := by simpa [Addr.add] using World.cell?_spot (hcell 0 (by omega))
      subst hspot
      refine ⟨b, off, rfl, hlt (.cell b off) (by rw [(Prod.mk.inj hx).2]; exact MemPlace.mem_row.2 ⟨0, by omega, by simp⟩), fun i v hv => ?_⟩
      have hi : i < len0 := by
        have := (List.getElem?_eq_some_iff.1 hv).1
        omega
      have hg : (zs.take len0)[i]? = some (zs.getD i 0) := by
        rw [List.getElem?_take, if_pos hi, List.getD_eq_getElem?_getD, List.getElem?_eq_getElem (by omega)]
        rfl
      rw [bytesV_get hg] at hv
      injection hv with hv
      rw [← hv, ← add_plain]
      exact hcell i (by omega)
    · have h1 := hwz x (List.mem_of_mem_take hx)
      simp only [Lit.wf, Bool.and_eq_true, decide_eq_true_eq] at h1
      exact h1
end Go.Proofs.Ytihbaieiempjeaa
/- More of the reference's draws: a number out of a list, a word, a vault and its words. Only what the laws need of them is kept. -/
namespace Go.Proofs.Ytihbaieiempjeaa
open Go.RowKit

theorem news_of {w : World} {g : Nat} {xs : List Value} (h : ∀ i v, xs[i]? = some v → w.cell? ⟨g, i, none⟩ = some v) (hg : g < w.heap.size) (o : Obj) :
    ∀ (j : Nat) (u : Value), xs[j]? = some u → (w.alloc o).cell? ((⟨g, 0, none⟩ : Addr).add j) = some u := fun j u hu => by
  have e : (⟨g, 0, none⟩ : Addr).add j = ⟨g, j, none⟩ := by simp [Addr.add]; omega
  rw [e]
  exact cell_alloc (h j u hu) hg
theorem own_cells {w : World} {base e size n c g : Nat} {xs : List Value} (h : w.ownsRow base e size (.slice (some ⟨g, 0, none⟩) n c) n xs) (hn : 0 < n) :
    g < w.heap.size ∧ ∀ i v, xs[i]? = some v → w.cell? ⟨g, i, none⟩ = some v := by
  obtain ⟨g', e, _, h1, h2⟩ := own_at h hn
  injection e with e
  injection e with e _ _
  subst e
  exact ⟨h1, h2⟩
theorem wpList_unguard {P : Program} {w : World} {ops : Array Oper} {rest : List Oper} {o : Oper} {a : Act} {Q : Exit → Act → World → Prop} (hw : Region.wanted o (yielded ops a.tmps) = true)
    (h : wpList P ops Q ({ o with guard := none } :: rest) a w) : wpList P ops Q (o :: rest) a w := by
  unfold wpList at h ⊢
  rw [if_pos hw]
  rw [if_pos (by simp [Region.wanted])] at h
  exact h
theorem wpList_app1k {P : Program} {w : World} {ops : Array Oper} {rest : List Oper} {o : Oper} {a : Act} {Q : Exit → Act → World → Prop} (hgd : o.guard = none) (s x : Operand) (t : TypeId)
    (ho : o.op = .call { callee := .builtin .append, args := #[s, x], argTypes := #[t, t] })
    (base e : Nat) (z : Value) (bytes : Nat) (ht : P.underlying t = some (.slice e)) (hinfo : (P.info? e).map (fun i => (i.zero, i.size, i.bytes)) = some (some z, 1, bytes)) (hzs : z.cells.size = 1)
    (g n c : Nat) (xs : List Value) (hs : a.eval s = .slice (some ⟨g, 0, none⟩) n c) (hown : w.ownsRow base e 1 (.slice (some ⟨g, 0, none⟩) n c) n xs)
    (ad : Addr) (cc : Nat) (u : Value) (hx : a.eval x = .slice (some ad) 1 cc) (hnews : ∀ j v, [u][j]? = some v → w.cell? (ad.add j) = some v) (h1 : u.oneCell' = true)
    (hbound : n + 1 ≤ 1000000000) (hbytes : bytes ≤ 1000)
    (h : ∀ A c' w', Cells w' w'.heap.size A (xs ++ [u]) → Cells w' w'.heap.size (some ⟨g, 0, none⟩) xs → w.grownBy w' (some g) → wpList P ops Q rest (a.put o.dst (.slice A (n + 1) c')) w') : wpList P ops Q (o :: rest) a w := by
  obtain ⟨i, hi, hz0, hz1, hz2⟩ := info_parts hinfo
  have hmul : (n + 1) * bytes ≤ 1000000000 * 1000 := Nat.mul_le_mul hbound hbytes
  have hlen : xs.length = n := by simpa using hown.1
  rcases hown.2 with ⟨hv, _⟩ | ⟨g', cap, cur, hv, hg, hh, hn', hcap, hsz, htk⟩
  · injection hv with h2 _ _
    cases h2
  · injection hv with hA _ hcc
    injection hA with hA
    injection hA with hA _ _
    subst hA hcc
    have hlt : g < w.heap.size := by
      rcases Nat.lt_or_ge g w.heap.size with h0 | h0
      · exact h0
      · rw [Array.getElem?_eq_none h0] at hh; cases hh
    have hcell : ∀ i, w.cell? ⟨g, i, none⟩ = cur[i]? := fun i => by simp [World.cell?, hh]
    have hfr : ∀ i, w.frozen? ⟨g, i, none⟩ = false := fun i => by simp [World.frozen?, hh]
    have holds : ∀ j v, xs[j]? = some v → w.cell? ⟨g, j, none⟩ = some v := fun j v hv => by
      rw [hcell]
      subst htk
      rw [List.getElem?_take] at hv
      split at hv
      · simpa using hv
      · cases hv
    refine wpList_append_arg w hgd s x t ho e i z 1 bytes ht hi hz0 hz1 hz2 hzs (by decide) g 0 n c xs hs (by omega) (fun j v hv => by rw [Nat.zero_add]; exact holds j v hv) ad 1 cc [u] hx rfl hnews (by intro v hv; simp at hv; subst hv; exact h1)
      (fun hr j hj => ?_) (by unfold maxLen; omega) (by omega) (fun hr => ?_) (fun hr v' w' hown' hg' => ?_)
    · rw [hcell, hfr]
      refine ⟨?_, rfl⟩
      have : 0 + n * 1 + j < cur.size := by simp at hj; omega
      rw [Array.getElem?_eq_getElem this]
      rfl
    · have hb0 : (w.cell? ⟨g, 0 + n * 1, none⟩).isSome = true := by
        rw [hcell]
        have : 0 + n * 1 < cur.size := by omega
        rw [Array.getElem?_eq_getElem this]
        rfl
      have hset : w.setCells g (0 + n * 1) [u] = w.setCell ⟨g, 0 + n * 1, none⟩ u := rfl
      have hin := World.cell?_setCells_in g [u] (0 + n * 1) w (fun j hj => by simp at hj; subst hj; exact hb0) 0 (by simp)
      have hout : ∀ j v, j < n → w.cell? ⟨g, j, none⟩ = some v → (w.setCells g (0 + n * 1) [u]).cell? ⟨g, j, none⟩ = some v := fun j v hj hv => (World.cell?_setCells_out g [u] (0 + n * 1) w ⟨g, j, none⟩ (fun _ _ => .inl (by dsimp only; omega))).trans hv
      have hzz : (w.setCells g (0 + n * 1) [u]).heap.size = w.heap.size := by rw [hset]; simp
      refine h (some ⟨g, 0, none⟩) c _ (fun _ => ⟨g, 0, rfl, by omega, fun j v hv => ?_⟩) (fun _ => ⟨g, 0, rfl, by omega, fun j v hv => ?_⟩) ⟨rfl, rfl, rfl, by omega, fun k hk hne => ?_⟩
      · rw [Nat.zero_add j]
        by_cases hj : j < n
        · rw [List.getElem?_append_left (by omega)] at hv
          exact hout j v hj (holds j v hv)
        · have hj2 : j = n := by
            have := (List.getElem?_eq_some_iff.1 hv).1
            simp at this
            omega
          subst hj2
          rw [List.getElem?_append_right (by omega), hlen, Nat.sub_self] at hv
          simp at hv hin
          rw [← hv]
          simpa using hin
      · rw [Nat.zero_add j]
        have hj := (List.getElem?_eq_some_iff.1 hv).1
        exact hout j v (by omega) (holds j v hv)
      · exact Below.heap_setCell w _ u k (fun e => hne (by rw [e]))
    · obtain ⟨A, c', rfl⟩ := own_shape hown'
      refine h A c' w' (Cells.of_own hown') (fun _ => ⟨g, 0, rfl, Nat.lt_of_lt_of_le hlt hg'.size, fun j v hv => ?_⟩) ⟨hg'.os, hg'.tape, hg'.output, hg'.size, fun k hk _ => hg'.block k hk (by simp)⟩
      rw [Nat.zero_add]
      exact (World.cell?_of_block (hg'.block g hlt (by simp))).trans (holds j v hv)
theorem wp_stored {P : Program} {c : Code} {Q : Exit → Act → World → Prop} {a : Act} {w : World} {g j base e size n : Nat} {v u : Value} {xs : List Value}
    (hs : (w.setCell ⟨g, j, none⟩ u).ownsRow base e size v n xs ∧ w.grownBy (w.setCell ⟨g, j, none⟩ u) (some g))
    (h : ∀ W : World, W.ownsRow base e size v n xs → w.grownBy W (some g) → Code.wp P c Q a W) : Code.wp P c Q a (w.setCell ⟨g, j, none⟩ u) := h _ hs.1 hs.2
theorem wp_storedd {P : Program} {c : Code} {Q : Exit → Act → World → Prop} {a : Act} {w : World} {g j base e size n : Nat} {v u : Value} {xs : List Value}
    (hs : (w.setCell ⟨g, j, none⟩ u).ownsRow base e size v n xs ∧ w.grownBy (w.setCell ⟨g, j, none⟩ u) (some g))
    (h : ∀ W : World, W.ownsRow base e size v n xs → w.grownBy W (some g) → Code.wp P c Q a W) : Code.wp P c Q a (w.setCell ⟨g, j, none⟩ u).drew :=
  h _ hs.1.drew ⟨hs.2.os, hs.2.tape, hs.2.output, hs.2.size, hs.2.block⟩
theorem Cur.touch {L : List Nat} {w w' : World} {p n c : Nat} {A : Option Addr} (h : Cur w p A n c) (hT : Touch L w w') (hp : p ∉ L) : Cur w' p A n c := by
  obtain ⟨i, x, k, h0, h1⟩ := h
  exact ⟨i, x, Blk.touch hT k hp, h0, h1⟩
set_option maxRecDepth 100000 in
theorem pick_any (p : Nat) (A : Option Addr) (c : Nat) (bs : List Int) (B : Option Addr) (d : Nat) (xs : List Int) (w : World) (hx0 : 1 ≤ xs.length) (hx1 : xs.length ≤ 256) (hc : Cur w p A bs.length c) (hb : Bytes w p A bs)
    (g : Nat) (hB : B = some ⟨g, 0, none⟩) (hgp : g ≠ p) (hg : g < w.heap.size) (hx : ∀ i v, (ints xs)[i]? = some v → w.cell? ⟨g, i, none⟩ = some v) :
    Calls Try.prog 91 #[.pointer (some ⟨p, 0, none⟩), .slice B xs.length d] w fun e w' => ∃ r, r ∈ xs ∧ e = .returned (.int .i64 r) ∧ Cur w' p A bs.length c ∧ Touch [p] w w' := by
  subst hB
  have HX := hid hx
  clear hx
  go_enter Try.func91, Try.ntmps91
  go_wp2_with fail
  refine (below_any _ _ _ _ _ _ (by omega) (by omega) hc hb).mono ?_
  rintro e w1 ⟨r, rfl, hr0, hr1, hc1, hT1⟩
  obtain ⟨i, rfl⟩ := Int.eq_ofNat_of_zero_le hr0
  obtain ⟨x, hxi⟩ : ∃ x, xs[i]? = some x := ⟨_, List.getElem?_eq_getElem (by omega)⟩
  have hcell := hT1.cell (HX.out i _ (ints_get hxi)) (by dsimp only; omega) (by simp; omega)
  have hin := List.mem_of_getElem? hxi
  clear hxi
  go_wp2
  go_ret
  exact ⟨x, hin, rfl, hc1, hT1⟩
set_option maxRecDepth 100000 in
set_option maxHeartbeats 800000 in
theorem word_any (p : Nat) (A : Option Addr) (c : Nat) (bs : List Int) (w : World) (hc : Cur w p A bs.length c) (hb : Bytes w p A bs) :
    Calls Try.prog 53 #[.pointer (some ⟨p, 0, none⟩)] w fun e w' => ∃ r, e = .returned (.int .i64 r) ∧ isWordB r = true ∧ Cur w' p A bs.length c ∧ Touch [p] w w' := by
  have HB := hid hb
  have hp := hc.lt
  clear hb
  go_enter Try.func53, Try.ntmps53
  go_wp2_with fail
  refine (below_any _ _ _ _ _ _ (by omega) (by omega) hc HB.out).mono ?_
  rintro e w1 ⟨r, rfl, hr0, hr1, hc1, hT1⟩
  have z1 := hT1.size
  have hb1 := HB.out.touch hT1 (by omega)
  have HB1 := hid hb1
  have HC1 := hid hc1
  have HT1 := hid hT1
  clear hb1 hc1 hT1 hc
  have h3 : r = 0 ∨ r = 1 ∨ (r ≠ 0 ∧ r ≠ 1) := by omega
  rcases h3 with rfl | rfl | ⟨h4, h5⟩
  · go_wp2_with fail
    refine (pick_any _ _ _ _ _ _ [0, 1, 4294967295, 2147483648, 65536] _ (by decide) (by decide) (HC1.out.alloc _) ⟨(HB1.out.cells.below ((Below.refl _ _).alloc (by omega) _)), HB1.out.small, HB1.out.len⟩ w1.heap.size rfl (by omega) (by simp) ?_).mono ?_
    · intro i v hv
      have := many_new w1 (ints [0, 1, 4294967295, 2147483648, 65536]) 3 i v hv
      have e : (⟨w1.heap.size, 0, none⟩ : Addr).add i = ⟨w1.heap.size, i, none⟩ := by simp [Addr.add]; omega
      rw [e] at this
      exact this
    rintro e w2 ⟨r, hr, rfl, hc2, hT2⟩
    have hT := HT1.out.trans (((Touch.refl _ _).alloc _).trans hT2)
    have hw : isWordB r = true := by
      simp at hr
      rcases hr with rfl | rfl | rfl | rfl | rfl <;> rfl
    clear hr hT2
    go_wp2
    go_ret
    exact ⟨r, rfl, hw, hc2, hT⟩
  · go_wp2_with fail
    refine (below_any _ _ _ _ _ _ (by omega) (by omega) HC1.out HB1.out).mono ?_
    rintro e w2 ⟨r, rfl, hr0, hr1, hc2, hT2⟩
    have hT := HT1.out.trans hT2
    clear hT2
    go_wp2
    go_ret
    exact ⟨r, rfl, isWordB_iff.2 (by omega), hc2, hT⟩
  · have t0 : (r == 0) = false := by simpa using h4
    have t1 : (r == 1) = false := by simpa using h5
    clear h4 h5
    go_wp2_with fail
    refine (below_any _ _ _ _ _ _ (by omega) (by omega) HC1.out HB1.out).mono ?_
    rintro e w2 ⟨a, rfl, ha0, ha1, hc2, hT2⟩
    have z2 := hT2.size
    have hb2 := HB1.out.touch hT2 (by omega)
    go_wp2_with fail
    refine (below_any _ _ _ _ _ _ (by omega) (by omega) hc2 hb2).mono ?_
    rintro e w3 ⟨b, rfl, hb0, hb1, hc3, hT3⟩
    have hT := (HT1.out.trans hT2).trans hT3
    clear hT2 hT3 hb2 hc2
    go_wp2
    go_ret
    exact ⟨_, rfl, isWordB_iff.2 (by omega), hc3, hT⟩
theorem Bytes.more {w : World} {p q : Nat} {A : Option Addr} {bs : List Int} (h : Bytes w p A bs) (hq : p ≤ q) : Bytes w q A bs := ⟨h.cells.more hq, h.small, h.len⟩
theorem wordsB_app {xs : List Int} {r : Int} (h : wordsB xs = true) (hr : isWordB r = true) : wordsB (xs ++ [r]) = true := by
  unfold wordsB at *
  simp [h, hr, List.all_append]
end Go.Proofs.Ytihbaieiempjeaa
/- The reference's draws of programs, inputs and tapes. Only what the laws need of them is kept. -/
namespace Go.Proofs.Ytihbaieiempjeaa
open Go.RowKit

theorem Touch.trans_new {L M : List Nat} {w w1 w2 : World} (h1 : Touch L w w1) (h2 : Touch M w1 w2) (hM : ∀ i ∈ M, w.heap.size ≤ i) : Touch L w w2 :=
  ⟨h2.os.trans h1.os, h2.tape.trans h1.tape, h2.output.trans h1.output, Nat.le_trans h1.size h2.size, fun i hi hn => (h2.block i (Nat.lt_of_lt_of_le hi h1.size) (fun hm => by have := hM i hm; omega)).trans (h1.block i hi hn)⟩
theorem below0_touch {L : List Nat} {w0 w w' : World} (h : Touch L w w') (h0 : Below 0 w0 w) : Below 0 w0 w' :=
  ⟨h.os.trans h0.os, h.tape.trans h0.tape, h.output.trans h0.output, Nat.le_trans h0.size h.size, fun i hi => absurd hi (Nat.not_lt_zero i)⟩
theorem Touch.of_below {L : List Nat} {w w' : World} (h : Below w.heap.size w w') : Touch L w w' := ⟨h.os, h.tape, h.output, h.size, fun i hi _ => h.block i hi⟩
theorem Touch.trans_b {L : List Nat} {w w1 w2 : World} (h : Touch L w w1) (hb : Below w.heap.size w1 w2) : Touch L w w2 :=
  ⟨hb.os.trans h.os, hb.tape.trans h.tape, hb.output.trans h.output, Nat.le_trans h.size hb.size, fun i hi hn => (hb.block i hi).trans (h.block i hi hn)⟩
theorem Touch.grown {L : List Nat} {w w1 w2 : World} {row : Option Nat} (h : Touch L w w1) (hg : w1.grownBy w2 row) (hlo : ∀ q, row = some q → w.heap.size ≤ q) : Touch L w w2 :=
  h.trans_b (gr_below hg (Below.refl _ _) h.size hlo)
theorem Bytes.touch' {L : List Nat} {w w' : World} {p : Nat} {A : Option Addr} {bs : List Int} (h : Bytes w p A bs) (hT : Touch L w w') (hp : p ≤ w.heap.size) (hL : ∀ i ∈ L, p ≤ i) : Bytes w' p A bs := ⟨cells_touch hT h.cells hp hL, h.small, h.len⟩

set_option maxRecDepth 100000 in
set_option maxHeartbeats 800000 in
theorem list_any (P : Int) (n p : Nat) (A : Option Addr) (c : Nat) (bs : List Int) (w : World) (hP : 1 ≤ P) (hP2 : P ≤ 1000) (hn : n ≤ 1000) (hc : Cur w p A bs.length c) (hb : Bytes w p A bs) :
    Calls Try.prog 84 #[.pointer (some ⟨p, 0, none⟩), .int .i64 P, .int .i64 n] w fun e w' => ∃ (xs : List Int) (A' : Option Addr) (c' : Nat), (xs.length = n ∧ ∀ x ∈ xs, 0 ≤ x ∧ x < P) ∧ e = .returned (.slice A' n c') ∧
      w'.ownsRow w.heap.size 3 1 (.slice A' n c') n (ints xs) ∧ Cur w' p A bs.length c ∧ Touch [p] w w' := by
  have HB := hid hb
  have HC := hid hc
  have hp := hc.lt
  clear hb hc
  go_enter Try.func84, Try.ntmps84
  go_wp2_with fail
  go_loopw [7, 8] (fun o i wr => ∃ (k : Nat) (xs : List Int) (A' : Option Addr) (c' : Nat), k ≤ n ∧ i = .int .i64 k ∧ xs.length = k ∧ o = .slice A' k c' ∧ (∀ x ∈ xs, 0 ≤ x ∧ x < P) ∧
    wr.ownsRow w.heap.size 3 1 (.slice A' k c') k (ints xs) ∧ Cur wr p A bs.length c ∧ Touch [p] w wr) (fun _ i _ => n - (intOf i).toNat)
  case atStart => exact ⟨0, [], some ⟨w.heap.size, 0, none⟩, 0, Nat.zero_le _, rfl, rfl, rfl, by simp, own_lit (size := 1) #[] 0 rfl (Nat.le_refl _) (Nat.zero_le _) rfl, HC.out.alloc _, (Touch.refl _ _).alloc _⟩
  case round =>
    obtain ⟨k, xs, A', c', hk, rfl, hlen, rfl, hsm, hown, hcu, htw⟩ := hrel
    have zw := htw.size
    have HL := hid hlen
    have HS := hid hsm
    have HO := hid hown
    have HU := hid hcu
    have HD := hid htw
    clear hlen hsm hown hcu htw
    by_cases hlt : k < n
    · have hlt' : (k : Int) < (n : Int) := by omega
      go_wp2_with fail
      refine (below_any _ _ _ _ _ _ (by omega) (by omega) HU.out (HB.out.touch HD.out (by omega))).mono ?_
      rintro e w2 ⟨r, rfl, hr0, hr1, hc2, hT⟩
      have z2 := hT.size
      have ho2 := own_touch' hT HO.out (fun q hq => by have h1 := own_in HO.out q hq; simp; omega)
      have HO2 := hid ho2
      have HU2 := hid hc2
      have HD2 := hid (HD.out.trans hT)
      clear hc2 hT ho2
      go_wp2_with (at_builtin; refine wpList_appi rfl _ _ 25 rfl w.heap.size 3 (.int .i64 0) 1 8 Try.underlying25 infoInt rfl (by decide) _ k _ rfl (HO2.out.alloc _) ⟨w2.heap.size, 0, none⟩ 1 1 _ rfl rfl (one_new _ _ _) (one_one _) (by omega) (by decide) (by simp; omega) ?_)
      intro A3 c3 w3 ho3 hg3 li3
      have hg := grown_alloc hg3
      have z3 := hg.size
      have hlo : ∀ q, (Value.slice A' k c').ownBlock = some q → w.heap.size ≤ q := fun q hq => (own_in HO2.out q hq).1
      have hc3 := HU2.out.grown hg (fun q hq => by have h1 := hlo q hq; omega)
      have ht3 := HD2.out.grown hg hlo
      rw [← ints_snoc] at ho3
      have HO3 := hid ho3
      have HU3 := hid hc3
      have HD3 := hid ht3
      clear hg hg3 li3 hlo ho3 hc3 ht3
      go_wp2
      go_roundw
      case rel => exact ⟨k + 1, xs ++ [r], A3, c3, by omega, by go_num, by rw [List.length_append, HL.out]; rfl, rfl, mem_snoc HS.out ⟨hr0, hr1⟩, HO3.out, HU3.out, HD3.out⟩
      case measure => simp [intOf]; omega
    · obtain rfl : k = n := by omega
      go_wp2
      go_ret
      exact ⟨xs, A', c', ⟨HL.out, HS.out⟩, rfl, HO.out, HU.out, HD.out⟩
set_option maxRecDepth 100000 in
set_option maxHeartbeats 800000 in
theorem tape_any (p : Nat) (A : Option Addr) (c : Nat) (bs : List Int) (w : World) (hc : Cur w p A bs.length c) (hb : Bytes w p A bs) :
    Calls Try.prog 27 #[.pointer (some ⟨p, 0, none⟩)] w fun e w' => ∃ (s a : Int), e = .returned (.agg #[.int .i64 s, .int .i64 a]) ∧ (tapeOkB s a = true ∧ a ≤ 50) ∧ Cur w' p A bs.length c ∧ Touch [p] w w' := by
  obtain ⟨i0, h0, hcu, cu_i0, cu_i1⟩ := hc
  have hp := hcu.lt
  have bc_s := hid hb.small
  have bc_l := hid hb.len
  have HBY := hb.cells
  clear hb
  go_enter Try.func27, Try.ntmps27
  have b_0 := (Below.refl 0 w)
  have s_0 := b_0.size
  have T_0 := Touch.refl [p] w
  have bc_0 := HBY
  clear HBY
  have cu_0 := hcu
  clear hcu
  have cu_lt := cu_0.lt
  have cell_cu := cu_0.cell
  have froz_cu := cu_0.frozen
  have lt_cu := cu_0.lt
  go_wp2_with fail
  refine calls_forget1 (W := w) (b0 := w.heap.size) (t0 := 29) (c0 := #[.int .i64 0, .int .i64 0]) ?_ ?_ ?_
  (focus exact blkcBy)
  (focus (exact belBy))
  intro X1 r_n hX1
  have sX1 := hX1.size
  have r_lt := r_n.lt
  refine (word_any _ _ _ _ _ (show Cur _ _ _ _ _ from ⟨_, _, Blk.past hX1 cu_0, cu_i0, cu_i1⟩) ⟨cells_below bc_0 hX1 (by omega), bc_s.out, bc_l.out⟩).mono ?_
  clear cu_i0 cu_i1
  rintro e w1 ⟨s, rfl, hs, ⟨i_1, h_1, cu_1, cu_i0, cu_i1⟩, hY1⟩
  have s1 := hY1.size
  have b_1 := below0_touch hY1 (b_0.trans (hX1.mono (by omega)))
  have T_1 := (T_0.trans (Touch.of_below hX1)).trans hY1
  have bc_1 := cells_touch hY1 (cells_below bc_0 hX1 (by omega)) (by omega) (by first | (simp; done) | (simp; omega))
  have r_1 := Blk.touch hY1 r_n (by first | (simp; done) | (simp; omega))
  clear T_0 bc_0 cu_0 b_0 cell_cu froz_cu lt_cu r_n hX1 hY1
  have cell_cu := cu_1.cell
  have froz_cu := cu_1.frozen
  have lt_cu := cu_1.lt
  have cell_r := r_1.cell
  have froz_r := r_1.frozen
  have lt_r := r_1.lt
  go_wp2_with fail
  refine calls_forget0 (W := w1) ?_ ?_
  (focus (exact belBy))
  intro X2 hX2
  have sX2 := hX2.size
  refine (below_any 50 _ _ _ _ _ (by omega) (by omega) (show Cur _ _ _ _ _ from ⟨_, _, Blk.past hX2 cu_1, cu_i0, cu_i1⟩) ⟨cells_below bc_1 hX2 (by omega), bc_s.out, bc_l.out⟩).mono ?_
  clear cu_i0 cu_i1
  rintro e w2 ⟨a, rfl, a0, a1, ⟨i_2, h_2, cu_2, cu_i0, cu_i1⟩, hY2⟩
  have s2 := hY2.size
  have b_2 := below0_touch hY2 (b_1.trans (hX2.mono (by omega)))
  have T_2 := (T_1.trans (Touch.of_below hX2)).trans hY2
  have bc_2 := cells_touch hY2 (cells_below bc_1 hX2 (by omega)) (by omega) (by first | (simp; done) | (simp; omega))
  have r_2 := Blk.touch hY2 (Blk.past hX2 r_1) (by first | (simp; done) | (simp; omega))
  clear T_1 bc_1 cu_1 r_1 b_1 cell_cu froz_cu lt_cu cell_r froz_r lt_r hX2 hY2
  have cell_cu := cu_2.cell
  have froz_cu := cu_2.frozen
  have lt_cu := cu_2.lt
  have cell_r := r_2.cell
  have froz_r := r_2.frozen
  have lt_r := r_2.lt
  go_wp2_with fail
  ((try simp only [Exit.inBlock, Exit.then]); apply bodyPost_ret0; focus ((try simp only [results, Try.results27]); (try go_simp); (try rfl)))
  refine ⟨s, a, rfl, ⟨by unfold tapeOkB; rw [hs, inB_iff.2 ⟨a0, by omega⟩]; rfl, by omega⟩, ?_, ?_⟩
  · exact ⟨_, _, Blk.touch (L := [w.heap.size]) (((Touch.refl _ _).set_ _ _ (by simp)).set_ _ _ (by simp)) cu_2 (by simp; omega), cu_i0, cu_i1⟩
  · have hT := T_2
    exact (hT.set_new _ _ (by dsimp only; omega)).set_new _ _ (by dsimp only; omega)

set_option maxHeartbeats 1600000 in
theorem sPlain8 (o d a b g n : Int) (w : World) :
    Calls Try.prog 99 #[.agg #[.int .i64 o, .int .i64 d, .int .i64 a, .int .i64 b, .int .i64 g, .int .i64 n]] w fun e w' =>
      ∃ x0 x1 x2 x3 x4 x5 : Int, e = .returned (.agg #[.int .i64 x0, .int .i64 x1, .int .i64 x2, .int .i64 x3, .int .i64 x4, .int .i64 x5]) ∧ Below w.heap.size w w' := by
  cases h1 : (o == 1)
  case true =>
    obtain rfl : o = 1 := by simpa using h1
    go_enter Try.func99, Try.ntmps99
    go_wp2
    go_returns
    refine ⟨_, _, _, _, _, _, rfl, ?_⟩
    exact belBy
  cases h2 : (o == 2)
  case true =>
    obtain rfl : o = 2 := by simpa using h2
    go_enter Try.func99, Try.ntmps99
    go_wp2
    go_returns
    refine ⟨_, _, _, _, _, _, rfl, ?_⟩
    exact belBy
  cases h3 : inB o 3 9
  case true =>
    go_enter Try.func99, Try.ntmps99
    go_wp2_with (go_at_call 57; refine (sWithin _ _ _ _).mono ?_; rintro e w' ⟨rfl, rfl⟩)
    go_returns
    refine ⟨_, _, _, _, _, _, rfl, ?_⟩
    exact belBy
  cases h4 : (o == 10)
  case true =>
    go_enter Try.func99, Try.ntmps99
    go_wp2_with (go_at_call 57; refine (sWithin _ _ _ _).mono ?_; rintro e w' ⟨rfl, rfl⟩)
    go_returns
    refine ⟨_, _, _, _, _, _, rfl, ?_⟩
    exact belBy
  cases h5 : (o == 11)
  case true =>
    go_enter Try.func99, Try.ntmps99
    go_wp2_with (go_at_call 57; refine (sWithin _ _ _ _).mono ?_; rintro e w' ⟨rfl, rfl⟩)
    go_returns
    refine ⟨_, _, _, _, _, _, rfl, ?_⟩
    exact belBy
  cases h6 : (o == 12)
  all_goals
    go_enter Try.func99, Try.ntmps99
    go_wp2_with (go_at_call 57; refine (sWithin _ _ _ _).mono ?_; rintro e w' ⟨rfl, rfl⟩)
    go_returns
    refine ⟨_, _, _, _, _, _, rfl, ?_⟩
    exact belBy
end Go.Proofs.Ytihbaieiempjeaa
/- The reference's drawn gates: valid ones. -/
namespace Go.Proofs.Ytihbaieiempjeaa
open Go.RowKit

set_option linter.unusedVariables false in
set_option maxRecDepth 100000 in
set_option maxHeartbeats 3200000 in
theorem gate_is (p : Nat) (A : Option Addr) (c : Nat) (bs : List Int) (m : Nat) (w : World) (hm : m ≤ 30) (hc : Cur w p A bs.length c) (hb : Bytes w p A bs) :
    Calls Try.prog 52 #[.pointer (some ⟨p, 0, none⟩), .int .i64 (m : Int)] w fun e w' => ∃ g : Gt, gateB g (m : Int) = true ∧ e = .returned (.agg #[.int .i64 g.k, .int .i64 g.a, .int .i64 g.b]) ∧ Cur w' p A bs.length c ∧ Touch [p] w w' := by
  obtain ⟨i0, h0, hcu, cu_i0, cu_i1⟩ := hc
  have hp := hcu.lt
  have bc_s := hid hb.small
  have bc_l := hid hb.len
  have HBY := hb.cells
  clear hb
  go_enter Try.func52, Try.ntmps52
  have b_0 := (Below.refl 0 w)
  have s_0 := b_0.size
  have T_0 := Touch.refl [p] w
  have bc_0 := HBY
  clear HBY
  have cu_0 := hcu
  clear hcu
  have cu_lt := cu_0.lt
  have cell_cu := cu_0.cell
  have froz_cu := cu_0.frozen
  have lt_cu := cu_0.lt
  go_wp2_with fail
  refine calls_forget1 (W := w) (b0 := w.heap.size) (t0 := 70) (c0 := #[.int .i64 0, .int .i64 0, .int .i64 0]) ?_ ?_ ?_
  (focus exact blkcBy)
  (focus (exact belBy))
  intro X1 r_n hX1
  have sX1 := hX1.size
  have r_lt := r_n.lt
  refine (below_any 7 _ _ _ _ _ (by omega) (by omega) (show Cur _ _ _ _ _ from ⟨_, _, Blk.past hX1 cu_0, cu_i0, cu_i1⟩) ⟨cells_below bc_0 hX1 (by omega), bc_s.out, bc_l.out⟩).mono ?_
  clear cu_i0 cu_i1
  rintro e w1 ⟨q, rfl, q0, q1, ⟨i_1, h_1, cu_1, cu_i0, cu_i1⟩, hY1⟩
  have s1 := hY1.size
  have b_1 := below0_touch hY1 (b_0.trans (hX1.mono (by omega)))
  have T_1 := (T_0.trans (Touch.of_below hX1)).trans hY1
  have bc_1 := cells_touch hY1 (cells_below bc_0 hX1 (by omega)) (by omega) (by first | (simp; done) | (simp; omega))
  have r_1 := Blk.touch hY1 r_n (by first | (simp; done) | (simp; omega))
  clear T_0 bc_0 cu_0 b_0 cell_cu froz_cu lt_cu r_n hX1 hY1
  have cell_cu := cu_1.cell
  have froz_cu := cu_1.frozen
  have lt_cu := cu_1.lt
  have cell_r := r_1.cell
  have froz_r := r_1.frozen
  have lt_r := r_1.lt
  have h7 : q = 0 ∨ q = 1 ∨ q = 2 ∨ q = 3 ∨ q = 4 ∨ q = 5 ∨ q = 6 := by omega
  clear q0 q1
  by_cases hm0 : m = 0
  · subst hm0
    rcases h7 with rfl | rfl | rfl | rfl | rfl | rfl | rfl
    · skip
      have b_20 := (Below.refl 0 w1)
      have s_20 := b_20.size
      have T_20 := T_1
      have bc_20 := bc_1
      clear bc_1
      have cu_20 := cu_1
      clear cu_1
      have cu_lt := cu_20.lt
      have cell_cu := cu_20.cell
      have froz_cu := cu_20.frozen
      have lt_cu := cu_20.lt
      have r_20 := r_1
      clear r_1
      have r_lt := r_20.lt
      have cell_r := r_20.cell
      have froz_r := r_20.frozen
      have lt_r := r_20.lt
      go_wp2_with fail
      refine calls_forget0 (W := w1) ?_ ?_
      (focus (exact belBy))
      intro X21 hX21
      have sX21 := hX21.size
      refine (below_any 20 _ _ _ _ _ (by omega) (by omega) (show Cur _ _ _ _ _ from ⟨_, _, Blk.past hX21 cu_20, cu_i0, cu_i1⟩) ⟨cells_below bc_20 hX21 (by omega), bc_s.out, bc_l.out⟩).mono ?_
      clear cu_i0 cu_i1
      rintro e w21 ⟨x, rfl, x0, x1, ⟨i_21, h_21, cu_21, cu_i0, cu_i1⟩, hY21⟩
      have s21 := hY21.size
      have b_21 := below0_touch hY21 (b_20.trans (hX21.mono (by omega)))
      have T_21 := (T_20.trans (Touch.of_below hX21)).trans hY21
      have bc_21 := cells_touch hY21 (cells_below bc_20 hX21 (by omega)) (by omega) (by first | (simp; done) | (simp; omega))
      have r_21 := Blk.touch hY21 (Blk.past hX21 r_20) (by first | (simp; done) | (simp; omega))
      clear T_20 bc_20 cu_20 r_20 b_20 cell_cu froz_cu lt_cu cell_r froz_r lt_r hX21 hY21
      have cell_cu := cu_21.cell
      have froz_cu := cu_21.frozen
      have lt_cu := cu_21.lt
      have cell_r := r_21.cell
      have froz_r := r_21.frozen
      have lt_r := r_21.lt
      have HX := hid (show 0 ≤ x ∧ x ≤ 79 by omega)
      go_wp2_with fail
      ((try simp only [Exit.inBlock, Exit.then]); apply bodyPost_ret0; focus ((try simp only [results, Try.results52]); (try go_simp); (try rfl)))
      refine ⟨⟨1, x, 0⟩, gate1_ok HX.out, rfl, ?_, ?_⟩
      · exact Cur.touch (L := [w.heap.size]) ⟨_, _, cu_21, cu_i0, cu_i1⟩ (by exact tchBy) (by simp; omega)
      · exact T_21.trans_new (M := [w.heap.size]) (by exact tchBy) (by simp)
    · skip
      have b_20 := (Below.refl 0 w1)
      have s_20 := b_20.size
      have T_20 := T_1
      have bc_20 := bc_1
      clear bc_1
      have cu_20 := cu_1
      clear cu_1
      have cu_lt := cu_20.lt
      have cell_cu := cu_20.cell
      have froz_cu := cu_20.frozen
      have lt_cu := cu_20.lt
      have r_20 := r_1
      clear r_1
      have r_lt := r_20.lt
      have cell_r := r_20.cell
      have froz_r := r_20.frozen
      have lt_r := r_20.lt
      go_wp2_with fail
      refine calls_forget0 (W := w1) ?_ ?_
      (focus (exact belBy))
      intro X21 hX21
      have sX21 := hX21.size
      refine (below_any 2 _ _ _ _ _ (by omega) (by omega) (show Cur _ _ _ _ _ from ⟨_, _, Blk.past hX21 cu_20, cu_i0, cu_i1⟩) ⟨cells_below bc_20 hX21 (by omega), bc_s.out, bc_l.out⟩).mono ?_
      clear cu_i0 cu_i1
      rintro e w21 ⟨x, rfl, x0, x1, ⟨i_21, h_21, cu_21, cu_i0, cu_i1⟩, hY21⟩
      have s21 := hY21.size
      have b_21 := below0_touch hY21 (b_20.trans (hX21.mono (by omega)))
      have T_21 := (T_20.trans (Touch.of_below hX21)).trans hY21
      have bc_21 := cells_touch hY21 (cells_below bc_20 hX21 (by omega)) (by omega) (by first | (simp; done) | (simp; omega))
      have r_21 := Blk.touch hY21 (Blk.past hX21 r_20) (by first | (simp; done) | (simp; omega))
      clear T_20 bc_20 cu_20 r_20 b_20 cell_cu froz_cu lt_cu cell_r froz_r lt_r hX21 hY21
      have cell_cu := cu_21.cell
      have froz_cu := cu_21.frozen
      have lt_cu := cu_21.lt
      have cell_r := r_21.cell
      have froz_r := r_21.frozen
      have lt_r := r_21.lt
      have HX := hid (show 0 ≤ x ∧ x ≤ 1 by omega)
      go_wp2_with fail
      ((try simp only [Exit.inBlock, Exit.then]); apply bodyPost_ret0; focus ((try simp only [results, Try.results52]); (try go_simp); (try rfl)))
      refine ⟨⟨2, x, 0⟩, gate2_ok HX.out, rfl, ?_, ?_⟩
      · exact Cur.touch (L := [w.heap.size]) ⟨_, _, cu_21, cu_i0, cu_i1⟩ (by exact tchBy) (by simp; omega)
      · exact T_21.trans_new (M := [w.heap.size]) (by exact tchBy) (by simp)
    · skip
      have b_20 := (Below.refl 0 w1)
      have s_20 := b_20.size
      have T_20 := T_1
      have bc_20 := bc_1
      clear bc_1
      have cu_20 := cu_1
      clear cu_1
      have cu_lt := cu_20.lt
      have cell_cu := cu_20.cell
      have froz_cu := cu_20.frozen
      have lt_cu := cu_20.lt
      have r_20 := r_1
      clear r_1
      have r_lt := r_20.lt
      have cell_r := r_20.cell
      have froz_r := r_20.frozen
      have lt_r := r_20.lt
      go_wp2_with fail
      refine calls_forget0 (W := w1) ?_ ?_
      (focus (exact belBy))
      intro X21 hX21
      have sX21 := hX21.size
      refine (below_any 20 _ _ _ _ _ (by omega) (by omega) (show Cur _ _ _ _ _ from ⟨_, _, Blk.past hX21 cu_20, cu_i0, cu_i1⟩) ⟨cells_below bc_20 hX21 (by omega), bc_s.out, bc_l.out⟩).mono ?_
      clear cu_i0 cu_i1
      rintro e w21 ⟨x, rfl, x0, x1, ⟨i_21, h_21, cu_21, cu_i0, cu_i1⟩, hY21⟩
      have s21 := hY21.size
      have b_21 := below0_touch hY21 (b_20.trans (hX21.mono (by omega)))
      have T_21 := (T_20.trans (Touch.of_below hX21)).trans hY21
      have bc_21 := cells_touch hY21 (cells_below bc_20 hX21 (by omega)) (by omega) (by first | (simp; done) | (simp; omega))
      have r_21 := Blk.touch hY21 (Blk.past hX21 r_20) (by first | (simp; done) | (simp; omega))
      clear T_20 bc_20 cu_20 r_20 b_20 cell_cu froz_cu lt_cu cell_r froz_r lt_r hX21 hY21
      have cell_cu := cu_21.cell
      have froz_cu := cu_21.frozen
      have lt_cu := cu_21.lt
      have cell_r := r_21.cell
      have froz_r := r_21.frozen
      have lt_r := r_21.lt
      have HX := hid (show 0 ≤ x ∧ x ≤ 79 by omega)
      go_wp2_with fail
      ((try simp only [Exit.inBlock, Exit.then]); apply bodyPost_ret0; focus ((try simp only [results, Try.results52]); (try go_simp); (try rfl)))
      refine ⟨⟨1, x, 0⟩, gate1_ok HX.out, rfl, ?_, ?_⟩
      · exact Cur.touch (L := [w.heap.size]) ⟨_, _, cu_21, cu_i0, cu_i1⟩ (by exact tchBy) (by simp; omega)
      · exact T_21.trans_new (M := [w.heap.size]) (by exact tchBy) (by simp)
    · skip
      have b_20 := (Below.refl 0 w1)
      have s_20 := b_20.size
      have T_20 := T_1
      have bc_20 := bc_1
      clear bc_1
      have cu_20 := cu_1
      clear cu_1
      have cu_lt := cu_20.lt
      have cell_cu := cu_20.cell
      have froz_cu := cu_20.frozen
      have lt_cu := cu_20.lt
      have r_20 := r_1
      clear r_1
      have r_lt := r_20.lt
      have cell_r := r_20.cell
      have froz_r := r_20.frozen
      have lt_r := r_20.lt
      go_wp2_with fail
      refine calls_forget0 (W := w1) ?_ ?_
      (focus (exact belBy))
      intro X21 hX21
      have sX21 := hX21.size
      refine (below_any 20 _ _ _ _ _ (by omega) (by omega) (show Cur _ _ _ _ _ from ⟨_, _, Blk.past hX21 cu_20, cu_i0, cu_i1⟩) ⟨cells_below bc_20 hX21 (by omega), bc_s.out, bc_l.out⟩).mono ?_
      clear cu_i0 cu_i1
      rintro e w21 ⟨x, rfl, x0, x1, ⟨i_21, h_21, cu_21, cu_i0, cu_i1⟩, hY21⟩
      have s21 := hY21.size
      have b_21 := below0_touch hY21 (b_20.trans (hX21.mono (by omega)))
      have T_21 := (T_20.trans (Touch.of_below hX21)).trans hY21
      have bc_21 := cells_touch hY21 (cells_below bc_20 hX21 (by omega)) (by omega) (by first | (simp; done) | (simp; omega))
      have r_21 := Blk.touch hY21 (Blk.past hX21 r_20) (by first | (simp; done) | (simp; omega))
      clear T_20 bc_20 cu_20 r_20 b_20 cell_cu froz_cu lt_cu cell_r froz_r lt_r hX21 hY21
      have cell_cu := cu_21.cell
      have froz_cu := cu_21.frozen
      have lt_cu := cu_21.lt
      have cell_r := r_21.cell
      have froz_r := r_21.frozen
      have lt_r := r_21.lt
      have HX := hid (show 0 ≤ x ∧ x ≤ 79 by omega)
      go_wp2_with fail
      ((try simp only [Exit.inBlock, Exit.then]); apply bodyPost_ret0; focus ((try simp only [results, Try.results52]); (try go_simp); (try rfl)))
      refine ⟨⟨1, x, 0⟩, gate1_ok HX.out, rfl, ?_, ?_⟩
      · exact Cur.touch (L := [w.heap.size]) ⟨_, _, cu_21, cu_i0, cu_i1⟩ (by exact tchBy) (by simp; omega)
      · exact T_21.trans_new (M := [w.heap.size]) (by exact tchBy) (by simp)
    · skip
      have b_20 := (Below.refl 0 w1)
      have s_20 := b_20.size
      have T_20 := T_1
      have bc_20 := bc_1
      clear bc_1
      have cu_20 := cu_1
      clear cu_1
      have cu_lt := cu_20.lt
      have cell_cu := cu_20.cell
      have froz_cu := cu_20.frozen
      have lt_cu := cu_20.lt
      have r_20 := r_1
      clear r_1
      have r_lt := r_20.lt
      have cell_r := r_20.cell
      have froz_r := r_20.frozen
      have lt_r := r_20.lt
      go_wp2_with fail
      refine calls_forget0 (W := w1) ?_ ?_
      (focus (exact belBy))
      intro X21 hX21
      have sX21 := hX21.size
      refine (below_any 20 _ _ _ _ _ (by omega) (by omega) (show Cur _ _ _ _ _ from ⟨_, _, Blk.past hX21 cu_20, cu_i0, cu_i1⟩) ⟨cells_below bc_20 hX21 (by omega), bc_s.out, bc_l.out⟩).mono ?_
      clear cu_i0 cu_i1
      rintro e w21 ⟨x, rfl, x0, x1, ⟨i_21, h_21, cu_21, cu_i0, cu_i1⟩, hY21⟩
      have s21 := hY21.size
      have b_21 := below0_touch hY21 (b_20.trans (hX21.mono (by omega)))
      have T_21 := (T_20.trans (Touch.of_below hX21)).trans hY21
      have bc_21 := cells_touch hY21 (cells_below bc_20 hX21 (by omega)) (by omega) (by first | (simp; done) | (simp; omega))
      have r_21 := Blk.touch hY21 (Blk.past hX21 r_20) (by first | (simp; done) | (simp; omega))
      clear T_20 bc_20 cu_20 r_20 b_20 cell_cu froz_cu lt_cu cell_r froz_r lt_r hX21 hY21
      have cell_cu := cu_21.cell
      have froz_cu := cu_21.frozen
      have lt_cu := cu_21.lt
      have cell_r := r_21.cell
      have froz_r := r_21.frozen
      have lt_r := r_21.lt
      have HX := hid (show 0 ≤ x ∧ x ≤ 79 by omega)
      go_wp2_with fail
      ((try simp only [Exit.inBlock, Exit.then]); apply bodyPost_ret0; focus ((try simp only [results, Try.results52]); (try go_simp); (try rfl)))
      refine ⟨⟨1, x, 0⟩, gate1_ok HX.out, rfl, ?_, ?_⟩
      · exact Cur.touch (L := [w.heap.size]) ⟨_, _, cu_21, cu_i0, cu_i1⟩ (by exact tchBy) (by simp; omega)
      · exact T_21.trans_new (M := [w.heap.size]) (by exact tchBy) (by simp)
    · skip
      have b_20 := (Below.refl 0 w1)
      have s_20 := b_20.size
      have T_20 := T_1
      have bc_20 := bc_1
      clear bc_1
      have cu_20 := cu_1
      clear cu_1
      have cu_lt := cu_20.lt
      have cell_cu := cu_20.cell
      have froz_cu := cu_20.frozen
      have lt_cu := cu_20.lt
      have r_20 := r_1
      clear r_1
      have r_lt := r_20.lt
      have cell_r := r_20.cell
      have froz_r := r_20.frozen
      have lt_r := r_20.lt
      go_wp2_with fail
      refine calls_forget0 (W := w1) ?_ ?_
      (focus (exact belBy))
      intro X21 hX21
      have sX21 := hX21.size
      refine (below_any 20 _ _ _ _ _ (by omega) (by omega) (show Cur _ _ _ _ _ from ⟨_, _, Blk.past hX21 cu_20, cu_i0, cu_i1⟩) ⟨cells_below bc_20 hX21 (by omega), bc_s.out, bc_l.out⟩).mono ?_
      clear cu_i0 cu_i1
      rintro e w21 ⟨x, rfl, x0, x1, ⟨i_21, h_21, cu_21, cu_i0, cu_i1⟩, hY21⟩
      have s21 := hY21.size
      have b_21 := below0_touch hY21 (b_20.trans (hX21.mono (by omega)))
      have T_21 := (T_20.trans (Touch.of_below hX21)).trans hY21
      have bc_21 := cells_touch hY21 (cells_below bc_20 hX21 (by omega)) (by omega) (by first | (simp; done) | (simp; omega))
      have r_21 := Blk.touch hY21 (Blk.past hX21 r_20) (by first | (simp; done) | (simp; omega))
      clear T_20 bc_20 cu_20 r_20 b_20 cell_cu froz_cu lt_cu cell_r froz_r lt_r hX21 hY21
      have cell_cu := cu_21.cell
      have froz_cu := cu_21.frozen
      have lt_cu := cu_21.lt
      have cell_r := r_21.cell
      have froz_r := r_21.frozen
      have lt_r := r_21.lt
      have HX := hid (show 0 ≤ x ∧ x ≤ 79 by omega)
      go_wp2_with fail
      ((try simp only [Exit.inBlock, Exit.then]); apply bodyPost_ret0; focus ((try simp only [results, Try.results52]); (try go_simp); (try rfl)))
      refine ⟨⟨1, x, 0⟩, gate1_ok HX.out, rfl, ?_, ?_⟩
      · exact Cur.touch (L := [w.heap.size]) ⟨_, _, cu_21, cu_i0, cu_i1⟩ (by exact tchBy) (by simp; omega)
      · exact T_21.trans_new (M := [w.heap.size]) (by exact tchBy) (by simp)
    · skip
      have b_20 := (Below.refl 0 w1)
      have s_20 := b_20.size
      have T_20 := T_1
      have bc_20 := bc_1
      clear bc_1
      have cu_20 := cu_1
      clear cu_1
      have cu_lt := cu_20.lt
      have cell_cu := cu_20.cell
      have froz_cu := cu_20.frozen
      have lt_cu := cu_20.lt
      have r_20 := r_1
      clear r_1
      have r_lt := r_20.lt
      have cell_r := r_20.cell
      have froz_r := r_20.frozen
      have lt_r := r_20.lt
      go_wp2_with fail
      refine calls_forget0 (W := w1) ?_ ?_
      (focus (exact belBy))
      intro X21 hX21
      have sX21 := hX21.size
      refine (below_any 20 _ _ _ _ _ (by omega) (by omega) (show Cur _ _ _ _ _ from ⟨_, _, Blk.past hX21 cu_20, cu_i0, cu_i1⟩) ⟨cells_below bc_20 hX21 (by omega), bc_s.out, bc_l.out⟩).mono ?_
      clear cu_i0 cu_i1
      rintro e w21 ⟨x, rfl, x0, x1, ⟨i_21, h_21, cu_21, cu_i0, cu_i1⟩, hY21⟩
      have s21 := hY21.size
      have b_21 := below0_touch hY21 (b_20.trans (hX21.mono (by omega)))
      have T_21 := (T_20.trans (Touch.of_below hX21)).trans hY21
      have bc_21 := cells_touch hY21 (cells_below bc_20 hX21 (by omega)) (by omega) (by first | (simp; done) | (simp; omega))
      have r_21 := Blk.touch hY21 (Blk.past hX21 r_20) (by first | (simp; done) | (simp; omega))
      clear T_20 bc_20 cu_20 r_20 b_20 cell_cu froz_cu lt_cu cell_r froz_r lt_r hX21 hY21
      have cell_cu := cu_21.cell
      have froz_cu := cu_21.frozen
      have lt_cu := cu_21.lt
      have cell_r := r_21.cell
      have froz_r := r_21.frozen
      have lt_r := r_21.lt
      have HX := hid (show 0 ≤ x ∧ x ≤ 79 by omega)
      go_wp2_with fail
      ((try simp only [Exit.inBlock, Exit.then]); apply bodyPost_ret0; focus ((try simp only [results, Try.results52]); (try go_simp); (try rfl)))
      refine ⟨⟨1, x, 0⟩, gate1_ok HX.out, rfl, ?_, ?_⟩
      · exact Cur.touch (L := [w.heap.size]) ⟨_, _, cu_21, cu_i0, cu_i1⟩ (by exact tchBy) (by simp; omega)
      · exact T_21.trans_new (M := [w.heap.size]) (by exact tchBy) (by simp)
  · have hmp : 1 ≤ (m : Int) := by omega
    have hm1 : ((m : Int) == 0) = false := by simp; omega
    rcases h7 with rfl | rfl | rfl | rfl | rfl | rfl | rfl
    · skip
      have b_20 := (Below.refl 0 w1)
      have s_20 := b_20.size
      have T_20 := T_1
      have bc_20 := bc_1
      clear bc_1
      have cu_20 := cu_1
      clear cu_1
      have cu_lt := cu_20.lt
      have cell_cu := cu_20.cell
      have froz_cu := cu_20.frozen
      have lt_cu := cu_20.lt
      have r_20 := r_1
      clear r_1
      have r_lt := r_20.lt
      have cell_r := r_20.cell
      have froz_r := r_20.frozen
      have lt_r := r_20.lt
      go_wp2_with fail
      refine calls_forget0 (W := w1) ?_ ?_
      (focus (exact belBy))
      intro X21 hX21
      have sX21 := hX21.size
      refine (below_any 20 _ _ _ _ _ (by omega) (by omega) (show Cur _ _ _ _ _ from ⟨_, _, Blk.past hX21 cu_20, cu_i0, cu_i1⟩) ⟨cells_below bc_20 hX21 (by omega), bc_s.out, bc_l.out⟩).mono ?_
      clear cu_i0 cu_i1
      rintro e w21 ⟨x, rfl, x0, x1, ⟨i_21, h_21, cu_21, cu_i0, cu_i1⟩, hY21⟩
      have s21 := hY21.size
      have b_21 := below0_touch hY21 (b_20.trans (hX21.mono (by omega)))
      have T_21 := (T_20.trans (Touch.of_below hX21)).trans hY21
      have bc_21 := cells_touch hY21 (cells_below bc_20 hX21 (by omega)) (by omega) (by first | (simp; done) | (simp; omega))
      have r_21 := Blk.touch hY21 (Blk.past hX21 r_20) (by first | (simp; done) | (simp; omega))
      clear T_20 bc_20 cu_20 r_20 b_20 cell_cu froz_cu lt_cu cell_r froz_r lt_r hX21 hY21
      have cell_cu := cu_21.cell
      have froz_cu := cu_21.frozen
      have lt_cu := cu_21.lt
      have cell_r := r_21.cell
      have froz_r := r_21.frozen
      have lt_r := r_21.lt
      have HX := hid (show 0 ≤ x ∧ x ≤ 79 by omega)
      go_wp2_with fail
      ((try simp only [Exit.inBlock, Exit.then]); apply bodyPost_ret0; focus ((try simp only [results, Try.results52]); (try go_simp); (try rfl)))
      refine ⟨⟨1, x, 0⟩, gate1_ok HX.out, rfl, ?_, ?_⟩
      · exact Cur.touch (L := [w.heap.size]) ⟨_, _, cu_21, cu_i0, cu_i1⟩ (by exact tchBy) (by simp; omega)
      · exact T_21.trans_new (M := [w.heap.size]) (by exact tchBy) (by simp)
    · skip
      have b_20 := (Below.refl 0 w1)
      have s_20 := b_20.size
      have T_20 := T_1
      have bc_20 := bc_1
      clear bc_1
      have cu_20 := cu_1
      clear cu_1
      have cu_lt := cu_20.lt
      have cell_cu := cu_20.cell
      have froz_cu := cu_20.frozen
      have lt_cu := cu_20.lt
      have r_20 := r_1
      clear r_1
      have r_lt := r_20.lt
      have cell_r := r_20.cell
      have froz_r := r_20.frozen
      have lt_r := r_20.lt
      go_wp2_with fail
      refine calls_forget0 (W := w1) ?_ ?_
      (focus (exact belBy))
      intro X21 hX21
      have sX21 := hX21.size
      refine (below_any 2 _ _ _ _ _ (by omega) (by omega) (show Cur _ _ _ _ _ from ⟨_, _, Blk.past hX21 cu_20, cu_i0, cu_i1⟩) ⟨cells_below bc_20 hX21 (by omega), bc_s.out, bc_l.out⟩).mono ?_
      clear cu_i0 cu_i1
      rintro e w21 ⟨x, rfl, x0, x1, ⟨i_21, h_21, cu_21, cu_i0, cu_i1⟩, hY21⟩
      have s21 := hY21.size
      have b_21 := below0_touch hY21 (b_20.trans (hX21.mono (by omega)))
      have T_21 := (T_20.trans (Touch.of_below hX21)).trans hY21
      have bc_21 := cells_touch hY21 (cells_below bc_20 hX21 (by omega)) (by omega) (by first | (simp; done) | (simp; omega))
      have r_21 := Blk.touch hY21 (Blk.past hX21 r_20) (by first | (simp; done) | (simp; omega))
      clear T_20 bc_20 cu_20 r_20 b_20 cell_cu froz_cu lt_cu cell_r froz_r lt_r hX21 hY21
      have cell_cu := cu_21.cell
      have froz_cu := cu_21.frozen
      have lt_cu := cu_21.lt
      have cell_r := r_21.cell
      have froz_r := r_21.frozen
      have lt_r := r_21.lt
      have HX := hid (show 0 ≤ x ∧ x ≤ 1 by omega)
      go_wp2_with fail
      ((try simp only [Exit.inBlock, Exit.then]); apply bodyPost_ret0; focus ((try simp only [results, Try.results52]); (try go_simp); (try rfl)))
      refine ⟨⟨2, x, 0⟩, gate2_ok HX.out, rfl, ?_, ?_⟩
      · exact Cur.touch (L := [w.heap.size]) ⟨_, _, cu_21, cu_i0, cu_i1⟩ (by exact tchBy) (by simp; omega)
      · exact T_21.trans_new (M := [w.heap.size]) (by exact tchBy) (by simp)
    · skip
      have b_20 := (Below.refl 0 w1)
      have s_20 := b_20.size
      have T_20 := T_1
      have bc_20 := bc_1
      clear bc_1
      have cu_20 := cu_1
      clear cu_1
      have cu_lt := cu_20.lt
      have cell_cu := cu_20.cell
      have froz_cu := cu_20.frozen
      have lt_cu := cu_20.lt
      have r_20 := r_1
      clear r_1
      have r_lt := r_20.lt
      have cell_r := r_20.cell
      have froz_r := r_20.frozen
      have lt_r := r_20.lt
      go_wp2_with fail
      refine calls_forget0 (W := w1) ?_ ?_
      (focus (exact belBy))
      intro X21 hX21
      have sX21 := hX21.size
      refine (below_any (m : Int) _ _ _ _ _ (by omega) (by omega) (show Cur _ _ _ _ _ from ⟨_, _, Blk.past hX21 cu_20, cu_i0, cu_i1⟩) ⟨cells_below bc_20 hX21 (by omega), bc_s.out, bc_l.out⟩).mono ?_
      clear cu_i0 cu_i1
      rintro e w21 ⟨x, rfl, x0, x1, ⟨i_21, h_21, cu_21, cu_i0, cu_i1⟩, hY21⟩
      have s21 := hY21.size
      have b_21 := below0_touch hY21 (b_20.trans (hX21.mono (by omega)))
      have T_21 := (T_20.trans (Touch.of_below hX21)).trans hY21
      have bc_21 := cells_touch hY21 (cells_below bc_20 hX21 (by omega)) (by omega) (by first | (simp; done) | (simp; omega))
      have r_21 := Blk.touch hY21 (Blk.past hX21 r_20) (by first | (simp; done) | (simp; omega))
      clear T_20 bc_20 cu_20 r_20 b_20 cell_cu froz_cu lt_cu cell_r froz_r lt_r hX21 hY21
      have cell_cu := cu_21.cell
      have froz_cu := cu_21.frozen
      have lt_cu := cu_21.lt
      have cell_r := r_21.cell
      have froz_r := r_21.frozen
      have lt_r := r_21.lt
      go_wp2_with fail
      refine calls_forget0 (W := w21) ?_ ?_
      (focus (exact belBy))
      intro X22 hX22
      have sX22 := hX22.size
      refine (below_any (m : Int) _ _ _ _ _ (by omega) (by omega) (show Cur _ _ _ _ _ from ⟨_, _, Blk.past hX22 cu_21, cu_i0, cu_i1⟩) ⟨cells_below bc_21 hX22 (by omega), bc_s.out, bc_l.out⟩).mono ?_
      clear cu_i0 cu_i1
      rintro e w22 ⟨y, rfl, y0, y1, ⟨i_22, h_22, cu_22, cu_i0, cu_i1⟩, hY22⟩
      have s22 := hY22.size
      have b_22 := below0_touch hY22 (b_21.trans (hX22.mono (by omega)))
      have T_22 := (T_21.trans (Touch.of_below hX22)).trans hY22
      have bc_22 := cells_touch hY22 (cells_below bc_21 hX22 (by omega)) (by omega) (by first | (simp; done) | (simp; omega))
      have r_22 := Blk.touch hY22 (Blk.past hX22 r_21) (by first | (simp; done) | (simp; omega))
      clear T_21 bc_21 cu_21 r_21 b_21 cell_cu froz_cu lt_cu cell_r froz_r lt_r hX22 hY22
      have cell_cu := cu_22.cell
      have froz_cu := cu_22.frozen
      have lt_cu := cu_22.lt
      have cell_r := r_22.cell
      have froz_r := r_22.frozen
      have lt_r := r_22.lt
      have HX := hid (show (0 ≤ x ∧ x ≤ (m : Int) - 1) ∧ 0 ≤ y ∧ y ≤ (m : Int) - 1 by omega)
      go_wp2_with fail
      ((try simp only [Exit.inBlock, Exit.then]); apply bodyPost_ret0; focus ((try simp only [results, Try.results52]); (try go_simp); (try rfl)))
      refine ⟨⟨3, x, y⟩, gate34_ok (by omega) HX.out.1 HX.out.2, rfl, ?_, ?_⟩
      · exact Cur.touch (L := [w.heap.size]) ⟨_, _, cu_22, cu_i0, cu_i1⟩ (by exact tchBy) (by simp; omega)
      · exact T_22.trans_new (M := [w.heap.size]) (by exact tchBy) (by simp)
    · skip
      have b_20 := (Below.refl 0 w1)
      have s_20 := b_20.size
      have T_20 := T_1
      have bc_20 := bc_1
      clear bc_1
      have cu_20 := cu_1
      clear cu_1
      have cu_lt := cu_20.lt
      have cell_cu := cu_20.cell
      have froz_cu := cu_20.frozen
      have lt_cu := cu_20.lt
      have r_20 := r_1
      clear r_1
      have r_lt := r_20.lt
      have cell_r := r_20.cell
      have froz_r := r_20.frozen
      have lt_r := r_20.lt
      go_wp2_with fail
      refine calls_forget0 (W := w1) ?_ ?_
      (focus (exact belBy))
      intro X21 hX21
      have sX21 := hX21.size
      refine (below_any (m : Int) _ _ _ _ _ (by omega) (by omega) (show Cur _ _ _ _ _ from ⟨_, _, Blk.past hX21 cu_20, cu_i0, cu_i1⟩) ⟨cells_below bc_20 hX21 (by omega), bc_s.out, bc_l.out⟩).mono ?_
      clear cu_i0 cu_i1
      rintro e w21 ⟨x, rfl, x0, x1, ⟨i_21, h_21, cu_21, cu_i0, cu_i1⟩, hY21⟩
      have s21 := hY21.size
      have b_21 := below0_touch hY21 (b_20.trans (hX21.mono (by omega)))
      have T_21 := (T_20.trans (Touch.of_below hX21)).trans hY21
      have bc_21 := cells_touch hY21 (cells_below bc_20 hX21 (by omega)) (by omega) (by first | (simp; done) | (simp; omega))
      have r_21 := Blk.touch hY21 (Blk.past hX21 r_20) (by first | (simp; done) | (simp; omega))
      clear T_20 bc_20 cu_20 r_20 b_20 cell_cu froz_cu lt_cu cell_r froz_r lt_r hX21 hY21
      have cell_cu := cu_21.cell
      have froz_cu := cu_21.frozen
      have lt_cu := cu_21.lt
      have cell_r := r_21.cell
      have froz_r := r_21.frozen
      have lt_r := r_21.lt
      go_wp2_with fail
      refine calls_forget0 (W := w21) ?_ ?_
      (focus (exact belBy))
      intro X22 hX22
      have sX22 := hX22.size
      refine (below_any (m : Int) _ _ _ _ _ (by omega) (by omega) (show Cur _ _ _ _ _ from ⟨_, _, Blk.past hX22 cu_21, cu_i0, cu_i1⟩) ⟨cells_below bc_21 hX22 (by omega), bc_s.out, bc_l.out⟩).mono ?_
      clear cu_i0 cu_i1
      rintro e w22 ⟨y, rfl, y0, y1, ⟨i_22, h_22, cu_22, cu_i0, cu_i1⟩, hY22⟩
      have s22 := hY22.size
      have b_22 := below0_touch hY22 (b_21.trans (hX22.mono (by omega)))
      have T_22 := (T_21.trans (Touch.of_below hX22)).trans hY22
      have bc_22 := cells_touch hY22 (cells_below bc_21 hX22 (by omega)) (by omega) (by first | (simp; done) | (simp; omega))
      have r_22 := Blk.touch hY22 (Blk.past hX22 r_21) (by first | (simp; done) | (simp; omega))
      clear T_21 bc_21 cu_21 r_21 b_21 cell_cu froz_cu lt_cu cell_r froz_r lt_r hX22 hY22
      have cell_cu := cu_22.cell
      have froz_cu := cu_22.frozen
      have lt_cu := cu_22.lt
      have cell_r := r_22.cell
      have froz_r := r_22.frozen
      have lt_r := r_22.lt
      have HX := hid (show (0 ≤ x ∧ x ≤ (m : Int) - 1) ∧ 0 ≤ y ∧ y ≤ (m : Int) - 1 by omega)
      go_wp2_with fail
      ((try simp only [Exit.inBlock, Exit.then]); apply bodyPost_ret0; focus ((try simp only [results, Try.results52]); (try go_simp); (try rfl)))
      refine ⟨⟨4, x, y⟩, gate34_ok (by omega) HX.out.1 HX.out.2, rfl, ?_, ?_⟩
      · exact Cur.touch (L := [w.heap.size]) ⟨_, _, cu_22, cu_i0, cu_i1⟩ (by exact tchBy) (by simp; omega)
      · exact T_22.trans_new (M := [w.heap.size]) (by exact tchBy) (by simp)
    · skip
      have b_20 := (Below.refl 0 w1)
      have s_20 := b_20.size
      have T_20 := T_1
      have bc_20 := bc_1
      clear bc_1
      have cu_20 := cu_1
      clear cu_1
      have cu_lt := cu_20.lt
      have cell_cu := cu_20.cell
      have froz_cu := cu_20.frozen
      have lt_cu := cu_20.lt
      have r_20 := r_1
      clear r_1
      have r_lt := r_20.lt
      have cell_r := r_20.cell
      have froz_r := r_20.frozen
      have lt_r := r_20.lt
      go_wp2_with fail
      refine calls_forget0 (W := w1) ?_ ?_
      (focus (exact belBy))
      intro X21 hX21
      have sX21 := hX21.size
      refine (below_any (m : Int) _ _ _ _ _ (by omega) (by omega) (show Cur _ _ _ _ _ from ⟨_, _, Blk.past hX21 cu_20, cu_i0, cu_i1⟩) ⟨cells_below bc_20 hX21 (by omega), bc_s.out, bc_l.out⟩).mono ?_
      clear cu_i0 cu_i1
      rintro e w21 ⟨x, rfl, x0, x1, ⟨i_21, h_21, cu_21, cu_i0, cu_i1⟩, hY21⟩
      have s21 := hY21.size
      have b_21 := below0_touch hY21 (b_20.trans (hX21.mono (by omega)))
      have T_21 := (T_20.trans (Touch.of_below hX21)).trans hY21
      have bc_21 := cells_touch hY21 (cells_below bc_20 hX21 (by omega)) (by omega) (by first | (simp; done) | (simp; omega))
      have r_21 := Blk.touch hY21 (Blk.past hX21 r_20) (by first | (simp; done) | (simp; omega))
      clear T_20 bc_20 cu_20 r_20 b_20 cell_cu froz_cu lt_cu cell_r froz_r lt_r hX21 hY21
      have cell_cu := cu_21.cell
      have froz_cu := cu_21.frozen
      have lt_cu := cu_21.lt
      have cell_r := r_21.cell
      have froz_r := r_21.frozen
      have lt_r := r_21.lt
      have HX := hid (show 0 ≤ x ∧ x ≤ (m : Int) - 1 by omega)
      go_wp2_with fail
      ((try simp only [Exit.inBlock, Exit.then]); apply bodyPost_ret0; focus ((try simp only [results, Try.results52]); (try go_simp); (try rfl)))
      refine ⟨⟨5, x, 0⟩, gate5_ok HX.out, rfl, ?_, ?_⟩
      · exact Cur.touch (L := [w.heap.size]) ⟨_, _, cu_21, cu_i0, cu_i1⟩ (by exact tchBy) (by simp; omega)
      · exact T_21.trans_new (M := [w.heap.size]) (by exact tchBy) (by simp)
    · skip
      have b_20 := (Below.refl 0 w1)
      have s_20 := b_20.size
      have T_20 := T_1
      have bc_20 := bc_1
      clear bc_1
      have cu_20 := cu_1
      clear cu_1
      have cu_lt := cu_20.lt
      have cell_cu := cu_20.cell
      have froz_cu := cu_20.frozen
      have lt_cu := cu_20.lt
      have r_20 := r_1
      clear r_1
      have r_lt := r_20.lt
      have cell_r := r_20.cell
      have froz_r := r_20.frozen
      have lt_r := r_20.lt
      go_wp2_with fail
      refine calls_forget0 (W := w1) ?_ ?_
      (focus (exact belBy))
      intro X21 hX21
      have sX21 := hX21.size
      refine (below_any 20 _ _ _ _ _ (by omega) (by omega) (show Cur _ _ _ _ _ from ⟨_, _, Blk.past hX21 cu_20, cu_i0, cu_i1⟩) ⟨cells_below bc_20 hX21 (by omega), bc_s.out, bc_l.out⟩).mono ?_
      clear cu_i0 cu_i1
      rintro e w21 ⟨x, rfl, x0, x1, ⟨i_21, h_21, cu_21, cu_i0, cu_i1⟩, hY21⟩
      have s21 := hY21.size
      have b_21 := below0_touch hY21 (b_20.trans (hX21.mono (by omega)))
      have T_21 := (T_20.trans (Touch.of_below hX21)).trans hY21
      have bc_21 := cells_touch hY21 (cells_below bc_20 hX21 (by omega)) (by omega) (by first | (simp; done) | (simp; omega))
      have r_21 := Blk.touch hY21 (Blk.past hX21 r_20) (by first | (simp; done) | (simp; omega))
      clear T_20 bc_20 cu_20 r_20 b_20 cell_cu froz_cu lt_cu cell_r froz_r lt_r hX21 hY21
      have cell_cu := cu_21.cell
      have froz_cu := cu_21.frozen
      have lt_cu := cu_21.lt
      have cell_r := r_21.cell
      have froz_r := r_21.frozen
      have lt_r := r_21.lt
      have HX := hid (show 0 ≤ x ∧ x ≤ 79 by omega)
      go_wp2_with fail
      ((try simp only [Exit.inBlock, Exit.then]); apply bodyPost_ret0; focus ((try simp only [results, Try.results52]); (try go_simp); (try rfl)))
      refine ⟨⟨1, x, 0⟩, gate1_ok HX.out, rfl, ?_, ?_⟩
      · exact Cur.touch (L := [w.heap.size]) ⟨_, _, cu_21, cu_i0, cu_i1⟩ (by exact tchBy) (by simp; omega)
      · exact T_21.trans_new (M := [w.heap.size]) (by exact tchBy) (by simp)
    · skip
      have b_20 := (Below.refl 0 w1)
      have s_20 := b_20.size
      have T_20 := T_1
      have bc_20 := bc_1
      clear bc_1
      have cu_20 := cu_1
      clear cu_1
      have cu_lt := cu_20.lt
      have cell_cu := cu_20.cell
      have froz_cu := cu_20.frozen
      have lt_cu := cu_20.lt
      have r_20 := r_1
      clear r_1
      have r_lt := r_20.lt
      have cell_r := r_20.cell
      have froz_r := r_20.frozen
      have lt_r := r_20.lt
      go_wp2_with fail
      refine calls_forget0 (W := w1) ?_ ?_
      (focus (exact belBy))
      intro X21 hX21
      have sX21 := hX21.size
      refine (below_any (m : Int) _ _ _ _ _ (by omega) (by omega) (show Cur _ _ _ _ _ from ⟨_, _, Blk.past hX21 cu_20, cu_i0, cu_i1⟩) ⟨cells_below bc_20 hX21 (by omega), bc_s.out, bc_l.out⟩).mono ?_
      clear cu_i0 cu_i1
      rintro e w21 ⟨x, rfl, x0, x1, ⟨i_21, h_21, cu_21, cu_i0, cu_i1⟩, hY21⟩
      have s21 := hY21.size
      have b_21 := below0_touch hY21 (b_20.trans (hX21.mono (by omega)))
      have T_21 := (T_20.trans (Touch.of_below hX21)).trans hY21
      have bc_21 := cells_touch hY21 (cells_below bc_20 hX21 (by omega)) (by omega) (by first | (simp; done) | (simp; omega))
      have r_21 := Blk.touch hY21 (Blk.past hX21 r_20) (by first | (simp; done) | (simp; omega))
      clear T_20 bc_20 cu_20 r_20 b_20 cell_cu froz_cu lt_cu cell_r froz_r lt_r hX21 hY21
      have cell_cu := cu_21.cell
      have froz_cu := cu_21.frozen
      have lt_cu := cu_21.lt
      have cell_r := r_21.cell
      have froz_r := r_21.frozen
      have lt_r := r_21.lt
      go_wp2_with fail
      refine calls_forget0 (W := w21) ?_ ?_
      (focus (exact belBy))
      intro X22 hX22
      have sX22 := hX22.size
      refine (below_any (m : Int) _ _ _ _ _ (by omega) (by omega) (show Cur _ _ _ _ _ from ⟨_, _, Blk.past hX22 cu_21, cu_i0, cu_i1⟩) ⟨cells_below bc_21 hX22 (by omega), bc_s.out, bc_l.out⟩).mono ?_
      clear cu_i0 cu_i1
      rintro e w22 ⟨y, rfl, y0, y1, ⟨i_22, h_22, cu_22, cu_i0, cu_i1⟩, hY22⟩
      have s22 := hY22.size
      have b_22 := below0_touch hY22 (b_21.trans (hX22.mono (by omega)))
      have T_22 := (T_21.trans (Touch.of_below hX22)).trans hY22
      have bc_22 := cells_touch hY22 (cells_below bc_21 hX22 (by omega)) (by omega) (by first | (simp; done) | (simp; omega))
      have r_22 := Blk.touch hY22 (Blk.past hX22 r_21) (by first | (simp; done) | (simp; omega))
      clear T_21 bc_21 cu_21 r_21 b_21 cell_cu froz_cu lt_cu cell_r froz_r lt_r hX22 hY22
      have cell_cu := cu_22.cell
      have froz_cu := cu_22.frozen
      have lt_cu := cu_22.lt
      have cell_r := r_22.cell
      have froz_r := r_22.frozen
      have lt_r := r_22.lt
      have HX := hid (show (0 ≤ x ∧ x ≤ (m : Int) - 1) ∧ 0 ≤ y ∧ y ≤ (m : Int) - 1 by omega)
      go_wp2_with fail
      ((try simp only [Exit.inBlock, Exit.then]); apply bodyPost_ret0; focus ((try simp only [results, Try.results52]); (try go_simp); (try rfl)))
      refine ⟨⟨4, x, y⟩, gate34_ok (by omega) HX.out.1 HX.out.2, rfl, ?_, ?_⟩
      · exact Cur.touch (L := [w.heap.size]) ⟨_, _, cu_22, cu_i0, cu_i1⟩ (by exact tchBy) (by simp; omega)
      · exact T_22.trans_new (M := [w.heap.size]) (by exact tchBy) (by simp)
end Go.Proofs.Ytihbaieiempjeaa
/- The reference's drawn circuits: valid ones. -/
namespace Go.Proofs.Ytihbaieiempjeaa
open Go.RowKit

/- In this text: blkcBy2. -/
/-- An operation that stands under no guard. -/
theorem step_wanted {w : World} {ops : Array Oper} {o : Oper} {a : Act} {K : Act → World → Prop} {Q : Exit → Act → World → Prop} {E : Prop} (hgd : o.guard = none) (h : Oper.wp Try.prog o a w K Q) : if Region.wanted o (yielded ops a.tmps) = true then Oper.wp Try.prog o a w K Q else E := by
  have hw : Region.wanted o (yielded ops a.tmps) = true := by simp [Region.wanted, hgd]
  rw [if_pos hw]
  exact h
structure CirI (w : World) (p n c : Nat) (A : Option Addr) (gs : List Gt) (os : List Int) (G : Option Addr) (cg : Nat) (O : Option Addr) (co : Nat) (wr : World) : Prop where
  r : Blk wr w.heap.size TS #[.slice none 0 0, .slice none 0 0]
  x : Blk wr (w.heap.size + 1) TS #[.slice G gs.length cg, .slice O os.length co]
  g : wr.ownsRow w.heap.size TG 3 (.slice G gs.length cg) gs.length (ints (flatG gs))
  o : wr.ownsRow w.heap.size 3 1 (.slice O os.length co) os.length (ints os)
  cu : Cur wr p A n c
  t : Touch [p] w wr
section
variable {w : World} {p n c : Nat} {A : Option Addr} {gs : List Gt} {os : List Int} {G : Option Addr} {cg : Nat} {O : Option Addr} {co : Nat} {wr X Y Z w5 : World}
/-- The cursor is drawn from: all else stands. -/
theorem CirI.draw (h : CirI w p n c A gs os G cg O co wr) (hp : p < w.heap.size) (hT : Touch [p] wr X) (hc : Cur X p A n c) : CirI w p n c A gs os G cg O co X :=
  ⟨Blk.touch hT h.r (by simp; omega), Blk.touch hT h.x (by simp; omega), own_touch' hT h.g (fun q hq => by have := (own_in h.g q hq).1; simp; omega), own_touch' hT h.o (fun q hq => by have := (own_in h.o q hq).1; simp; omega), hc, h.t.trans hT⟩
theorem CirI.below (h : CirI w p n c A gs os G cg O co wr) (hb : Below wr.heap.size wr X) : CirI w p n c A gs os G cg O co X :=
  ⟨h.r.past hb, h.x.past hb, own_below h.g hb, own_below h.o hb, h.cu.below hb, h.t.trans (Touch.of_below hb)⟩
theorem Cur.set_far {q i : Nat} {u : Value} (h : Cur X p A n c) (hq : p ≠ q) : Cur (X.setCell ⟨q, i, none⟩ u) p A n c :=
  h.touch (L := [q]) ((Touch.refl _ _).set_ _ _ (by simp)) (by simp [hq])
theorem CirI.gate {g : Gt} {A' : Option Addr} {k' : Nat} (h : CirI w p n c A gs os G cg O co wr) (hp : p < w.heap.size) (hX : Below wr.heap.size wr X) (h1 : w5.ownsRow w.heap.size TG 3 (.slice A' (gs.length + 1) k') (gs.length + 1) (ints (flatG gs) ++ ints (threeG g)))
    (h2 : X.grownBy w5 (Value.slice G gs.length cg).ownBlock) :
    CirI w p n c A (gs ++ [g]) os A' k' O co (w5.setCell ⟨w.heap.size + 1, 0, none⟩ (.slice A' (gs.length + 1) k')) := by
  have hl : (gs ++ [g]).length = gs.length + 1 := by simp
  have h2 := below_grown hX h2
  have hz := h.t.size
  have hlo : ∀ q, (Value.slice G gs.length cg).ownBlock = some q → w.heap.size ≤ q := fun q hq => (own_in h.g q hq).1
  have r5 := gr_blk h2 h.r (own_ne_obj h.g h.r (by decide))
  have x5 := gr_blk h2 h.x (own_ne_obj h.g h.x (by decide))
  have o5 := gr_own h2 h.o (fun q p hq hp => own_ne h.g h.o (by decide) q p hq hp)
  have c5 := h.cu.grown h2 (fun q hq => by have := hlo q hq; omega)
  have t5 := h.t.grown h2 hlo
  have ts : Touch [w.heap.size + 1] w5 (w5.setCell ⟨w.heap.size + 1, 0, none⟩ (.slice A' (gs.length + 1) k')) := (Touch.refl _ _).set_ _ _ (by simp)
  have hm : ∀ q, q ≠ w.heap.size + 1 → q ∉ [w.heap.size + 1] := fun q hq => by simp [hq]
  refine ⟨Blk.touch ts r5 (hm _ (by omega)), ?_, ?_, own_touch' ts o5 (fun q hq => hm q (own_ne_obj o5 x5 (by decide) q hq)), c5.set_far (by omega), t5.trans_new ts (by simp)⟩
  · rw [hl]
    exact x5.set_ 0 _
  · rw [hl, flatG_snoc, ints_app]
    exact own_touch' ts h1 (fun q hq => hm q (own_ne_obj h1 x5 (by decide) q hq))
theorem CirI.out {v : Int} {A' : Option Addr} {k' : Nat} (h : CirI w p n c A gs os G cg O co wr) (hp : p < w.heap.size) (hX : Below wr.heap.size wr X) (h1 : w5.ownsRow w.heap.size 3 1 (.slice A' (os.length + 1) k') (os.length + 1) (ints (os ++ [v])))
    (h2 : X.grownBy w5 (Value.slice O os.length co).ownBlock) :
    CirI w p n c A gs (os ++ [v]) G cg A' k' (w5.setCell ⟨w.heap.size + 1, 1, none⟩ (.slice A' (os.length + 1) k')) := by
  have hl : (os ++ [v]).length = os.length + 1 := by simp
  have h2 := below_grown hX h2
  have hz := h.t.size
  have hlo : ∀ q, (Value.slice O os.length co).ownBlock = some q → w.heap.size ≤ q := fun q hq => (own_in h.o q hq).1
  have r5 := gr_blk h2 h.r (own_ne_obj h.o h.r (by decide))
  have x5 := gr_blk h2 h.x (own_ne_obj h.o h.x (by decide))
  have g5 := gr_own h2 h.g (fun q p hq hp => own_ne h.o h.g (by decide) q p hq hp)
  have c5 := h.cu.grown h2 (fun q hq => by have := hlo q hq; omega)
  have t5 := h.t.grown h2 hlo
  have ts : Touch [w.heap.size + 1] w5 (w5.setCell ⟨w.heap.size + 1, 1, none⟩ (.slice A' (os.length + 1) k')) := (Touch.refl _ _).set_ _ _ (by simp)
  have hm : ∀ q, q ≠ w.heap.size + 1 → q ∉ [w.heap.size + 1] := fun q hq => by simp [hq]
  refine ⟨Blk.touch ts r5 (hm _ (by omega)), ?_, own_touch' ts g5 (fun q hq => hm q (own_ne_obj g5 x5 (by decide) q hq)), ?_, c5.set_far (by omega), t5.trans_new ts (by simp)⟩
  · rw [hl]
    exact x5.set_ 1 _
  · rw [hl]
    exact own_touch' ts h1 (fun q hq => hm q (own_ne_obj h1 x5 (by decide) q hq))
end
theorem outs_snoc {n : Nat} {os : List Int} {x : Int} (h : outsB n os = true) (h0 : 0 ≤ x) (h1 : x < n) : outsB n (os ++ [x]) = true := by
  unfold outsB at *
  rw [List.all_append, h]
  simp only [List.all_cons, List.all_nil, Bool.and_true, Bool.true_and]
  exact inB_iff.2 (by omega)
set_option linter.unusedVariables false in
set_option maxRecDepth 100000 in
set_option maxHeartbeats 3200000 in
theorem circuit_is (p : Nat) (A : Option Addr) (c : Nat) (bs : List Int) (w : World) (hc : Cur w p A bs.length c) (hb : Bytes w p A bs) :
    Calls Try.prog 25 #[.pointer (some ⟨p, 0, none⟩)] w fun e w' => ∃ (gs : List Gt) (os : List Int) (G : Option Addr) (cg : Nat) (O : Option Addr) (co : Nat), (circB gs os = true ∧ gs.length ≤ 24 ∧ os.length ≤ 5) ∧ e = .returned (.agg #[.slice G gs.length cg, .slice O os.length co]) ∧
      w'.ownsRow w.heap.size TG 3 (.slice G gs.length cg) gs.length (ints (flatG gs)) ∧ w'.ownsRow w.heap.size 3 1 (.slice O os.length co) os.length (ints os) ∧ Cur w' p A bs.length c ∧ Touch [p] w w' := by
  have HB := hid hb
  have HC := hid hc
  have hp := hc.lt
  clear hb hc
  go_enter Try.func25, Try.ntmps25
  have b_0 := (Below.refl w.heap.size w)
  have s_0 := b_0.size
  go_upto_region 2 with fail
  refine wp_forget2 (w0 := w) (B := w.heap.size) (b0 := w.heap.size) (t0 := 27) (c0 := #[.slice none 0 0, .slice none 0 0]) (b1 := w.heap.size + 1) (t1 := 27) (c1 := #[.slice none 0 0, .slice none 0 0]) ?_ ?_ ?_ ?_
  (focus exact blkcBy2)
  (focus exact blkcBy2)
  (focus (exact belBy))
  intro w1 r_1 x_1 hX1
  have sX1 := hX1.size
  have r_lt := r_1.lt
  have x_lt := x_1.lt
  have b_1 := b_0.trans (hX1.mono (by omega))
  clear b_0 hX1
  have cell_r := r_1.cell
  have froz_r := r_1.frozen
  have lt_r := r_1.lt
  have cell_x := x_1.cell
  have froz_x := x_1.frozen
  have lt_x := x_1.lt
  have H1 := hid (show CirI w p bs.length c A [] [] none 0 none 0 w1 from ⟨r_1, x_1, own_none, own_none, HC.out.below b_1, Touch.of_below b_1⟩)
  clear r_1 x_1 b_1 cell_r froz_r lt_r cell_x froz_x lt_x HC
  go_wp2_with fail
  refine (below_any 24 _ _ _ _ _ (by omega) (by omega) H1.out.cu (HB.out.touch H1.out.t (by omega))).mono ?_
  rintro e w2 ⟨x, rfl, hx0, hx1, hc2, hT⟩
  have H2 := hid (H1.out.draw hp hT hc2)
  have hz2 := H2.out.t.size
  obtain ⟨m, hm⟩ : ∃ m : Nat, 1 + x = (m : Int) := ⟨(1 + x).toNat, by omega⟩
  have hm24 : m ≤ 24 := by omega
  have hm1 : 1 ≤ m := by omega
  clear hc2 hT H1
  go_wp2_with fail
  try rw [hm]
  clear hm hx0 hx1
  go_loopw [5] (fun i wr => ∃ (j : Nat) (gs : List Gt) (G : Option Addr) (cg : Nat), j ≤ m ∧ i = .int .i64 (j : Int) ∧ gs.length = j ∧ gatesB 0 gs = true ∧ CirI w p bs.length c A gs [] G cg none 0 wr) (fun i _ => m - (intOf i).toNat)
  case atStart => exact ⟨0, [], none, 0, Nat.zero_le _, rfl, rfl, rfl, H2.out⟩
  case round =>
    clear H2
    obtain ⟨j, gs, G, cg, hj, rfl, hgl, hgv, hI⟩ := hrel
    have hlt0 := hI.x.lt
    by_cases hlt : j < m
    · have hlt' : (j : Int) < (m : Int) := by omega
      have hj30 : j ≤ 30 := by omega
      have hb1 : gs.length + 1 ≤ 1000000 := by omega
      have hne1 := hid (own_ne_obj hI.g hI.x (by decide))
      have HI := hid hI
      have HGL := hid hgl
      have HGV := hid hgv
      have cell_x := hI.x.cell
      have froz_x := hI.x.frozen
      have hbs := hI.t.size
      clear hI hgl hgv
      go_upto_region 6 with fail
      go_region_law (first | (refine step_wanted rfl ?_; unfold Oper.wp; go_simp; refine Calls.mono (gate_is p A c bs j _ hj30 (HI.out.cu.below (by exact belBy)) (HB.out.touch (HI.out.t.trans (Touch.of_below (by exact belBy))) (by omega))) ?_; rintro e w3 ⟨g, hg, rfl, hc3, hT3⟩; have HI3 := hid ((HI.out.below (by exact belBy)).draw hp hT3 hc3); have cell_3 := HI3.out.x.cell; have froz_3 := HI3.out.x.frozen; have lt_3 := HI3.out.x.lt; have ho3 := HI3.out.g; have hk3 := HI3.out.x; have hs3 := HI3.out.t.size; try dsimp only) | (refine step_gate_any (base := w.heap.size) (L := gs) rfl (.tmp 17) (.tmp 21) rfl (v := Value.slice G gs.length cg) rfl ?_ ?_ g rfl ?_ hb1 ?_; (focus (exact ownBy)); (focus (first | omega | (simp; omega))); (focus (exact top_cells _ [_, _, _] _)); intro g' c' w5 ho5 hg5 hl5; have kx5 := gr_blk hg5 (b := w.heap.size + 1) (t := TS) (cs := #[.slice G gs.length cg, .slice none 0 0]) (by exact blkcBy2) hne1.out; have cell_5 := kx5.cell; have froz_5 := kx5.frozen; have lt_5 := kx5.lt))
      all_goals
        have HF := hid (CirI.gate HI3.out hp (by exact belBy) ho5 hg5)
        have HG := hid hg
        clear ho5 hg5 hl5 kx5 cell_5 froz_5 lt_5 cell_3 froz_3 lt_3 ho3 hk3 hc3 hT3 hg cell_x froz_x
        go_wp2
        go_roundw
        case rel => exact ⟨j + 1, gs ++ [g], some ⟨g', 0, none⟩, c', by omega, by go_num, by rw [List.length_append, HGL.out]; rfl, gatesB_snoc HGV.out (by rw [HGL.out]; exact HG.out), HF.out⟩
        case measure => simp [intOf]; omega
    · obtain rfl : j = m := by omega
      have HI := hid hI
      have HGL := hid hgl
      have HGV := hid hgv
      clear hI hgl hgv
      go_wp2_with fail
      go_loopw [6] (fun i wr => ∃ (k : Nat) (os : List Int) (O : Option Addr) (co : Nat), k ≤ 4 ∧ i = .int .i64 (k : Int) ∧ os.length = k ∧ outsB gs.length os = true ∧ CirI w p bs.length c A gs os G cg O co wr) (fun i _ => 4 - (intOf i).toNat)
      case atStart => exact ⟨0, [], none, 0, Nat.zero_le _, rfl, rfl, rfl, HI.out⟩
      case round =>
        clear HI
        obtain ⟨k, os, O, co, hk, rfl, hol, hov, hI⟩ := hrel
        go_wp2_with fail
        refine (below_any 4 _ _ _ _ _ (by omega) (by omega) hI.cu (HB.out.touch hI.t (by omega))).mono ?_
        rintro e w2 ⟨x, rfl, hx0, hx1, hc2, hT⟩
        have hI := hI.draw hp hT hc2
        clear hc2 hT
        have hz2 := hI.t.size
        have lt_x := hI.x.lt
        have HI := hid hI
        have HOL := hid hol
        have HOV := hid hov
        have cell_x := hI.x.cell
        have froz_x := hI.x.frozen
        by_cases hlt : (k : Int) < 1 + x
        · have hb1 : os.length + 1 ≤ 1000000 := by omega
          have hne1 := hid (own_ne_obj hI.o hI.x (by decide))
          have hj0 : (1 : Int) ≤ (j : Int) := by omega
          have hj1 : (j : Int) ≤ 1000000000000 := by omega
          clear hI hol hov
          go_upto_region 10 with fail
          go_region_law (first | (refine step_wanted rfl ?_; unfold Oper.wp; go_simp; refine Calls.mono (below_any (j : Int) p A c bs _ hj0 hj1 (HI.out.cu.below (by exact belBy)) (HB.out.touch (HI.out.t.trans (Touch.of_below (by exact belBy))) (by omega))) ?_; rintro e w3 ⟨y, rfl, hy0, hy1, hc3, hT3⟩; have HI3 := hid ((HI.out.below (by exact belBy)).draw hp hT3 hc3); have cell_3 := HI3.out.x.cell; have froz_3 := HI3.out.x.frozen; have lt_3 := HI3.out.x.lt; have ho3 := HI3.out.o; have hk3 := HI3.out.x; have hs3 := HI3.out.t.size; try dsimp only) | (refine step_int_any (base := w.heap.size) (L := os) rfl (.tmp 32) (.tmp 36) rfl (v := Value.slice O os.length co) rfl ?_ ?_ [y] rfl rfl ?_ (by decide) hb1 ?_; (focus (exact ownBy)); (focus (first | omega | (simp; omega))); (focus (exact top_cells _ [_] _)); intro g' c' w5 ho5 hg5 hl5; have kx5 := gr_blk hg5 (b := w.heap.size + 1) (t := TS) (cs := #[.slice G gs.length cg, .slice O os.length co]) (by exact blkcBy2) hne1.out; have cell_5 := kx5.cell; have froz_5 := kx5.frozen; have lt_5 := kx5.lt))
          all_goals
            have HF := hid (CirI.out HI3.out hp (by exact belBy) ho5 hg5)
            have HY := hid (And.intro hy0 hy1)
            clear ho5 hg5 hl5 kx5 cell_5 froz_5 lt_5 cell_3 froz_3 lt_3 ho3 hk3 hc3 hT3 hy0 hy1 cell_x froz_x
            go_wp2
            go_roundw
            case rel => exact ⟨k + 1, os ++ [y], some ⟨g', 0, none⟩, c', by omega, by go_num, by rw [List.length_append, HOL.out]; rfl, outs_snoc HOV.out HY.out.1 (by rw [HGL.out]; exact HY.out.2), HF.out⟩
            case measure => simp [intOf]; omega
        · have cell_r := hI.r.cell
          have froz_r := hI.r.frozen
          have lt_r := hI.r.lt
          clear hI hol hov
          go_wp2
          ((try simp only [Exit.inBlock, Exit.then]); apply bodyPost_ret0; focus ((try simp only [results, Try.results25]); (try go_simp); (try rfl)))
          have hm : ∀ q, q ≠ w.heap.size → q ∉ [w.heap.size] := fun q hq => by simp [hq]
          have ht : Touch [w.heap.size] w2 (((w2.setCell ⟨w.heap.size, 0, none⟩ (.slice G gs.length cg)).setCell ⟨w.heap.size, 1, none⟩ (.slice O os.length co))) := by exact tchBy
          refine ⟨gs, os, G, cg, O, co, ⟨circ_mk (by have := HGL.out; omega) HGV.out HOV.out, by have := HGL.out; omega, by have := HOL.out; omega⟩, rfl, own_touch' ht HI.out.g (fun q hq => hm q (own_ne_obj HI.out.g HI.out.r (by decide) q hq)), own_touch' ht HI.out.o (fun q hq => hm q (own_ne_obj HI.out.o HI.out.r (by decide) q hq)), HI.out.cu.touch ht (by simp; omega), HI.out.t.trans_new ht (by simp)⟩
end Go.Proofs.Ytihbaieiempjeaa
