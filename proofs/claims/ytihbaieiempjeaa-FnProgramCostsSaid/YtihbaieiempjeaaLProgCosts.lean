import Derived.Test.YtihbaieiempjeaaBy
import Derived.Test.YtihbaieiempjeaaMem
import Derived.Test.YtihbaieiempjeaaIntS
import Derived.Deep.DeepCutAuto
import Derived.Outline
import Derived.Test.YtihbaieiempjeaaPlain
import Derived.ArgAppend
import Derived.Test.YtihbaieiempjeaaLab
import Derived.Test.YtihbaieiempjeaaStmtS
import Derived.Test.YtihbaieiempjeaaPruT
import Derived.Test.YtihbaieiempjeaaPg
import Derived.Test.YtihbaieiempjeaaLPCost
/- The reference's draws: the cursor, a byte, a number below a bound, the twelve places. Only the ranges of what is drawn are kept. -/
namespace Go.Proofs.Ytihbaieiempjeaa
open Go.RowKit

def bytesV (xs : List Int) : List Value := xs.map (Value.int .u8)
theorem bytesV_get {xs : List Int} {k : Nat} {x : Int} (h : xs[k]? = some x) : (bytesV xs)[k]? = some (.int .u8 x) := by simp [bytesV, h]
theorem and255 (a : Int) : 0 ≤ bits .and .i64 a 255 ∧ bits .and .i64 a 255 ≤ 255 := by
  have e : bits .and .i64 a 255 = IntKind.i64.wrap ((BitVec.ofInt 64 a &&& BitVec.ofInt 64 255).toNat : Int) := rfl
  have h : (BitVec.ofInt 64 a &&& BitVec.ofInt 64 255).toNat ≤ 255 := by
    rw [BitVec.toNat_and]
    have e2 : (BitVec.ofInt 64 255).toNat = 255 := by decide
    rw [e2]
    exact Nat.and_le_right
  rw [e, IntKind.wrap_i64]
  omega
/-- The cursor: the bytes, a place among them, a number. -/
def Cur (w : World) (p : Nat) (A : Option Addr) (n c : Nat) : Prop :=
  ∃ i h : Int, Blk w p 87 #[.slice A n c, .int .i64 i, .int .i64 h] ∧ 0 ≤ i ∧ i ≤ n
structure Bytes (w : World) (p : Nat) (A : Option Addr) (bs : List Int) : Prop where
  cells : Cells w p A (bytesV bs)
  small : ∀ x ∈ bs, 0 ≤ x ∧ x ≤ 255
  len : bs.length ≤ 9223372036854775807
set_option maxHeartbeats 800000 in
theorem byte_any (p : Nat) (A : Option Addr) (c : Nat) (bs : List Int) (w : World) (hc : Cur w p A bs.length c) (hb : Bytes w p A bs) :
    Calls Try.prog 85 #[.pointer (some ⟨p, 0, none⟩)] w fun e w' => ∃ r, e = .returned (.int .i64 r) ∧ 0 ≤ r ∧ r ≤ 255 ∧ Cur w' p A bs.length c ∧ Touch [p] w w' := by
  obtain ⟨i, h, k0, hi0, hi1⟩ := hc
  have c0 := k0.cell
  have f0 := k0.frozen
  have z0 := k0.lt
  have hl := hb.len
  have HB := hid hb
  clear hb
  go_enter Try.func85, Try.ntmps85
  go_wp2_with fail
  apply wp_touch1 (w0 := w) (L := [p]) (b0 := p)
  case h0 => exact blkBy
  case hb => exact tchBy
  case h =>
  intro W k1 hT
  obtain ⟨h2, k2⟩ : ∃ h2, Blk W p 87 #[.slice A bs.length c, .int .i64 i, .int .i64 h2] := ⟨_, k1⟩
  have sT := hT.size
  have c2 := k2.cell
  have f2 := k2.frozen
  have z2 := k2.lt
  clear k1 c0 f0
  go_cut [3] (fun v3 wx => ∃ x, 0 ≤ x ∧ x ≤ 255 ∧ v3 = .int .i64 x ∧ ∃ n, wx = W.drewN n)
  case first =>
    go_quiet (fail)
    go_wp2_with fail
    go_meet
    exact ⟨_, (and255 _).1, (and255 _).2, rfl, nq, rfl⟩
  case rest =>
    obtain ⟨x, hx0, hx1, rfl, nq, rfl⟩ := hcut
    obtain ⟨j, rfl⟩ := Int.eq_ofNat_of_zero_le hi0
    by_cases hlt : j < bs.length
    · obtain ⟨y, hy⟩ : ∃ y, bs[j]? = some y := ⟨_, List.getElem?_eq_getElem hlt⟩
      obtain ⟨hy0, hy1⟩ := HB.out.small y (List.mem_of_getElem? hy)
      obtain ⟨b, off, rfl, hB, hcl⟩ := HB.out.cells (by simp [bytesV]; omega)
      have hcell : W.cell? ⟨b, off + j, none⟩ = some (.int .u8 y) := hT.cell (hcl j _ (bytesV_get hy)) (by dsimp only; omega) (by simp; omega)
      have hlt' : (j : Int) < (bs.length : Int) := by omega
      clear hcl hy
      go_wp2_with fail
      go_quiet (fail)
      go_wp2_with fail
      go_quiet (fail)
      go_wp2_with fail
      go_ret
      exact ⟨_, rfl, (and255 _).1, (and255 _).2, ⟨_, h2, by exact blkcBy, by omega, by omega⟩, by exact tchBy⟩
    · go_wp2_with fail
      go_quiet (fail)
      go_wp2_with fail
      go_ret
      exact ⟨_, rfl, hx0, hx1, ⟨_, h2, by exact blkcBy, by omega, by omega⟩, by exact tchBy⟩
theorem Bytes.touch {w w' : World} {p : Nat} {A : Option Addr} {bs : List Int} (h : Bytes w p A bs) (hT : Touch [p] w w') (hp : p ≤ w.heap.size) : Bytes w' p A bs :=
  ⟨cells_touch hT h.cells hp (by simp), h.small, h.len⟩
theorem Bytes.step {w w' : World} {p : Nat} {A : Option Addr} {bs : List Int} (h : Bytes w p A bs) (hb : Below p w w') : Bytes w' p A bs := ⟨h.cells.below hb, h.small, h.len⟩
theorem Cur.lt {w : World} {p n c : Nat} {A : Option Addr} (h : Cur w p A n c) : p < w.heap.size := by
  obtain ⟨i, x, k, _, _⟩ := h
  exact k.lt
theorem tmod_lt (x n : Int) (h0 : 0 ≤ x) (hn : 1 ≤ n) : 0 ≤ x.tmod n ∧ x.tmod n < n := by
  rw [Int.tmod_eq_emod_of_nonneg h0]
  exact ⟨Int.emod_nonneg _ (by omega), Int.emod_lt_of_pos _ (by omega)⟩
theorem emod_lt (x n : Int) (hn : 1 ≤ n) : 0 ≤ x % n ∧ x % n < n := ⟨Int.emod_nonneg _ (by omega), Int.emod_lt_of_pos _ (by omega)⟩
set_option maxHeartbeats 800000 in
theorem below_any (n : Int) (p : Nat) (A : Option Addr) (c : Nat) (bs : List Int) (w : World) (hn : 1 ≤ n) (hn2 : n ≤ 1000000000000) (hc : Cur w p A bs.length c) (hb : Bytes w p A bs) :
    Calls Try.prog 46 #[.pointer (some ⟨p, 0, none⟩), .int .i64 n] w fun e w' => ∃ r, e = .returned (.int .i64 r) ∧ 0 ≤ r ∧ r < n ∧ Cur w' p A bs.length c ∧ Touch [p] w w' := by
  have HB := hid hb
  have HC := hid hc
  have hp := hc.lt
  clear hb hc
  by_cases h1 : n ≤ 256
  · go_enter Try.func46, Try.ntmps46
    go_wp2_with fail
    refine (byte_any _ _ _ _ _ HC.out HB.out).mono ?_
    rintro e w1 ⟨r, rfl, hr0, hr1, hc1, hT1⟩
    go_wp2
    go_ret
    exact ⟨_, rfl, (emod_lt _ _ hn).1, (emod_lt _ _ hn).2, hc1, hT1⟩
  · go_enter Try.func46, Try.ntmps46
    go_wp2_with fail
    refine (byte_any _ _ _ _ _ HC.out HB.out).mono ?_
    rintro e w1 ⟨r1, rfl, hr10, hr11, hc1, hT1⟩
    have hb1 := HB.out.touch hT1 (by omega)
    have z1 := hT1.size
    go_wp2_with fail
    refine (byte_any _ _ _ _ _ hc1 hb1).mono ?_
    rintro e w2 ⟨r2, rfl, hr20, hr21, hc2, hT2⟩
    have hb2 := hb1.touch hT2 (by omega)
    have z2 := hT2.size
    go_wp2_with fail
    refine (byte_any _ _ _ _ _ hc2 hb2).mono ?_
    rintro e w3 ⟨r3, rfl, hr30, hr31, hc3, hT3⟩
    have hb3 := hb2.touch hT3 (by omega)
    have z3 := hT3.size
    go_wp2_with fail
    refine (byte_any _ _ _ _ _ hc3 hb3).mono ?_
    rintro e w4 ⟨r4, rfl, hr40, hr41, hc4, hT4⟩
    have hT := ((hT1.trans hT2).trans hT3).trans hT4
    clear hT1 hT2 hT3 hT4 hc1 hc2 hc3 hb1 hb2 hb3
    go_wp2
    go_ret
    exact ⟨_, rfl, (emod_lt _ _ hn).1, (emod_lt _ _ hn).2, hc4, hT⟩
set_option maxRecDepth 100000 in
set_option maxHeartbeats 800000 in
theorem new_any (A : Option Addr) (c : Nat) (bs : List Int) (w : World) (hb : Bytes w w.heap.size A bs) :
    Calls Try.prog 24 #[.slice A bs.length c] w fun e w' => e = .returned (.pointer (some ⟨w.heap.size, 0, none⟩)) ∧ Cur w' w.heap.size A bs.length c ∧ Below w.heap.size w w' := by
  have HB := hid hb
  have hl := hb.len
  clear hb
  go_enter Try.func24, Try.ntmps24
  go_wp2
  go_loop [3, 4] (fun h i => ∃ (k : Nat) (x : Int), k ≤ bs.length ∧ i = .int .i64 k ∧ h = .int .i64 x) (fun _ i => bs.length - (intOf i).toNat)
  case atStart => exact ⟨0, _, Nat.zero_le _, rfl, rfl⟩
  case round =>
    obtain ⟨k, x, hk, rfl, rfl⟩ := hrel
    by_cases hlt : k < bs.length ∧ k < 4000
    · obtain ⟨hlt, hlt2⟩ := hlt
      have hlt3 : (k : Int) < 4000 := by omega
      clear hlt2
      obtain ⟨y, hy⟩ : ∃ y, bs[k]? = some y := ⟨_, List.getElem?_eq_getElem hlt⟩
      obtain ⟨hy0, hy1⟩ := HB.out.small y (List.mem_of_getElem? hy)
      obtain ⟨b, off, rfl, hB, hcl⟩ := HB.out.cells (by simp [bytesV]; omega)
      have hcell : w.cell? ⟨b, off + k, none⟩ = some (.int .u8 y) := hcl k _ (bytesV_get hy)
      have hk' : (k : Int) < (bs.length : Int) := by omega
      clear hcl hy
      go_wp2
      go_round
      case rel => exact ⟨k + 1, _, by omega, by go_num, rfl⟩
      case measure => simp [intOf]; omega
    · have hlt' : bs.length ≤ k ∨ 4000 ≤ k := by omega
      clear hlt
      rcases hlt' with hlt | hlt
      · obtain rfl : k = bs.length := by omega
        go_wp2
        go_ret
        exact ⟨rfl, ⟨_, _, by exact blkBy, by omega, by omega⟩, by exact belBy⟩
      · have hlt3 : (4000 : Int) ≤ (k : Int) := by omega
        clear hlt
        by_cases hx : k < bs.length
        · go_wp2
          go_ret
          exact ⟨rfl, ⟨_, _, by exact blkBy, by omega, by omega⟩, by exact belBy⟩
        · obtain rfl : k = bs.length := by omega
          go_wp2
          go_ret
          exact ⟨rfl, ⟨_, _, by exact blkBy, by omega, by omega⟩, by exact belBy⟩
theorem Cur.grown {w w' : World} {p n c : Nat} {A : Option Addr} {row : Option Nat} (h : Cur w p A n c) (hg : w.grownBy w' row) (hne : ∀ q, row = some q → q ≠ p) : Cur w' p A n c := by
  obtain ⟨i, x, k, h0, h1⟩ := h
  exact ⟨i, x, gr_blk hg k hne, h0, h1⟩
theorem Cur.below {w w' : World} {p n c : Nat} {A : Option Addr} (h : Cur w p A n c) (hb : Below w.heap.size w w') : Cur w' p A n c := by
  obtain ⟨i, x, k, h0, h1⟩ := h
  exact ⟨i, x, Blk.past hb k, h0, h1⟩
theorem Cur.alloc {w : World} {p n c : Nat} {A : Option Addr} (h : Cur w p A n c) (o : Obj) : Cur (w.alloc o) p A n c := by
  obtain ⟨i, x, k, h0, h1⟩ := h
  exact ⟨i, x, k.alloc o, h0, h1⟩
theorem mem_snoc {P : Int → Prop} {xs : List Int} {r : Int} (h : ∀ x ∈ xs, P x) (hr : P r) : ∀ x ∈ xs ++ [r], P x := by
  intro x hx
  rcases List.mem_append.1 hx with h1 | h1
  · exact h x h1
  · simp at h1; subst h1; exact hr
theorem big_any (A : Option Addr) (n c : Nat) (w : World) (_hn : n ≤ 9223372036854775807) : Calls Try.prog 6 #[.slice A n c] w fun e w' => e = .returned (.bool (decide ((1048576 : Int) < (n : Int)))) ∧ w = w' := by
  go_enter Try.func6, Try.ntmps6
  go_wp2
  go_ret
  exact ⟨rfl, rfl⟩
open Go.ChangeShapes Go.WideShapes in
theorem view_bytes {H : Type} {enc : TypeId × Value → H} {P : Program} {W : World} {r : Reach} {b0 : Nat} {t e : TypeId} {v : Value} {d : DataW H} {ps : List MemPlace}
    (ht : P.underlying t = some (.slice e)) (he : P.underlying e = some (.int .u8)) (hc : P.cellsOf e = 1) (hv : Value.okWide P W r b0 t v)
    (h : DataW.Trod enc P W 0 (fun _ => true) true t v d ps) (hlt : ∀ x ∈ ps, x.block < W.heap.size) :
    ∃ A c xs, v = .slice A (List.length xs) c ∧ Bytes W W.heap.size A xs := by
  obtain ⟨a0, len0, cap0, rfl⟩ := okWide_slice ht hv
  obtain ⟨fuel, hf⟩ := h
  have hf' : DataW.trod enc P W 0 (fun _ => true) true fuel t [.slice a0 len0 cap0] = some (d, ps) := by simpa [Value.cells] using hf
  rcases open_ints ht he hc hf' with ⟨hcs, hx⟩ | ⟨a, len, cap, zs, hcs, _, hl, hm, hz, hx, hcell, hwz⟩
  · simp at hcs
    obtain ⟨rfl, rfl, rfl⟩ := hcs
    exact ⟨none, 0, [], rfl, Cells.nil_, by simp, by simp⟩
  · simp at hcs
    obtain ⟨rfl, rfl, rfl⟩ := hcs
    simp only [if_true] at hz
    have hlen : (zs.take len0).length = len0 := by rw [List.length_take]; omega
    refine ⟨some a, cap0, zs.take len0, by rw [hlen], fun h0 => ?_, fun x hx => ?_, by rw [hlen]; unfold maxLen at hm; omega⟩
    · have hb0 : (bytesV (zs.take len0)).length = len0 := by unfold bytesV; rw [List.length_map, hlen]
      rw [hb0] at h0
      obtain ⟨b, off, spot⟩ := a
      have hspot : spot = none := by simpa [Addr.add] using World.cell?_spot (hcell 0 (by omega))
      subst hspot
      refine ⟨b, off, rfl, hlt (.cell b off) (by rw [(Prod.mk.inj hx).2]; exact MemPlace.mem_row.2 ⟨0, by omega, by simp⟩), fun i v hv => ?_⟩
      have hi : i < len0 := by
        have := (List.getElem?_eq_some_iff.1 hv).1
        omega
      have hg : (zs.take len0)[i]? = some (zs.getD i 0) := by
        rw [List.getElem?_take, if_pos hi, List.getD_eq_getElem?_getD, List.getElem?_eq_getElem (by omega)]
        rfl
      rw [bytesV_get hg] at hv
      injection hv with hv
      rw [← hv, ← add_plain]
      exact hcell i (by omega)
    · have h1 := hwz x (List.mem_of_mem_take hx)
      simp only [Lit.wf, Bool.and_eq_true, decide_eq_true_eq] at h1
      exact h1
end Go.Proofs.Ytihbaieiempjeaa
/- More of the reference's draws: a number out of a list, a word, a vault and its words. Only what the laws need of them is kept. -/
namespace Go.Proofs.Ytihbaieiempjeaa
open Go.RowKit

theorem news_of {w : World} {g : Nat} {xs : List Value} (h : ∀ i v, xs[i]? = some v → w.cell? ⟨g, i, none⟩ = some v) (hg : g < w.heap.size) (o : Obj) :
    ∀ (j : Nat) (u : Value), xs[j]? = some u → (w.alloc o).cell? ((⟨g, 0, none⟩ : Addr).add j) = some u := fun j u hu => by
  have e : (⟨g, 0, none⟩ : Addr).add j = ⟨g, j, none⟩ := by simp [Addr.add]; omega
  rw [e]
  exact cell_alloc (h j u hu) hg
theorem own_cells {w : World} {base e size n c g : Nat} {xs : List Value} (h : w.ownsRow base e size (.slice (some ⟨g, 0, none⟩) n c) n xs) (hn : 0 < n) :
    g < w.heap.size ∧ ∀ i v, xs[i]? = some v → w.cell? ⟨g, i, none⟩ = some v := by
  obtain ⟨g', e, _, h1, h2⟩ := own_at h hn
  injection e with e
  injection e with e _ _
  subst e
  exact ⟨h1, h2⟩
theorem wpList_unguard {P : Program} {w : World} {ops : Array Oper} {rest : List Oper} {o : Oper} {a : Act} {Q : Exit → Act → World → Prop} (hw : Region.wanted o (yielded ops a.tmps) = true)
    (h : wpList P ops Q ({ o with guard := none } :: rest) a w) : wpList P ops Q (o :: rest) a w := by
  unfold wpList at h ⊢
  rw [if_pos hw]
  rw [if_pos (by simp [Region.wanted])] at h
  exact h
theorem wpList_app1k {P : Program} {w : World} {ops : Array Oper} {rest : List Oper} {o : Oper} {a : Act} {Q : Exit → Act → World → Prop} (hgd : o.guard = none) (s x : Operand) (t : TypeId)
    (ho : o.op = .call { callee := .builtin .append, args := #[s, x], argTypes := #[t, t] })
    (base e : Nat) (z : Value) (bytes : Nat) (ht : P.underlying t = some (.slice e)) (hinfo : (P.info? e).map (fun i => (i.zero, i.size, i.bytes)) = some (some z, 1, bytes)) (hzs : z.cells.size = 1)
    (g n c : Nat) (xs : List Value) (hs : a.eval s = .slice (some ⟨g, 0, none⟩) n c) (hown : w.ownsRow base e 1 (.slice (some ⟨g, 0, none⟩) n c) n xs)
    (ad : Addr) (cc : Nat) (u : Value) (hx : a.eval x = .slice (some ad) 1 cc) (hnews : ∀ j v, [u][j]? = some v → w.cell? (ad.add j) = some v) (h1 : u.oneCell' = true)
    (hbound : n + 1 ≤ 1000000000) (hbytes : bytes ≤ 1000)
    (h : ∀ A c' w', Cells w' w'.heap.size A (xs ++ [u]) → Cells w' w'.heap.size (some ⟨g, 0, none⟩) xs → w.grownBy w' (some g) → wpList P ops Q rest (a.put o.dst (.slice A (n + 1) c')) w') : wpList P ops Q (o :: rest) a w := by
  obtain ⟨i, hi, hz0, hz1, hz2⟩ := info_parts hinfo
  have hmul : (n + 1) * bytes ≤ 1000000000 * 1000 := Nat.mul_le_mul hbound hbytes
  have hlen : xs.length = n := by simpa using hown.1
  rcases hown.2 with ⟨hv, _⟩ | ⟨g', cap, cur, hv, hg, hh, hn', hcap, hsz, htk⟩
  · injection hv with h2 _ _
    cases h2
  · injection hv with hA _ hcc
    injection hA with hA
    injection hA with hA _ _
    subst hA hcc
    have hlt : g < w.heap.size := by
      rcases Nat.lt_or_ge g w.heap.size with h0 | h0
      · exact h0
      · rw [Array.getElem?_eq_none h0] at hh; cases hh
    have hcell : ∀ i, w.cell? ⟨g, i, none⟩ = cur[i]? := fun i => by simp [World.cell?, hh]
    have hfr : ∀ i, w.frozen? ⟨g, i, none⟩ = false := fun i => by simp [World.frozen?, hh]
    have holds : ∀ j v, xs[j]? = some v → w.cell? ⟨g, j, none⟩ = some v := fun j v hv => by
      rw [hcell]
      subst htk
      rw [List.getElem?_take] at hv
      split at hv
      · simpa using hv
      · cases hv
    refine wpList_append_arg w hgd s x t ho e i z 1 bytes ht hi hz0 hz1 hz2 hzs (by decide) g 0 n c xs hs (by omega) (fun j v hv => by rw [Nat.zero_add]; exact holds j v hv) ad 1 cc [u] hx rfl hnews (by intro v hv; simp at hv; subst hv; exact h1)
      (fun hr j hj => ?_) (by unfold maxLen; omega) (by omega) (fun hr => ?_) (fun hr v' w' hown' hg' => ?_)
    · rw [hcell, hfr]
      refine ⟨?_, rfl⟩
      have : 0 + n * 1 + j < cur.size := by simp at hj; omega
      rw [Array.getElem?_eq_getElem this]
      rfl
    · have hb0 : (w.cell? ⟨g, 0 + n * 1, none⟩).isSome = true := by
        rw [hcell]
        have : 0 + n * 1 < cur.size := by omega
        rw [Array.getElem?_eq_getElem this]
        rfl
      have hset : w.setCells g (0 + n * 1) [u] = w.setCell ⟨g, 0 + n * 1, none⟩ u := rfl
      have hin := World.cell?_setCells_in g [u] (0 + n * 1) w (fun j hj => by simp at hj; subst hj; exact hb0) 0 (by simp)
      have hout : ∀ j v, j < n → w.cell? ⟨g, j, none⟩ = some v → (w.setCells g (0 + n * 1) [u]).cell? ⟨g, j, none⟩ = some v := fun j v hj hv => (World.cell?_setCells_out g [u] (0 + n * 1) w ⟨g, j, none⟩ (fun _ _ => .inl (by dsimp only; omega))).trans hv
      have hzz : (w.setCells g (0 + n * 1) [u]).heap.size = w.heap.size := by rw [hset]; simp
      refine h (some ⟨g, 0, none⟩) c _ (fun _ => ⟨g, 0, rfl, by omega, fun j v hv => ?_⟩) (fun _ => ⟨g, 0, rfl, by omega, fun j v hv => ?_⟩) ⟨rfl, rfl, rfl, by omega, fun k hk hne => ?_⟩
      · rw [Nat.zero_add j]
        by_cases hj : j < n
        · rw [List.getElem?_append_left (by omega)] at hv
          exact hout j v hj (holds j v hv)
        · have hj2 : j = n := by
            have := (List.getElem?_eq_some_iff.1 hv).1
            simp at this
            omega
          subst hj2
          rw [List.getElem?_append_right (by omega), hlen, Nat.sub_self] at hv
          simp at hv hin
          rw [← hv]
          simpa using hin
      · rw [Nat.zero_add j]
        have hj := (List.getElem?_eq_some_iff.1 hv).1
        exact hout j v (by omega) (holds j v hv)
      · exact Below.heap_setCell w _ u k (fun e => hne (by rw [e]))
    · obtain ⟨A, c', rfl⟩ := own_shape hown'
      refine h A c' w' (Cells.of_own hown') (fun _ => ⟨g, 0, rfl, Nat.lt_of_lt_of_le hlt hg'.size, fun j v hv => ?_⟩) ⟨hg'.os, hg'.tape, hg'.output, hg'.size, fun k hk _ => hg'.block k hk (by simp)⟩
      rw [Nat.zero_add]
      exact (World.cell?_of_block (hg'.block g hlt (by simp))).trans (holds j v hv)
theorem wp_stored {P : Program} {c : Code} {Q : Exit → Act → World → Prop} {a : Act} {w : World} {g j base e size n : Nat} {v u : Value} {xs : List Value}
    (hs : (w.setCell ⟨g, j, none⟩ u).ownsRow base e size v n xs ∧ w.grownBy (w.setCell ⟨g, j, none⟩ u) (some g))
    (h : ∀ W : World, W.ownsRow base e size v n xs → w.grownBy W (some g) → Code.wp P c Q a W) : Code.wp P c Q a (w.setCell ⟨g, j, none⟩ u) := h _ hs.1 hs.2
theorem wp_storedd {P : Program} {c : Code} {Q : Exit → Act → World → Prop} {a : Act} {w : World} {g j base e size n : Nat} {v u : Value} {xs : List Value}
    (hs : (w.setCell ⟨g, j, none⟩ u).ownsRow base e size v n xs ∧ w.grownBy (w.setCell ⟨g, j, none⟩ u) (some g))
    (h : ∀ W : World, W.ownsRow base e size v n xs → w.grownBy W (some g) → Code.wp P c Q a W) : Code.wp P c Q a (w.setCell ⟨g, j, none⟩ u).drew :=
  h _ hs.1.drew ⟨hs.2.os, hs.2.tape, hs.2.output, hs.2.size, hs.2.block⟩
theorem Cur.touch {L : List Nat} {w w' : World} {p n c : Nat} {A : Option Addr} (h : Cur w p A n c) (hT : Touch L w w') (hp : p ∉ L) : Cur w' p A n c := by
  obtain ⟨i, x, k, h0, h1⟩ := h
  exact ⟨i, x, Blk.touch hT k hp, h0, h1⟩
set_option maxRecDepth 100000 in
theorem pick_any (p : Nat) (A : Option Addr) (c : Nat) (bs : List Int) (B : Option Addr) (d : Nat) (xs : List Int) (w : World) (hx0 : 1 ≤ xs.length) (hx1 : xs.length ≤ 256) (hc : Cur w p A bs.length c) (hb : Bytes w p A bs)
    (g : Nat) (hB : B = some ⟨g, 0, none⟩) (hgp : g ≠ p) (hg : g < w.heap.size) (hx : ∀ i v, (ints xs)[i]? = some v → w.cell? ⟨g, i, none⟩ = some v) :
    Calls Try.prog 91 #[.pointer (some ⟨p, 0, none⟩), .slice B xs.length d] w fun e w' => ∃ r, r ∈ xs ∧ e = .returned (.int .i64 r) ∧ Cur w' p A bs.length c ∧ Touch [p] w w' := by
  subst hB
  have HX := hid hx
  clear hx
  go_enter Try.func91, Try.ntmps91
  go_wp2_with fail
  refine (below_any _ _ _ _ _ _ (by omega) (by omega) hc hb).mono ?_
  rintro e w1 ⟨r, rfl, hr0, hr1, hc1, hT1⟩
  obtain ⟨i, rfl⟩ := Int.eq_ofNat_of_zero_le hr0
  obtain ⟨x, hxi⟩ : ∃ x, xs[i]? = some x := ⟨_, List.getElem?_eq_getElem (by omega)⟩
  have hcell := hT1.cell (HX.out i _ (ints_get hxi)) (by dsimp only; omega) (by simp; omega)
  have hin := List.mem_of_getElem? hxi
  clear hxi
  go_wp2
  go_ret
  exact ⟨x, hin, rfl, hc1, hT1⟩
set_option maxRecDepth 100000 in
set_option maxHeartbeats 800000 in
theorem word_any (p : Nat) (A : Option Addr) (c : Nat) (bs : List Int) (w : World) (hc : Cur w p A bs.length c) (hb : Bytes w p A bs) :
    Calls Try.prog 53 #[.pointer (some ⟨p, 0, none⟩)] w fun e w' => ∃ r, e = .returned (.int .i64 r) ∧ isWordB r = true ∧ Cur w' p A bs.length c ∧ Touch [p] w w' := by
  have HB := hid hb
  have hp := hc.lt
  clear hb
  go_enter Try.func53, Try.ntmps53
  go_wp2_with fail
  refine (below_any _ _ _ _ _ _ (by omega) (by omega) hc HB.out).mono ?_
  rintro e w1 ⟨r, rfl, hr0, hr1, hc1, hT1⟩
  have z1 := hT1.size
  have hb1 := HB.out.touch hT1 (by omega)
  have HB1 := hid hb1
  have HC1 := hid hc1
  have HT1 := hid hT1
  clear hb1 hc1 hT1 hc
  have h3 : r = 0 ∨ r = 1 ∨ (r ≠ 0 ∧ r ≠ 1) := by omega
  rcases h3 with rfl | rfl | ⟨h4, h5⟩
  · go_wp2_with fail
    refine (pick_any _ _ _ _ _ _ [0, 1, 4294967295, 2147483648, 65536] _ (by decide) (by decide) (HC1.out.alloc _) ⟨(HB1.out.cells.below ((Below.refl _ _).alloc (by omega) _)), HB1.out.small, HB1.out.len⟩ w1.heap.size rfl (by omega) (by simp) ?_).mono ?_
    · intro i v hv
      have := many_new w1 (ints [0, 1, 4294967295, 2147483648, 65536]) 3 i v hv
      have e : (⟨w1.heap.size, 0, none⟩ : Addr).add i = ⟨w1.heap.size, i, none⟩ := by simp [Addr.add]; omega
      rw [e] at this
      exact this
    rintro e w2 ⟨r, hr, rfl, hc2, hT2⟩
    have hT := HT1.out.trans (((Touch.refl _ _).alloc _).trans hT2)
    have hw : isWordB r = true := by
      simp at hr
      rcases hr with rfl | rfl | rfl | rfl | rfl <;> rfl
    clear hr hT2
    go_wp2
    go_ret
    exact ⟨r, rfl, hw, hc2, hT⟩
  · go_wp2_with fail
    refine (below_any _ _ _ _ _ _ (by omega) (by omega) HC1.out HB1.out).mono ?_
    rintro e w2 ⟨r, rfl, hr0, hr1, hc2, hT2⟩
    have hT := HT1.out.trans hT2
    clear hT2
    go_wp2
    go_ret
    exact ⟨r, rfl, isWordB_iff.2 (by omega), hc2, hT⟩
  · have t0 : (r == 0) = false := by simpa using h4
    have t1 : (r == 1) = false := by simpa using h5
    clear h4 h5
    go_wp2_with fail
    refine (below_any _ _ _ _ _ _ (by omega) (by omega) HC1.out HB1.out).mono ?_
    rintro e w2 ⟨a, rfl, ha0, ha1, hc2, hT2⟩
    have z2 := hT2.size
    have hb2 := HB1.out.touch hT2 (by omega)
    go_wp2_with fail
    refine (below_any _ _ _ _ _ _ (by omega) (by omega) hc2 hb2).mono ?_
    rintro e w3 ⟨b, rfl, hb0, hb1, hc3, hT3⟩
    have hT := (HT1.out.trans hT2).trans hT3
    clear hT2 hT3 hb2 hc2
    go_wp2
    go_ret
    exact ⟨_, rfl, isWordB_iff.2 (by omega), hc3, hT⟩
theorem Bytes.more {w : World} {p q : Nat} {A : Option Addr} {bs : List Int} (h : Bytes w p A bs) (hq : p ≤ q) : Bytes w q A bs := ⟨h.cells.more hq, h.small, h.len⟩
theorem wordsB_app {xs : List Int} {r : Int} (h : wordsB xs = true) (hr : isWordB r = true) : wordsB (xs ++ [r]) = true := by
  unfold wordsB at *
  simp [h, hr, List.all_append]
end Go.Proofs.Ytihbaieiempjeaa
/- The reference's draws of programs, inputs and tapes. Only what the laws need of them is kept. -/
namespace Go.Proofs.Ytihbaieiempjeaa
open Go.RowKit

theorem Touch.trans_new {L M : List Nat} {w w1 w2 : World} (h1 : Touch L w w1) (h2 : Touch M w1 w2) (hM : ∀ i ∈ M, w.heap.size ≤ i) : Touch L w w2 :=
  ⟨h2.os.trans h1.os, h2.tape.trans h1.tape, h2.output.trans h1.output, Nat.le_trans h1.size h2.size, fun i hi hn => (h2.block i (Nat.lt_of_lt_of_le hi h1.size) (fun hm => by have := hM i hm; omega)).trans (h1.block i hi hn)⟩
theorem below0_touch {L : List Nat} {w0 w w' : World} (h : Touch L w w') (h0 : Below 0 w0 w) : Below 0 w0 w' :=
  ⟨h.os.trans h0.os, h.tape.trans h0.tape, h.output.trans h0.output, Nat.le_trans h0.size h.size, fun i hi => absurd hi (Nat.not_lt_zero i)⟩
theorem Touch.of_below {L : List Nat} {w w' : World} (h : Below w.heap.size w w') : Touch L w w' := ⟨h.os, h.tape, h.output, h.size, fun i hi _ => h.block i hi⟩
theorem Touch.trans_b {L : List Nat} {w w1 w2 : World} (h : Touch L w w1) (hb : Below w.heap.size w1 w2) : Touch L w w2 :=
  ⟨hb.os.trans h.os, hb.tape.trans h.tape, hb.output.trans h.output, Nat.le_trans h.size hb.size, fun i hi hn => (hb.block i hi).trans (h.block i hi hn)⟩
theorem Touch.grown {L : List Nat} {w w1 w2 : World} {row : Option Nat} (h : Touch L w w1) (hg : w1.grownBy w2 row) (hlo : ∀ q, row = some q → w.heap.size ≤ q) : Touch L w w2 :=
  h.trans_b (gr_below hg (Below.refl _ _) h.size hlo)
theorem Bytes.touch' {L : List Nat} {w w' : World} {p : Nat} {A : Option Addr} {bs : List Int} (h : Bytes w p A bs) (hT : Touch L w w') (hp : p ≤ w.heap.size) (hL : ∀ i ∈ L, p ≤ i) : Bytes w' p A bs := ⟨cells_touch hT h.cells hp hL, h.small, h.len⟩

set_option maxRecDepth 100000 in
set_option maxHeartbeats 800000 in
theorem list_any (P : Int) (n p : Nat) (A : Option Addr) (c : Nat) (bs : List Int) (w : World) (hP : 1 ≤ P) (hP2 : P ≤ 1000) (hn : n ≤ 1000) (hc : Cur w p A bs.length c) (hb : Bytes w p A bs) :
    Calls Try.prog 84 #[.pointer (some ⟨p, 0, none⟩), .int .i64 P, .int .i64 n] w fun e w' => ∃ (xs : List Int) (A' : Option Addr) (c' : Nat), (xs.length = n ∧ ∀ x ∈ xs, 0 ≤ x ∧ x < P) ∧ e = .returned (.slice A' n c') ∧
      w'.ownsRow w.heap.size 3 1 (.slice A' n c') n (ints xs) ∧ Cur w' p A bs.length c ∧ Touch [p] w w' := by
  have HB := hid hb
  have HC := hid hc
  have hp := hc.lt
  clear hb hc
  go_enter Try.func84, Try.ntmps84
  go_wp2_with fail
  go_loopw [7, 8] (fun o i wr => ∃ (k : Nat) (xs : List Int) (A' : Option Addr) (c' : Nat), k ≤ n ∧ i = .int .i64 k ∧ xs.length = k ∧ o = .slice A' k c' ∧ (∀ x ∈ xs, 0 ≤ x ∧ x < P) ∧
    wr.ownsRow w.heap.size 3 1 (.slice A' k c') k (ints xs) ∧ Cur wr p A bs.length c ∧ Touch [p] w wr) (fun _ i _ => n - (intOf i).toNat)
  case atStart => exact ⟨0, [], some ⟨w.heap.size, 0, none⟩, 0, Nat.zero_le _, rfl, rfl, rfl, by simp, own_lit (size := 1) #[] 0 rfl (Nat.le_refl _) (Nat.zero_le _) rfl, HC.out.alloc _, (Touch.refl _ _).alloc _⟩
  case round =>
    obtain ⟨k, xs, A', c', hk, rfl, hlen, rfl, hsm, hown, hcu, htw⟩ := hrel
    have zw := htw.size
    have HL := hid hlen
    have HS := hid hsm
    have HO := hid hown
    have HU := hid hcu
    have HD := hid htw
    clear hlen hsm hown hcu htw
    by_cases hlt : k < n
    · have hlt' : (k : Int) < (n : Int) := by omega
      go_wp2_with fail
      refine (below_any _ _ _ _ _ _ (by omega) (by omega) HU.out (HB.out.touch HD.out (by omega))).mono ?_
      rintro e w2 ⟨r, rfl, hr0, hr1, hc2, hT⟩
      have z2 := hT.size
      have ho2 := own_touch' hT HO.out (fun q hq => by have h1 := own_in HO.out q hq; simp; omega)
      have HO2 := hid ho2
      have HU2 := hid hc2
      have HD2 := hid (HD.out.trans hT)
      clear hc2 hT ho2
      go_wp2_with (at_builtin; refine wpList_appi rfl _ _ 25 rfl w.heap.size 3 (.int .i64 0) 1 8 Try.underlying25 infoInt rfl (by decide) _ k _ rfl (HO2.out.alloc _) ⟨w2.heap.size, 0, none⟩ 1 1 _ rfl rfl (one_new _ _ _) (one_one _) (by omega) (by decide) (by simp; omega) ?_)
      intro A3 c3 w3 ho3 hg3 li3
      have hg := grown_alloc hg3
      have z3 := hg.size
      have hlo : ∀ q, (Value.slice A' k c').ownBlock = some q → w.heap.size ≤ q := fun q hq => (own_in HO2.out q hq).1
      have hc3 := HU2.out.grown hg (fun q hq => by have h1 := hlo q hq; omega)
      have ht3 := HD2.out.grown hg hlo
      rw [← ints_snoc] at ho3
      have HO3 := hid ho3
      have HU3 := hid hc3
      have HD3 := hid ht3
      clear hg hg3 li3 hlo ho3 hc3 ht3
      go_wp2
      go_roundw
      case rel => exact ⟨k + 1, xs ++ [r], A3, c3, by omega, by go_num, by rw [List.length_append, HL.out]; rfl, rfl, mem_snoc HS.out ⟨hr0, hr1⟩, HO3.out, HU3.out, HD3.out⟩
      case measure => simp [intOf]; omega
    · obtain rfl : k = n := by omega
      go_wp2
      go_ret
      exact ⟨xs, A', c', ⟨HL.out, HS.out⟩, rfl, HO.out, HU.out, HD.out⟩
set_option maxRecDepth 100000 in
set_option maxHeartbeats 800000 in
theorem tape_any (p : Nat) (A : Option Addr) (c : Nat) (bs : List Int) (w : World) (hc : Cur w p A bs.length c) (hb : Bytes w p A bs) :
    Calls Try.prog 27 #[.pointer (some ⟨p, 0, none⟩)] w fun e w' => ∃ (s a : Int), e = .returned (.agg #[.int .i64 s, .int .i64 a]) ∧ (tapeOkB s a = true ∧ a ≤ 50) ∧ Cur w' p A bs.length c ∧ Touch [p] w w' := by
  obtain ⟨i0, h0, hcu, cu_i0, cu_i1⟩ := hc
  have hp := hcu.lt
  have bc_s := hid hb.small
  have bc_l := hid hb.len
  have HBY := hb.cells
  clear hb
  go_enter Try.func27, Try.ntmps27
  have b_0 := (Below.refl 0 w)
  have s_0 := b_0.size
  have T_0 := Touch.refl [p] w
  have bc_0 := HBY
  clear HBY
  have cu_0 := hcu
  clear hcu
  have cu_lt := cu_0.lt
  have cell_cu := cu_0.cell
  have froz_cu := cu_0.frozen
  have lt_cu := cu_0.lt
  go_wp2_with fail
  refine calls_forget1 (W := w) (b0 := w.heap.size) (t0 := 29) (c0 := #[.int .i64 0, .int .i64 0]) ?_ ?_ ?_
  (focus exact blkcBy)
  (focus (exact belBy))
  intro X1 r_n hX1
  have sX1 := hX1.size
  have r_lt := r_n.lt
  refine (word_any _ _ _ _ _ (show Cur _ _ _ _ _ from ⟨_, _, Blk.past hX1 cu_0, cu_i0, cu_i1⟩) ⟨cells_below bc_0 hX1 (by omega), bc_s.out, bc_l.out⟩).mono ?_
  clear cu_i0 cu_i1
  rintro e w1 ⟨s, rfl, hs, ⟨i_1, h_1, cu_1, cu_i0, cu_i1⟩, hY1⟩
  have s1 := hY1.size
  have b_1 := below0_touch hY1 (b_0.trans (hX1.mono (by omega)))
  have T_1 := (T_0.trans (Touch.of_below hX1)).trans hY1
  have bc_1 := cells_touch hY1 (cells_below bc_0 hX1 (by omega)) (by omega) (by first | (simp; done) | (simp; omega))
  have r_1 := Blk.touch hY1 r_n (by first | (simp; done) | (simp; omega))
  clear T_0 bc_0 cu_0 b_0 cell_cu froz_cu lt_cu r_n hX1 hY1
  have cell_cu := cu_1.cell
  have froz_cu := cu_1.frozen
  have lt_cu := cu_1.lt
  have cell_r := r_1.cell
  have froz_r := r_1.frozen
  have lt_r := r_1.lt
  go_wp2_with fail
  refine calls_forget0 (W := w1) ?_ ?_
  (focus (exact belBy))
  intro X2 hX2
  have sX2 := hX2.size
  refine (below_any 50 _ _ _ _ _ (by omega) (by omega) (show Cur _ _ _ _ _ from ⟨_, _, Blk.past hX2 cu_1, cu_i0, cu_i1⟩) ⟨cells_below bc_1 hX2 (by omega), bc_s.out, bc_l.out⟩).mono ?_
  clear cu_i0 cu_i1
  rintro e w2 ⟨a, rfl, a0, a1, ⟨i_2, h_2, cu_2, cu_i0, cu_i1⟩, hY2⟩
  have s2 := hY2.size
  have b_2 := below0_touch hY2 (b_1.trans (hX2.mono (by omega)))
  have T_2 := (T_1.trans (Touch.of_below hX2)).trans hY2
  have bc_2 := cells_touch hY2 (cells_below bc_1 hX2 (by omega)) (by omega) (by first | (simp; done) | (simp; omega))
  have r_2 := Blk.touch hY2 (Blk.past hX2 r_1) (by first | (simp; done) | (simp; omega))
  clear T_1 bc_1 cu_1 r_1 b_1 cell_cu froz_cu lt_cu cell_r froz_r lt_r hX2 hY2
  have cell_cu := cu_2.cell
  have froz_cu := cu_2.frozen
  have lt_cu := cu_2.lt
  have cell_r := r_2.cell
  have froz_r := r_2.frozen
  have lt_r := r_2.lt
  go_wp2_with fail
  ((try simp only [Exit.inBlock, Exit.then]); apply bodyPost_ret0; focus ((try simp only [results, Try.results27]); (try go_simp); (try rfl)))
  refine ⟨s, a, rfl, ⟨by unfold tapeOkB; rw [hs, inB_iff.2 ⟨a0, by omega⟩]; rfl, by omega⟩, ?_, ?_⟩
  · exact ⟨_, _, Blk.touch (L := [w.heap.size]) (((Touch.refl _ _).set_ _ _ (by simp)).set_ _ _ (by simp)) cu_2 (by simp; omega), cu_i0, cu_i1⟩
  · have hT := T_2
    exact (hT.set_new _ _ (by dsimp only; omega)).set_new _ _ (by dsimp only; omega)

set_option maxHeartbeats 1600000 in
theorem sPlain8 (o d a b g n : Int) (w : World) :
    Calls Try.prog 99 #[.agg #[.int .i64 o, .int .i64 d, .int .i64 a, .int .i64 b, .int .i64 g, .int .i64 n]] w fun e w' =>
      ∃ x0 x1 x2 x3 x4 x5 : Int, e = .returned (.agg #[.int .i64 x0, .int .i64 x1, .int .i64 x2, .int .i64 x3, .int .i64 x4, .int .i64 x5]) ∧ Below w.heap.size w w' := by
  cases h1 : (o == 1)
  case true =>
    obtain rfl : o = 1 := by simpa using h1
    go_enter Try.func99, Try.ntmps99
    go_wp2
    go_returns
    refine ⟨_, _, _, _, _, _, rfl, ?_⟩
    exact belBy
  cases h2 : (o == 2)
  case true =>
    obtain rfl : o = 2 := by simpa using h2
    go_enter Try.func99, Try.ntmps99
    go_wp2
    go_returns
    refine ⟨_, _, _, _, _, _, rfl, ?_⟩
    exact belBy
  cases h3 : inB o 3 9
  case true =>
    go_enter Try.func99, Try.ntmps99
    go_wp2_with (go_at_call 57; refine (sWithin _ _ _ _).mono ?_; rintro e w' ⟨rfl, rfl⟩)
    go_returns
    refine ⟨_, _, _, _, _, _, rfl, ?_⟩
    exact belBy
  cases h4 : (o == 10)
  case true =>
    go_enter Try.func99, Try.ntmps99
    go_wp2_with (go_at_call 57; refine (sWithin _ _ _ _).mono ?_; rintro e w' ⟨rfl, rfl⟩)
    go_returns
    refine ⟨_, _, _, _, _, _, rfl, ?_⟩
    exact belBy
  cases h5 : (o == 11)
  case true =>
    go_enter Try.func99, Try.ntmps99
    go_wp2_with (go_at_call 57; refine (sWithin _ _ _ _).mono ?_; rintro e w' ⟨rfl, rfl⟩)
    go_returns
    refine ⟨_, _, _, _, _, _, rfl, ?_⟩
    exact belBy
  cases h6 : (o == 12)
  all_goals
    go_enter Try.func99, Try.ntmps99
    go_wp2_with (go_at_call 57; refine (sWithin _ _ _ _).mono ?_; rintro e w' ⟨rfl, rfl⟩)
    go_returns
    refine ⟨_, _, _, _, _, _, rfl, ?_⟩
    exact belBy
end Go.Proofs.Ytihbaieiempjeaa
/- The reference's drawn inputs, and their bits. Only what the laws need of them is kept. -/
namespace Go.Proofs.Ytihbaieiempjeaa
open Go.RowKit

theorem own_kinds {w : World} {b1 b2 e1 e2 s1 s2 n1 n2 : Nat} {v1 v2 : Value} {xs ys : List Value} (h1 : w.ownsRow b1 e1 s1 v1 n1 xs) (h2 : w.ownsRow b2 e2 s2 v2 n2 ys) (hne : e1 ≠ e2) :
    ∀ q p, v1.ownBlock = some q → v2.ownBlock = some p → q ≠ p := by
  intro q p hq hp e
  subst e
  rcases h1.2 with ⟨hv, _⟩ | ⟨g, cap, cur, hv, hg, hh, _⟩
  · rw [hv] at hq; cases hq
  · rcases h2.2 with ⟨hv2, _⟩ | ⟨g2, cap2, cur2, hv2, hg2, hh2, _⟩
    · rw [hv2] at hp; cases hp
    · rw [hv] at hq
      rw [hv2] at hp
      have e1' : g = q := Option.some.inj hq
      have e2' : g2 = q := Option.some.inj hp
      subst e1'
      subst e2'
      rw [hh] at hh2
      injection hh2 with hh2
      injection hh2 with _ h3 _
      exact hne h3
theorem infoInts : (Try.prog.info? 25).map (fun i => (i.zero, i.size, i.bytes)) = some (some (.slice none 0 0), 1, 24) := by kernel_rfl
/-- Five rows of four numbers below 16: the row's address, its capacity, its numbers. -/
def insV (ls : List (Nat × Nat × List Int)) : List Value := ls.map fun q => .slice (some ⟨q.1, 0, none⟩) 4 q.2.1
def In4 (xs : List Int) : Prop := xs.length = 4 ∧ ∀ x ∈ xs, 0 ≤ x ∧ x < 16
def InsO (w : World) (base : Nat) (ls : List (Nat × Nat × List Int)) : Prop := ∀ (i : Nat) (q : Nat × Nat × List Int), ls[i]? = some q → w.ownsRow base 3 1 (.slice (some ⟨q.1, 0, none⟩) 4 q.2.1) 4 (ints q.2.2) ∧ In4 q.2.2
def InsC (w : World) (B : Nat) (ls : List (Nat × Nat × List Int)) : Prop := ∀ (i : Nat) (q : Nat × Nat × List Int), ls[i]? = some q → Cells w B (some ⟨q.1, 0, none⟩) (ints q.2.2) ∧ In4 q.2.2
theorem insV_length (ls : List (Nat × Nat × List Int)) : (insV ls).length = ls.length := by simp [insV]
theorem insV_get {ls : List (Nat × Nat × List Int)} {i : Nat} {q : Nat × Nat × List Int} (h : ls[i]? = some q) : (insV ls)[i]? = some (.slice (some ⟨q.1, 0, none⟩) 4 q.2.1) := by simp [insV, h]
theorem insV_snoc (ls : List (Nat × Nat × List Int)) (q : Nat × Nat × List Int) : insV (ls ++ [q]) = insV ls ++ [.slice (some ⟨q.1, 0, none⟩) 4 q.2.1] := by simp [insV]
theorem InsO.nil (w : World) (base : Nat) : InsO w base [] := fun i q h => by simp at h
theorem InsO.touch {L : List Nat} {w w' : World} {base : Nat} {ls : List (Nat × Nat × List Int)} (h : InsO w base ls) (hT : Touch L w w') (hL : ∀ i ∈ L, i < base) : InsO w' base ls :=
  fun i q hq => ⟨own_touch' hT (h i q hq).1 fun g hg hm => by have h1 := own_in (h i q hq).1 g hg; have h2 := hL g hm; omega, (h i q hq).2⟩
theorem InsO.grown {w w' : World} {row : Option Nat} {base : Nat} {ls : List (Nat × Nat × List Int)} (h : InsO w base ls) (hg : w.grownBy w' row)
    (hne : ∀ (i : Nat) (q : Nat × Nat × List Int), ls[i]? = some q → ∀ g, row = some g → g ≠ q.1) : InsO w' base ls :=
  fun i q hq => ⟨gr_own hg (h i q hq).1 fun g p hg' hp => by
    have e : p = q.1 := by have := hp; simp [Value.ownBlock] at this; exact this.symm
    rw [e]
    exact hne i q hq g hg', (h i q hq).2⟩
theorem InsO.snoc {w : World} {base : Nat} {ls : List (Nat × Nat × List Int)} (h : InsO w base ls) {g c : Nat} {xs : List Int} (ho : w.ownsRow base 3 1 (.slice (some ⟨g, 0, none⟩) 4 c) 4 (ints xs)) (hx : In4 xs) : InsO w base (ls ++ [(g, c, xs)]) := fun i q hq => by
  rw [List.getElem?_append] at hq
  split at hq
  · exact h i q hq
  · rcases hi : i - ls.length with _ | n
    · rw [hi] at hq
      simp at hq
      subst hq
      exact ⟨ho, hx⟩
    · rw [hi] at hq
      simp at hq
theorem InsO.cells {w : World} {base : Nat} {ls : List (Nat × Nat × List Int)} (h : InsO w base ls) : InsC w w.heap.size ls := fun i q hq => ⟨Cells.of_own (h i q hq).1, (h i q hq).2⟩
theorem InsC.below {w w' : World} {B : Nat} {ls : List (Nat × Nat × List Int)} (h : InsC w B ls) (hb : Below w.heap.size w w') (hB : B ≤ w.heap.size) : InsC w' B ls := fun i q hq => ⟨cells_below (h i q hq).1 hb hB, (h i q hq).2⟩
theorem InsC.more {w : World} {B B' : Nat} {ls : List (Nat × Nat × List Int)} (h : InsC w B ls) (hB : B ≤ B') : InsC w B' ls := fun i q hq => ⟨(h i q hq).1.more hB, (h i q hq).2⟩
theorem InsC.touch {L : List Nat} {w w' : World} {B : Nat} {ls : List (Nat × Nat × List Int)} (h : InsC w B ls) (hT : Touch L w w') (hB : B ≤ w.heap.size) (hL : ∀ i ∈ L, B ≤ i) : InsC w' B ls := fun i q hq => ⟨cells_touch hT (h i q hq).1 hB hL, (h i q hq).2⟩

set_option maxRecDepth 100000 in
set_option maxHeartbeats 1600000 in
theorem inputs_any (p : Nat) (A : Option Addr) (c : Nat) (bs : List Int) (w : World) (hc : Cur w p A bs.length c) (hb : Bytes w p A bs) :
    Calls Try.prog 45 #[.pointer (some ⟨p, 0, none⟩)] w fun e w' => ∃ (ls : List (Nat × Nat × List Int)) (A' : Option Addr) (c' : Nat), ls.length = 5 ∧ e = .returned (.slice A' 5 c') ∧
      w'.ownsRow w.heap.size 25 1 (.slice A' 5 c') 5 (insV ls) ∧ InsO w' w.heap.size ls ∧ Cur w' p A bs.length c ∧ Touch [p] w w' := by
  have HB := hid hb
  have HC := hid hc
  have hp := hc.lt
  clear hb hc
  go_enter Try.func45, Try.ntmps45
  go_wp2_with fail
  go_loopw [3, 4] (fun o i wr => ∃ (k : Nat) (ls : List (Nat × Nat × List Int)) (A' : Option Addr) (c' : Nat), k ≤ 5 ∧ i = .int .i64 k ∧ ls.length = k ∧ o = .slice A' k c' ∧
    wr.ownsRow w.heap.size 25 1 (.slice A' k c') k (insV ls) ∧ InsO wr w.heap.size ls ∧ Cur wr p A bs.length c ∧ Touch [p] w wr) (fun _ i _ => 5 - (intOf i).toNat)
  case atStart => exact ⟨0, [], some ⟨w.heap.size, 0, none⟩, 0, Nat.zero_le _, rfl, rfl, rfl, own_lit (size := 1) #[] 0 rfl (Nat.le_refl _) (Nat.zero_le _) rfl, InsO.nil _ _, HC.out.alloc _, (Touch.refl _ _).alloc _⟩
  case round =>
    obtain ⟨k, ls, A', c', hk, rfl, hlen, rfl, hown, hins, hcu, htw⟩ := hrel
    have zw := htw.size
    have HL := hid hlen
    have HO := hid hown
    have HI := hid hins
    have HU := hid hcu
    have HD := hid htw
    clear hlen hown hcu htw hins
    by_cases hlt : k < 5
    · have hlt' : (k : Int) < 5 := by omega
      go_wp2_with fail
      refine (list_any 16 4 _ _ _ _ _ (by omega) (by omega) (by omega) HU.out (HB.out.touch HD.out (by omega))).mono ?_
      rintro e w2 ⟨xs, A1, c1, hxs, rfl, hro, hc2, hT⟩
      have z2 := hT.size
      obtain ⟨g, rfl, hg0, hg1, _⟩ := own_at hro (by omega)
      have ho2 := own_touch' hT HO.out (fun q hq => by have h1 := own_in HO.out q hq; simp; omega)
      have HO2 := hid ho2
      have HU2 := hid hc2
      have HI2 := hid (HI.out.touch hT (by simp; omega))
      have HR2 := hid (own_weak (base' := w.heap.size) hro (by omega))
      have HD2 := hid (HD.out.trans hT)
      clear hc2 hT ho2 hro
      go_wp2_with (at_builtin; go_loud (refine wpList_appi rfl _ _ 51 rfl w.heap.size 25 (.slice none 0 0) 1 24 Try.underlying51 infoInts rfl (by decide) _ k _ rfl (HO2.out.alloc _) ⟨w2.heap.size, 0, none⟩ 1 1 _ rfl rfl (one_new _ _ _) (by intro u hu; simp at hu; subst hu; rfl) (by omega) (by decide) (by simp; omega) ?_))
      intro A3 c3 w3 ho3 hg3 li3
      have hg := grown_alloc hg3
      have z3 := hg.size
      have hlo : ∀ q, (Value.slice A' k c').ownBlock = some q → w.heap.size ≤ q := fun q hq => (own_in HO2.out q hq).1
      have hc3 := HU2.out.grown hg (fun q hq => by have h1 := hlo q hq; omega)
      have ht3 := HD2.out.grown hg hlo
      have hi3 := (HI2.out.snoc HR2.out hxs).grown hg (fun i q hq g' hg' => by
        have h1 := ((HI2.out.snoc HR2.out hxs) i q hq).1
        exact own_kinds HO2.out h1 (by decide) g' q.1 hg' rfl)
      rw [← insV_snoc ls (g, c1, xs)] at ho3
      have HO3 := hid ho3
      have HU3 := hid hc3
      have HD3 := hid ht3
      have HI3 := hid hi3
      clear hg hg3 li3 hlo ho3 hc3 ht3 hi3
      go_wp2
      go_roundw
      case rel => exact ⟨k + 1, ls ++ [(g, c1, xs)], A3, c3, by omega, by go_num, by rw [List.length_append, HL.out]; rfl, rfl, HO3.out, HI3.out, HU3.out, HD3.out⟩
      case measure => simp [intOf]; omega
    · obtain rfl : k = 5 := by omega
      go_wp2
      go_ret
      exact ⟨ls, A', c', HL.out, rfl, HO.out, HI.out, HU.out, HD.out⟩

theorem sInYes (n lo hi : Int) (w : World) (h : lo ≤ n ∧ n ≤ hi) : Calls Try.prog 57 #[.int .i64 n, .int .i64 lo, .int .i64 hi] w fun e w' => e = .returned (.bool true) ∧ w = w' := by
  have := sWithin n lo hi w
  rw [inB_iff.2 h] at this
  exact this
end Go.Proofs.Ytihbaieiempjeaa
/- The bits of drawn inputs. -/
namespace Go.Proofs.Ytihbaieiempjeaa
open Go.RowKit

theorem and1 (a : Int) : inB (bits .and .i64 a 1) 0 1 = true := by
  have e : bits .and .i64 a 1 = IntKind.i64.wrap ((BitVec.ofInt 64 a &&& BitVec.ofInt 64 1).toNat : Int) := rfl
  have h : (BitVec.ofInt 64 a &&& BitVec.ofInt 64 1).toNat ≤ 1 := by
    rw [BitVec.toNat_and]
    have e2 : (BitVec.ofInt 64 1).toNat = 1 := by decide
    rw [e2]
    exact Nat.and_le_right
  rw [inB_iff, e, IntKind.wrap_i64]
  omega
theorem bitsB_app {xs : List Int} {r : Int} (h : bitsB xs = true) (hr : inB r 0 1 = true) : bitsB (xs ++ [r]) = true := by
  unfold bitsB at *
  simp [h, hr, List.all_append]
def BitsS (w : World) (L : Nat) (o : Value) (wr : World) : Prop :=
  ∃ (xs : List Int) (A' : Option Addr) (c' : Nat), xs.length = L ∧ o = .slice A' L c' ∧ wr.ownsRow w.heap.size 3 1 (.slice A' L c') L (ints xs) ∧ bitsB xs = true ∧ Below w.heap.size w wr
end Go.Proofs.Ytihbaieiempjeaa
/- The reference's drawn statements: valid ones, no part of a loop. -/
namespace Go.Proofs.Ytihbaieiempjeaa
open Go.RowKit

def PlainSt (s : St) : Prop := stmtB s = true ∧ s.o ≠ 12 ∧ s.o ≠ 13
def stV (s : St) : Value := .agg #[.int .i64 s.o, .int .i64 s.d, .int .i64 s.a, .int .i64 s.b, .int .i64 s.c, .int .i64 s.n]
theorem plain1 (d a b c n : Int) (w : World) : Calls Try.prog 99 #[.agg #[.int .i64 1, .int .i64 d, .int .i64 a, .int .i64 b, .int .i64 c, .int .i64 n]] w fun e w' => e = .returned (.agg #[.int .i64 1, .int .i64 d, .int .i64 0, .int .i64 0, .int .i64 0, .int .i64 n]) ∧ Below w.heap.size w w' := sPlainX 1 d a b c n w
theorem plain2 (d a b c n : Int) (w : World) : Calls Try.prog 99 #[.agg #[.int .i64 2, .int .i64 d, .int .i64 a, .int .i64 b, .int .i64 c, .int .i64 n]] w fun e w' => e = .returned (.agg #[.int .i64 2, .int .i64 d, .int .i64 a, .int .i64 0, .int .i64 0, .int .i64 n]) ∧ Below w.heap.size w w' := sPlainX 2 d a b c n w
theorem plain10 (d a b c n : Int) (w : World) : Calls Try.prog 99 #[.agg #[.int .i64 10, .int .i64 d, .int .i64 a, .int .i64 b, .int .i64 c, .int .i64 n]] w fun e w' => e = .returned (.agg #[.int .i64 10, .int .i64 d, .int .i64 a, .int .i64 b, .int .i64 c, .int .i64 0]) ∧ Below w.heap.size w w' := sPlainX 10 d a b c n w
theorem plain11 (d a b c n : Int) (w : World) : Calls Try.prog 99 #[.agg #[.int .i64 11, .int .i64 d, .int .i64 a, .int .i64 b, .int .i64 c, .int .i64 n]] w fun e w' => e = .returned (.agg #[.int .i64 11, .int .i64 0, .int .i64 a, .int .i64 0, .int .i64 0, .int .i64 0]) ∧ Below w.heap.size w w' := sPlainX 11 d a b c n w
theorem plain3 (o d a b c n : Int) (w : World) (h : 3 ≤ o ∧ o ≤ 9) : Calls Try.prog 99 #[.agg #[.int .i64 o, .int .i64 d, .int .i64 a, .int .i64 b, .int .i64 c, .int .i64 n]] w fun e w' => e = .returned (.agg #[.int .i64 o, .int .i64 d, .int .i64 a, .int .i64 b, .int .i64 0, .int .i64 0]) ∧ Below w.heap.size w w' := by
  have q := sPlainX o d a b c n w
  have e3 : inB o 3 9 = true := inB_iff.2 h
  have e1 : (o == 1) = false := by simp; omega
  have e2 : (o == 2) = false := by simp; omega
  have e4 : (o == 10) = false := by simp; omega
  have e5 : (o == 11) = false := by simp; omega
  have e6 : (o == 12) = false := by simp; omega
  rw [e1, e2, e3, e4, e5, e6] at q
  exact q
theorem pl1 {d n : Int} (hd : 0 ≤ d ∧ d ≤ 7) (hn : 0 ≤ n ∧ n ≤ 15) : PlainSt ⟨1, d, 0, 0, 0, n⟩ := by
  refine ⟨?_, by show (1 : Int) ≠ 12; decide, by show (1 : Int) ≠ 13; decide⟩
  unfold stmtB regB
  rw [if_pos rfl]
  simp only [Bool.and_eq_true, inB_iff, beq_iff_eq, true_and]
  exact ⟨hd, hn⟩
theorem pl2 {d a n : Int} (hd : 0 ≤ d ∧ d ≤ 7) (ha : 0 ≤ a ∧ a ≤ 4) (hn : 0 ≤ n ∧ n ≤ 3) : PlainSt ⟨2, d, a, 0, 0, n⟩ := by
  refine ⟨?_, by show (2 : Int) ≠ 12; decide, by show (2 : Int) ≠ 13; decide⟩
  unfold stmtB regB
  rw [if_neg (show ¬ (2 : Int) = 1 by decide), if_pos rfl]
  simp only [Bool.and_eq_true, inB_iff, beq_iff_eq, true_and]
  exact ⟨hd, ha, hn⟩
theorem pl3 {o d a b : Int} (h : 3 ≤ o ∧ o ≤ 9) (hd : 0 ≤ d ∧ d ≤ 7) (ha : 0 ≤ a ∧ a ≤ 7) (hb : 0 ≤ b ∧ b ≤ 7) : PlainSt ⟨o, d, a, b, 0, 0⟩ := by
  refine ⟨?_, by show o ≠ 12; omega, by show o ≠ 13; omega⟩
  unfold stmtB regB
  rw [if_neg (show ¬ o = 1 by omega), if_neg (show ¬ o = 2 by omega), if_pos (inB_iff.2 h)]
  simp only [Bool.and_eq_true, inB_iff, beq_iff_eq, and_true]
  exact ⟨hd, ha, hb⟩
theorem pl10 {d a b c : Int} (hd : 0 ≤ d ∧ d ≤ 7) (ha : 0 ≤ a ∧ a ≤ 7) (hb : 0 ≤ b ∧ b ≤ 7) (hc : 0 ≤ c ∧ c ≤ 7) : PlainSt ⟨10, d, a, b, c, 0⟩ := by
  refine ⟨?_, by show (10 : Int) ≠ 12; decide, by show (10 : Int) ≠ 13; decide⟩
  unfold stmtB regB
  rw [if_neg (show ¬ (10 : Int) = 1 by decide), if_neg (show ¬ (10 : Int) = 2 by decide), if_neg (show ¬ inB 10 3 9 = true by decide), if_pos rfl]
  simp only [Bool.and_eq_true, inB_iff, beq_iff_eq, and_true]
  exact ⟨hd, ha, hb, hc⟩
theorem pl11 {a : Int} (ha : 0 ≤ a ∧ a ≤ 7) : PlainSt ⟨11, 0, a, 0, 0, 0⟩ := by
  refine ⟨?_, by show (11 : Int) ≠ 12; decide, by show (11 : Int) ≠ 13; decide⟩
  unfold stmtB regB
  rw [if_neg (show ¬ (11 : Int) = 1 by decide), if_neg (show ¬ (11 : Int) = 2 by decide), if_neg (show ¬ inB 11 3 9 = true by decide), if_neg (show ¬ (11 : Int) = 10 by decide), if_pos rfl]
  simp only [Bool.and_eq_true, inB_iff, beq_iff_eq, true_and, and_true]
  exact ha
set_option maxRecDepth 100000 in
set_option maxHeartbeats 3200000 in
theorem stmt_is (p : Nat) (A : Option Addr) (c : Nat) (bs : List Int) (w : World) (hc : Cur w p A bs.length c) (hb : Bytes w p A bs) :
    Calls Try.prog 83 #[.pointer (some ⟨p, 0, none⟩)] w fun e w' => ∃ s : St, PlainSt s ∧ e = .returned (.agg #[.int .i64 s.o, .int .i64 s.d, .int .i64 s.a, .int .i64 s.b, .int .i64 s.c, .int .i64 s.n]) ∧ Cur w' p A bs.length c ∧ Touch [p] w w' := by
  obtain ⟨i0, h0, hcu, cu_i0, cu_i1⟩ := hc
  have hp := hcu.lt
  have bc_s := hid hb.small
  have bc_l := hid hb.len
  have HBY := hb.cells
  clear hb
  go_enter Try.func83, Try.ntmps83
  have b_0 := (Below.refl 0 w)
  have s_0 := b_0.size
  have T_0 := Touch.refl [p] w
  have bc_0 := HBY
  clear HBY
  have cu_0 := hcu
  clear hcu
  have cu_lt := cu_0.lt
  have cell_cu := cu_0.cell
  have froz_cu := cu_0.frozen
  have lt_cu := cu_0.lt
  go_wp2_with fail
  refine calls_forget1 (W := w) (b0 := w.heap.size) (t0 := 45) (c0 := #[.int .i64 0, .int .i64 0, .int .i64 0, .int .i64 0, .int .i64 0, .int .i64 0]) ?_ ?_ ?_
  (focus exact blkcBy)
  (focus (exact belBy))
  intro X1 r_n hX1
  have sX1 := hX1.size
  have r_lt := r_n.lt
  refine (below_any 4 _ _ _ _ _ (by omega) (by omega) (show Cur _ _ _ _ _ from ⟨_, _, Blk.past hX1 cu_0, cu_i0, cu_i1⟩) ⟨cells_below bc_0 hX1 (by omega), bc_s.out, bc_l.out⟩).mono ?_
  clear cu_i0 cu_i1
  rintro e w1 ⟨d, rfl, d0, d1, ⟨i_1, h_1, cu_1, cu_i0, cu_i1⟩, hY1⟩
  have s1 := hY1.size
  have b_1 := below0_touch hY1 (b_0.trans (hX1.mono (by omega)))
  have T_1 := (T_0.trans (Touch.of_below hX1)).trans hY1
  have bc_1 := cells_touch hY1 (cells_below bc_0 hX1 (by omega)) (by omega) (by first | (simp; done) | (simp; omega))
  have r_1 := Blk.touch hY1 r_n (by first | (simp; done) | (simp; omega))
  clear T_0 bc_0 cu_0 b_0 cell_cu froz_cu lt_cu r_n hX1 hY1
  have cell_cu := cu_1.cell
  have froz_cu := cu_1.frozen
  have lt_cu := cu_1.lt
  have cell_r := r_1.cell
  have froz_r := r_1.frozen
  have lt_r := r_1.lt
  go_wp2_with fail
  refine calls_forget0 (W := w1) ?_ ?_
  (focus (exact belBy))
  intro X2 hX2
  have sX2 := hX2.size
  refine (below_any 4 _ _ _ _ _ (by omega) (by omega) (show Cur _ _ _ _ _ from ⟨_, _, Blk.past hX2 cu_1, cu_i0, cu_i1⟩) ⟨cells_below bc_1 hX2 (by omega), bc_s.out, bc_l.out⟩).mono ?_
  clear cu_i0 cu_i1
  rintro e w2 ⟨a, rfl, a0, a1, ⟨i_2, h_2, cu_2, cu_i0, cu_i1⟩, hY2⟩
  have s2 := hY2.size
  have b_2 := below0_touch hY2 (b_1.trans (hX2.mono (by omega)))
  have T_2 := (T_1.trans (Touch.of_below hX2)).trans hY2
  have bc_2 := cells_touch hY2 (cells_below bc_1 hX2 (by omega)) (by omega) (by first | (simp; done) | (simp; omega))
  have r_2 := Blk.touch hY2 (Blk.past hX2 r_1) (by first | (simp; done) | (simp; omega))
  clear T_1 bc_1 cu_1 r_1 b_1 cell_cu froz_cu lt_cu cell_r froz_r lt_r hX2 hY2
  have cell_cu := cu_2.cell
  have froz_cu := cu_2.frozen
  have lt_cu := cu_2.lt
  have cell_r := r_2.cell
  have froz_r := r_2.frozen
  have lt_r := r_2.lt
  go_wp2_with fail
  refine calls_forget0 (W := w2) ?_ ?_
  (focus (exact belBy))
  intro X3 hX3
  have sX3 := hX3.size
  refine (below_any 4 _ _ _ _ _ (by omega) (by omega) (show Cur _ _ _ _ _ from ⟨_, _, Blk.past hX3 cu_2, cu_i0, cu_i1⟩) ⟨cells_below bc_2 hX3 (by omega), bc_s.out, bc_l.out⟩).mono ?_
  clear cu_i0 cu_i1
  rintro e w3 ⟨f, rfl, f0, f1, ⟨i_3, h_3, cu_3, cu_i0, cu_i1⟩, hY3⟩
  have s3 := hY3.size
  have b_3 := below0_touch hY3 (b_2.trans (hX3.mono (by omega)))
  have T_3 := (T_2.trans (Touch.of_below hX3)).trans hY3
  have bc_3 := cells_touch hY3 (cells_below bc_2 hX3 (by omega)) (by omega) (by first | (simp; done) | (simp; omega))
  have r_3 := Blk.touch hY3 (Blk.past hX3 r_2) (by first | (simp; done) | (simp; omega))
  clear T_2 bc_2 cu_2 r_2 b_2 cell_cu froz_cu lt_cu cell_r froz_r lt_r hX3 hY3
  have cell_cu := cu_3.cell
  have froz_cu := cu_3.frozen
  have lt_cu := cu_3.lt
  have cell_r := r_3.cell
  have froz_r := r_3.frozen
  have lt_r := r_3.lt
  go_wp2_with fail
  refine calls_forget0 (W := w3) ?_ ?_
  (focus (exact belBy))
  intro X4 hX4
  have sX4 := hX4.size
  refine (below_any 4 _ _ _ _ _ (by omega) (by omega) (show Cur _ _ _ _ _ from ⟨_, _, Blk.past hX4 cu_3, cu_i0, cu_i1⟩) ⟨cells_below bc_3 hX4 (by omega), bc_s.out, bc_l.out⟩).mono ?_
  clear cu_i0 cu_i1
  rintro e w4 ⟨g, rfl, g0, g1, ⟨i_4, h_4, cu_4, cu_i0, cu_i1⟩, hY4⟩
  have s4 := hY4.size
  have b_4 := below0_touch hY4 (b_3.trans (hX4.mono (by omega)))
  have T_4 := (T_3.trans (Touch.of_below hX4)).trans hY4
  have bc_4 := cells_touch hY4 (cells_below bc_3 hX4 (by omega)) (by omega) (by first | (simp; done) | (simp; omega))
  have r_4 := Blk.touch hY4 (Blk.past hX4 r_3) (by first | (simp; done) | (simp; omega))
  clear T_3 bc_3 cu_3 r_3 b_3 cell_cu froz_cu lt_cu cell_r froz_r lt_r hX4 hY4
  have cell_cu := cu_4.cell
  have froz_cu := cu_4.frozen
  have lt_cu := cu_4.lt
  have cell_r := r_4.cell
  have froz_r := r_4.frozen
  have lt_r := r_4.lt
  go_upto_region 2 with fail
  go_wp2_with fail
  refine calls_forget1 (W := w4) (b0 := w4.heap.size) (t0 := 45) (c0 := #[.int .i64 0, .int .i64 d, .int .i64 a, .int .i64 f, .int .i64 g, .int .i64 0]) ?_ ?_ ?_
  (focus exact blkcBy)
  (focus (exact belBy))
  intro X5 z_n hX5
  have sX5 := hX5.size
  have z_lt := z_n.lt
  refine (below_any 12 _ _ _ _ _ (by omega) (by omega) (show Cur _ _ _ _ _ from ⟨_, _, Blk.past hX5 cu_4, cu_i0, cu_i1⟩) ⟨cells_below bc_4 hX5 (by omega), bc_s.out, bc_l.out⟩).mono ?_
  clear cu_i0 cu_i1
  rintro e w5 ⟨q, rfl, q0, q1, ⟨i_5, h_5, cu_5, cu_i0, cu_i1⟩, hY5⟩
  have s5 := hY5.size
  have b_5 := below0_touch hY5 (b_4.trans (hX5.mono (by omega)))
  have T_5 := (T_4.trans (Touch.of_below hX5)).trans hY5
  have bc_5 := cells_touch hY5 (cells_below bc_4 hX5 (by omega)) (by omega) (by first | (simp; done) | (simp; omega))
  have r_5 := Blk.touch hY5 (Blk.past hX5 r_4) (by first | (simp; done) | (simp; omega))
  have z_5 := Blk.touch hY5 z_n (by first | (simp; done) | (simp; omega))
  clear T_4 bc_4 cu_4 r_4 b_4 cell_cu froz_cu lt_cu cell_r froz_r lt_r z_n hX5 hY5
  have cell_cu := cu_5.cell
  have froz_cu := cu_5.frozen
  have lt_cu := cu_5.lt
  have cell_r := r_5.cell
  have froz_r := r_5.frozen
  have lt_r := r_5.lt
  have cell_z := z_5.cell
  have froz_z := z_5.frozen
  have lt_z := z_5.lt
  have HD := hid (show 0 ≤ d ∧ d ≤ 7 by omega)
  have HA := hid (show 0 ≤ a ∧ a ≤ 7 by omega)
  have HF := hid (show 0 ≤ f ∧ f ≤ 7 by omega)
  have HG := hid (show 0 ≤ g ∧ g ≤ 7 by omega)
  clear d0 d1 a0 a1 f0 f1 g0 g1
  have h7 : q = 0 ∨ q = 1 ∨ q = 2 ∨ q = 3 ∨ q = 4 ∨ q = 5 ∨ q = 6 ∨ 7 ≤ q := by omega
  clear q0
  rcases h7 with rfl | rfl | rfl | rfl | rfl | rfl | rfl | q0
  · skip
    have b_20 := (Below.refl 0 w5)
    have s_20 := b_20.size
    have T_20 := T_5
    have bc_20 := bc_5
    clear bc_5
    have cu_20 := cu_5
    clear cu_5
    have cu_lt := cu_20.lt
    have cell_cu := cu_20.cell
    have froz_cu := cu_20.frozen
    have lt_cu := cu_20.lt
    have r_20 := r_5
    clear r_5
    have r_lt := r_20.lt
    have cell_r := r_20.cell
    have froz_r := r_20.frozen
    have lt_r := r_20.lt
    have z_20 := z_5
    clear z_5
    have z_lt := z_20.lt
    have cell_z := z_20.cell
    have froz_z := z_20.frozen
    have lt_z := z_20.lt
    go_wp2_with fail
    refine calls_touch1 (w0 := w5) (L := [w4.heap.size]) (b0 := w4.heap.size) (t0 := 45) (c0 := #[.int .i64 1, .int .i64 d, .int .i64 a, .int .i64 f, .int .i64 g, .int .i64 0]) ?_ ?_ ?_
    (focus exact blkcBy)
    (focus (exact tchBy))
    intro w21 z_21 hX21
    have sX21 := hX21.size
    have b_21 := below0_touch hX21 b_20
    have T_21 := T_20.trans_new hX21 (by first | (simp; done) | (simp; omega))
    have bc_21 := cells_touch hX21 bc_20 (by omega) (by first | (simp; done) | (simp; omega))
    have cu_21 := Blk.touch hX21 cu_20 (by first | (simp; done) | (simp; omega))
    have r_21 := Blk.touch hX21 r_20 (by first | (simp; done) | (simp; omega))
    clear T_20 bc_20 cu_20 r_20 z_20 b_20 cell_cu froz_cu lt_cu cell_r froz_r lt_r cell_z froz_z lt_z hX21
    have cell_cu := cu_21.cell
    have froz_cu := cu_21.frozen
    have lt_cu := cu_21.lt
    have cell_r := r_21.cell
    have froz_r := r_21.frozen
    have lt_r := r_21.lt
    have cell_z := z_21.cell
    have froz_z := z_21.frozen
    have lt_z := z_21.lt
    go_wp2_with fail
    refine calls_forget0 (W := w21) ?_ ?_
    (focus (exact belBy))
    intro X22 hX22
    have sX22 := hX22.size
    refine (below_any 16 _ _ _ _ _ (by omega) (by omega) (show Cur _ _ _ _ _ from ⟨_, _, Blk.past hX22 cu_21, cu_i0, cu_i1⟩) ⟨cells_below bc_21 hX22 (by omega), bc_s.out, bc_l.out⟩).mono ?_
    clear cu_i0 cu_i1
    rintro e w22 ⟨x, rfl, x0, x1, ⟨i_22, h_22, cu_22, cu_i0, cu_i1⟩, hY22⟩
    have s22 := hY22.size
    have b_22 := below0_touch hY22 (b_21.trans (hX22.mono (by omega)))
    have T_22 := (T_21.trans (Touch.of_below hX22)).trans hY22
    have bc_22 := cells_touch hY22 (cells_below bc_21 hX22 (by omega)) (by omega) (by first | (simp; done) | (simp; omega))
    have r_22 := Blk.touch hY22 (Blk.past hX22 r_21) (by first | (simp; done) | (simp; omega))
    have z_22 := Blk.touch hY22 (Blk.past hX22 z_21) (by first | (simp; done) | (simp; omega))
    clear T_21 bc_21 cu_21 r_21 z_21 b_21 cell_cu froz_cu lt_cu cell_r froz_r lt_r cell_z froz_z lt_z hX22 hY22
    have cell_cu := cu_22.cell
    have froz_cu := cu_22.frozen
    have lt_cu := cu_22.lt
    have cell_r := r_22.cell
    have froz_r := r_22.frozen
    have lt_r := r_22.lt
    have cell_z := z_22.cell
    have froz_z := z_22.frozen
    have lt_z := z_22.lt
    have HX := hid (show 0 ≤ x ∧ x ≤ 15 by omega)
    go_wp2_with fail
    refine calls_touch1 (w0 := w22) (L := [w4.heap.size]) (b0 := w4.heap.size) (t0 := 45) (c0 := #[.int .i64 1, .int .i64 d, .int .i64 a, .int .i64 f, .int .i64 g, .int .i64 x]) ?_ ?_ ?_
    (focus exact blkcBy)
    (focus (exact tchBy))
    intro w23 z_23 hX23
    have sX23 := hX23.size
    have b_23 := below0_touch hX23 b_22
    have T_23 := T_22.trans_new hX23 (by first | (simp; done) | (simp; omega))
    have bc_23 := cells_touch hX23 bc_22 (by omega) (by first | (simp; done) | (simp; omega))
    have cu_23 := Blk.touch hX23 cu_22 (by first | (simp; done) | (simp; omega))
    have r_23 := Blk.touch hX23 r_22 (by first | (simp; done) | (simp; omega))
    clear T_22 bc_22 cu_22 r_22 z_22 b_22 cell_cu froz_cu lt_cu cell_r froz_r lt_r cell_z froz_z lt_z hX23
    have cell_cu := cu_23.cell
    have froz_cu := cu_23.frozen
    have lt_cu := cu_23.lt
    have cell_r := r_23.cell
    have froz_r := r_23.frozen
    have lt_r := r_23.lt
    have cell_z := z_23.cell
    have froz_z := z_23.frozen
    have lt_z := z_23.lt
    go_wp2_with fail
    refine calls_forget0 (W := w23) ?_ ?_
    (focus (exact belBy))
    intro X24 hX24
    have sX24 := hX24.size
    refine (plain1 _ _ _ _ _ _).mono ?_
    rintro e w24 ⟨rfl, hb24⟩
    have s24 := hb24.size
    have hT24 := hX24.trans (hb24.mono sX24)
    have b_24 := b_23.trans (hT24.mono (by omega))
    have T_24 := T_23.trans (Touch.of_below hT24)
    have bc_24 := cells_below bc_23 hT24 (by omega)
    have cu_24 := Blk.past hT24 cu_23
    have r_24 := Blk.past hT24 r_23
    have z_24 := Blk.past hT24 z_23
    clear T_23 bc_23 cu_23 r_23 z_23 b_23 cell_cu froz_cu lt_cu cell_r froz_r lt_r cell_z froz_z lt_z hX24 hT24 hb24
    have cell_cu := cu_24.cell
    have froz_cu := cu_24.frozen
    have lt_cu := cu_24.lt
    have cell_r := r_24.cell
    have froz_r := r_24.frozen
    have lt_r := r_24.lt
    have cell_z := z_24.cell
    have froz_z := z_24.frozen
    have lt_z := z_24.lt
    go_wp2_with fail
    ((try simp only [Exit.inBlock, Exit.then]); apply bodyPost_ret0; focus ((try simp only [results, Try.results83]); (try go_simp); (try rfl)))
    refine ⟨⟨1, d, 0, 0, 0, x⟩, pl1 HD.out HX.out, rfl, ?_, ?_⟩
    · exact Cur.touch (L := [w.heap.size]) ⟨_, _, cu_24, cu_i0, cu_i1⟩ (by exact tchBy) (by simp; omega)
    · exact T_24.trans_new (M := [w.heap.size]) (by exact tchBy) (by simp)
  · skip
    have b_20 := (Below.refl 0 w5)
    have s_20 := b_20.size
    have T_20 := T_5
    have bc_20 := bc_5
    clear bc_5
    have cu_20 := cu_5
    clear cu_5
    have cu_lt := cu_20.lt
    have cell_cu := cu_20.cell
    have froz_cu := cu_20.frozen
    have lt_cu := cu_20.lt
    have r_20 := r_5
    clear r_5
    have r_lt := r_20.lt
    have cell_r := r_20.cell
    have froz_r := r_20.frozen
    have lt_r := r_20.lt
    have z_20 := z_5
    clear z_5
    have z_lt := z_20.lt
    have cell_z := z_20.cell
    have froz_z := z_20.frozen
    have lt_z := z_20.lt
    go_wp2_with fail
    refine calls_touch1 (w0 := w5) (L := [w4.heap.size]) (b0 := w4.heap.size) (t0 := 45) (c0 := #[.int .i64 2, .int .i64 d, .int .i64 a, .int .i64 f, .int .i64 g, .int .i64 0]) ?_ ?_ ?_
    (focus exact blkcBy)
    (focus (exact tchBy))
    intro w21 z_21 hX21
    have sX21 := hX21.size
    have b_21 := below0_touch hX21 b_20
    have T_21 := T_20.trans_new hX21 (by first | (simp; done) | (simp; omega))
    have bc_21 := cells_touch hX21 bc_20 (by omega) (by first | (simp; done) | (simp; omega))
    have cu_21 := Blk.touch hX21 cu_20 (by first | (simp; done) | (simp; omega))
    have r_21 := Blk.touch hX21 r_20 (by first | (simp; done) | (simp; omega))
    clear T_20 bc_20 cu_20 r_20 z_20 b_20 cell_cu froz_cu lt_cu cell_r froz_r lt_r cell_z froz_z lt_z hX21
    have cell_cu := cu_21.cell
    have froz_cu := cu_21.frozen
    have lt_cu := cu_21.lt
    have cell_r := r_21.cell
    have froz_r := r_21.frozen
    have lt_r := r_21.lt
    have cell_z := z_21.cell
    have froz_z := z_21.frozen
    have lt_z := z_21.lt
    go_wp2_with fail
    refine calls_forget0 (W := w21) ?_ ?_
    (focus (exact belBy))
    intro X22 hX22
    have sX22 := hX22.size
    refine (below_any 3 _ _ _ _ _ (by omega) (by omega) (show Cur _ _ _ _ _ from ⟨_, _, Blk.past hX22 cu_21, cu_i0, cu_i1⟩) ⟨cells_below bc_21 hX22 (by omega), bc_s.out, bc_l.out⟩).mono ?_
    clear cu_i0 cu_i1
    rintro e w22 ⟨x, rfl, x0, x1, ⟨i_22, h_22, cu_22, cu_i0, cu_i1⟩, hY22⟩
    have s22 := hY22.size
    have b_22 := below0_touch hY22 (b_21.trans (hX22.mono (by omega)))
    have T_22 := (T_21.trans (Touch.of_below hX22)).trans hY22
    have bc_22 := cells_touch hY22 (cells_below bc_21 hX22 (by omega)) (by omega) (by first | (simp; done) | (simp; omega))
    have r_22 := Blk.touch hY22 (Blk.past hX22 r_21) (by first | (simp; done) | (simp; omega))
    have z_22 := Blk.touch hY22 (Blk.past hX22 z_21) (by first | (simp; done) | (simp; omega))
    clear T_21 bc_21 cu_21 r_21 z_21 b_21 cell_cu froz_cu lt_cu cell_r froz_r lt_r cell_z froz_z lt_z hX22 hY22
    have cell_cu := cu_22.cell
    have froz_cu := cu_22.frozen
    have lt_cu := cu_22.lt
    have cell_r := r_22.cell
    have froz_r := r_22.frozen
    have lt_r := r_22.lt
    have cell_z := z_22.cell
    have froz_z := z_22.frozen
    have lt_z := z_22.lt
    have HX := hid (show 0 ≤ x ∧ x ≤ 4 by omega)
    go_wp2_with fail
    refine calls_touch1 (w0 := w22) (L := [w4.heap.size]) (b0 := w4.heap.size) (t0 := 45) (c0 := #[.int .i64 2, .int .i64 d, .int .i64 x, .int .i64 f, .int .i64 g, .int .i64 0]) ?_ ?_ ?_
    (focus exact blkcBy)
    (focus (exact tchBy))
    intro w23 z_23 hX23
    have sX23 := hX23.size
    have b_23 := below0_touch hX23 b_22
    have T_23 := T_22.trans_new hX23 (by first | (simp; done) | (simp; omega))
    have bc_23 := cells_touch hX23 bc_22 (by omega) (by first | (simp; done) | (simp; omega))
    have cu_23 := Blk.touch hX23 cu_22 (by first | (simp; done) | (simp; omega))
    have r_23 := Blk.touch hX23 r_22 (by first | (simp; done) | (simp; omega))
    clear T_22 bc_22 cu_22 r_22 z_22 b_22 cell_cu froz_cu lt_cu cell_r froz_r lt_r cell_z froz_z lt_z hX23
    have cell_cu := cu_23.cell
    have froz_cu := cu_23.frozen
    have lt_cu := cu_23.lt
    have cell_r := r_23.cell
    have froz_r := r_23.frozen
    have lt_r := r_23.lt
    have cell_z := z_23.cell
    have froz_z := z_23.frozen
    have lt_z := z_23.lt
    go_wp2_with fail
    refine calls_forget0 (W := w23) ?_ ?_
    (focus (exact belBy))
    intro X24 hX24
    have sX24 := hX24.size
    refine (below_any 2 _ _ _ _ _ (by omega) (by omega) (show Cur _ _ _ _ _ from ⟨_, _, Blk.past hX24 cu_23, cu_i0, cu_i1⟩) ⟨cells_below bc_23 hX24 (by omega), bc_s.out, bc_l.out⟩).mono ?_
    clear cu_i0 cu_i1
    rintro e w24 ⟨y, rfl, y0, y1, ⟨i_24, h_24, cu_24, cu_i0, cu_i1⟩, hY24⟩
    have s24 := hY24.size
    have b_24 := below0_touch hY24 (b_23.trans (hX24.mono (by omega)))
    have T_24 := (T_23.trans (Touch.of_below hX24)).trans hY24
    have bc_24 := cells_touch hY24 (cells_below bc_23 hX24 (by omega)) (by omega) (by first | (simp; done) | (simp; omega))
    have r_24 := Blk.touch hY24 (Blk.past hX24 r_23) (by first | (simp; done) | (simp; omega))
    have z_24 := Blk.touch hY24 (Blk.past hX24 z_23) (by first | (simp; done) | (simp; omega))
    clear T_23 bc_23 cu_23 r_23 z_23 b_23 cell_cu froz_cu lt_cu cell_r froz_r lt_r cell_z froz_z lt_z hX24 hY24
    have cell_cu := cu_24.cell
    have froz_cu := cu_24.frozen
    have lt_cu := cu_24.lt
    have cell_r := r_24.cell
    have froz_r := r_24.frozen
    have lt_r := r_24.lt
    have cell_z := z_24.cell
    have froz_z := z_24.frozen
    have lt_z := z_24.lt
    have HY := hid (show 0 ≤ y ∧ y ≤ 3 by omega)
    go_wp2_with fail
    refine calls_touch1 (w0 := w24) (L := [w4.heap.size]) (b0 := w4.heap.size) (t0 := 45) (c0 := #[.int .i64 2, .int .i64 d, .int .i64 x, .int .i64 f, .int .i64 g, .int .i64 y]) ?_ ?_ ?_
    (focus exact blkcBy)
    (focus (exact tchBy))
    intro w25 z_25 hX25
    have sX25 := hX25.size
    have b_25 := below0_touch hX25 b_24
    have T_25 := T_24.trans_new hX25 (by first | (simp; done) | (simp; omega))
    have bc_25 := cells_touch hX25 bc_24 (by omega) (by first | (simp; done) | (simp; omega))
    have cu_25 := Blk.touch hX25 cu_24 (by first | (simp; done) | (simp; omega))
    have r_25 := Blk.touch hX25 r_24 (by first | (simp; done) | (simp; omega))
    clear T_24 bc_24 cu_24 r_24 z_24 b_24 cell_cu froz_cu lt_cu cell_r froz_r lt_r cell_z froz_z lt_z hX25
    have cell_cu := cu_25.cell
    have froz_cu := cu_25.frozen
    have lt_cu := cu_25.lt
    have cell_r := r_25.cell
    have froz_r := r_25.frozen
    have lt_r := r_25.lt
    have cell_z := z_25.cell
    have froz_z := z_25.frozen
    have lt_z := z_25.lt
    go_wp2_with fail
    refine calls_forget0 (W := w25) ?_ ?_
    (focus (exact belBy))
    intro X26 hX26
    have sX26 := hX26.size
    refine (plain2 _ _ _ _ _ _).mono ?_
    rintro e w26 ⟨rfl, hb26⟩
    have s26 := hb26.size
    have hT26 := hX26.trans (hb26.mono sX26)
    have b_26 := b_25.trans (hT26.mono (by omega))
    have T_26 := T_25.trans (Touch.of_below hT26)
    have bc_26 := cells_below bc_25 hT26 (by omega)
    have cu_26 := Blk.past hT26 cu_25
    have r_26 := Blk.past hT26 r_25
    have z_26 := Blk.past hT26 z_25
    clear T_25 bc_25 cu_25 r_25 z_25 b_25 cell_cu froz_cu lt_cu cell_r froz_r lt_r cell_z froz_z lt_z hX26 hT26 hb26
    have cell_cu := cu_26.cell
    have froz_cu := cu_26.frozen
    have lt_cu := cu_26.lt
    have cell_r := r_26.cell
    have froz_r := r_26.frozen
    have lt_r := r_26.lt
    have cell_z := z_26.cell
    have froz_z := z_26.frozen
    have lt_z := z_26.lt
    go_wp2_with fail
    ((try simp only [Exit.inBlock, Exit.then]); apply bodyPost_ret0; focus ((try simp only [results, Try.results83]); (try go_simp); (try rfl)))
    refine ⟨⟨2, d, x, 0, 0, y⟩, pl2 HD.out HX.out HY.out, rfl, ?_, ?_⟩
    · exact Cur.touch (L := [w.heap.size]) ⟨_, _, cu_26, cu_i0, cu_i1⟩ (by exact tchBy) (by simp; omega)
    · exact T_26.trans_new (M := [w.heap.size]) (by exact tchBy) (by simp)
  · skip
    have b_20 := (Below.refl 0 w5)
    have s_20 := b_20.size
    have T_20 := T_5
    have bc_20 := bc_5
    clear bc_5
    have cu_20 := cu_5
    clear cu_5
    have cu_lt := cu_20.lt
    have cell_cu := cu_20.cell
    have froz_cu := cu_20.frozen
    have lt_cu := cu_20.lt
    have r_20 := r_5
    clear r_5
    have r_lt := r_20.lt
    have cell_r := r_20.cell
    have froz_r := r_20.frozen
    have lt_r := r_20.lt
    have z_20 := z_5
    clear z_5
    have z_lt := z_20.lt
    have cell_z := z_20.cell
    have froz_z := z_20.frozen
    have lt_z := z_20.lt
    go_wp2_with fail
    refine calls_touch1 (w0 := w5) (L := [w4.heap.size]) (b0 := w4.heap.size) (t0 := 45) (c0 := #[.int .i64 2, .int .i64 d, .int .i64 a, .int .i64 f, .int .i64 g, .int .i64 0]) ?_ ?_ ?_
    (focus exact blkcBy)
    (focus (exact tchBy))
    intro w21 z_21 hX21
    have sX21 := hX21.size
    have b_21 := below0_touch hX21 b_20
    have T_21 := T_20.trans_new hX21 (by first | (simp; done) | (simp; omega))
    have bc_21 := cells_touch hX21 bc_20 (by omega) (by first | (simp; done) | (simp; omega))
    have cu_21 := Blk.touch hX21 cu_20 (by first | (simp; done) | (simp; omega))
    have r_21 := Blk.touch hX21 r_20 (by first | (simp; done) | (simp; omega))
    clear T_20 bc_20 cu_20 r_20 z_20 b_20 cell_cu froz_cu lt_cu cell_r froz_r lt_r cell_z froz_z lt_z hX21
    have cell_cu := cu_21.cell
    have froz_cu := cu_21.frozen
    have lt_cu := cu_21.lt
    have cell_r := r_21.cell
    have froz_r := r_21.frozen
    have lt_r := r_21.lt
    have cell_z := z_21.cell
    have froz_z := z_21.frozen
    have lt_z := z_21.lt
    go_wp2_with fail
    refine calls_forget0 (W := w21) ?_ ?_
    (focus (exact belBy))
    intro X22 hX22
    have sX22 := hX22.size
    refine (below_any 3 _ _ _ _ _ (by omega) (by omega) (show Cur _ _ _ _ _ from ⟨_, _, Blk.past hX22 cu_21, cu_i0, cu_i1⟩) ⟨cells_below bc_21 hX22 (by omega), bc_s.out, bc_l.out⟩).mono ?_
    clear cu_i0 cu_i1
    rintro e w22 ⟨x, rfl, x0, x1, ⟨i_22, h_22, cu_22, cu_i0, cu_i1⟩, hY22⟩
    have s22 := hY22.size
    have b_22 := below0_touch hY22 (b_21.trans (hX22.mono (by omega)))
    have T_22 := (T_21.trans (Touch.of_below hX22)).trans hY22
    have bc_22 := cells_touch hY22 (cells_below bc_21 hX22 (by omega)) (by omega) (by first | (simp; done) | (simp; omega))
    have r_22 := Blk.touch hY22 (Blk.past hX22 r_21) (by first | (simp; done) | (simp; omega))
    have z_22 := Blk.touch hY22 (Blk.past hX22 z_21) (by first | (simp; done) | (simp; omega))
    clear T_21 bc_21 cu_21 r_21 z_21 b_21 cell_cu froz_cu lt_cu cell_r froz_r lt_r cell_z froz_z lt_z hX22 hY22
    have cell_cu := cu_22.cell
    have froz_cu := cu_22.frozen
    have lt_cu := cu_22.lt
    have cell_r := r_22.cell
    have froz_r := r_22.frozen
    have lt_r := r_22.lt
    have cell_z := z_22.cell
    have froz_z := z_22.frozen
    have lt_z := z_22.lt
    have HX := hid (show 0 ≤ x ∧ x ≤ 4 by omega)
    go_wp2_with fail
    refine calls_touch1 (w0 := w22) (L := [w4.heap.size]) (b0 := w4.heap.size) (t0 := 45) (c0 := #[.int .i64 2, .int .i64 d, .int .i64 x, .int .i64 f, .int .i64 g, .int .i64 0]) ?_ ?_ ?_
    (focus exact blkcBy)
    (focus (exact tchBy))
    intro w23 z_23 hX23
    have sX23 := hX23.size
    have b_23 := below0_touch hX23 b_22
    have T_23 := T_22.trans_new hX23 (by first | (simp; done) | (simp; omega))
    have bc_23 := cells_touch hX23 bc_22 (by omega) (by first | (simp; done) | (simp; omega))
    have cu_23 := Blk.touch hX23 cu_22 (by first | (simp; done) | (simp; omega))
    have r_23 := Blk.touch hX23 r_22 (by first | (simp; done) | (simp; omega))
    clear T_22 bc_22 cu_22 r_22 z_22 b_22 cell_cu froz_cu lt_cu cell_r froz_r lt_r cell_z froz_z lt_z hX23
    have cell_cu := cu_23.cell
    have froz_cu := cu_23.frozen
    have lt_cu := cu_23.lt
    have cell_r := r_23.cell
    have froz_r := r_23.frozen
    have lt_r := r_23.lt
    have cell_z := z_23.cell
    have froz_z := z_23.frozen
    have lt_z := z_23.lt
    go_wp2_with fail
    refine calls_forget0 (W := w23) ?_ ?_
    (focus (exact belBy))
    intro X24 hX24
    have sX24 := hX24.size
    refine (below_any 2 _ _ _ _ _ (by omega) (by omega) (show Cur _ _ _ _ _ from ⟨_, _, Blk.past hX24 cu_23, cu_i0, cu_i1⟩) ⟨cells_below bc_23 hX24 (by omega), bc_s.out, bc_l.out⟩).mono ?_
    clear cu_i0 cu_i1
    rintro e w24 ⟨y, rfl, y0, y1, ⟨i_24, h_24, cu_24, cu_i0, cu_i1⟩, hY24⟩
    have s24 := hY24.size
    have b_24 := below0_touch hY24 (b_23.trans (hX24.mono (by omega)))
    have T_24 := (T_23.trans (Touch.of_below hX24)).trans hY24
    have bc_24 := cells_touch hY24 (cells_below bc_23 hX24 (by omega)) (by omega) (by first | (simp; done) | (simp; omega))
    have r_24 := Blk.touch hY24 (Blk.past hX24 r_23) (by first | (simp; done) | (simp; omega))
    have z_24 := Blk.touch hY24 (Blk.past hX24 z_23) (by first | (simp; done) | (simp; omega))
    clear T_23 bc_23 cu_23 r_23 z_23 b_23 cell_cu froz_cu lt_cu cell_r froz_r lt_r cell_z froz_z lt_z hX24 hY24
    have cell_cu := cu_24.cell
    have froz_cu := cu_24.frozen
    have lt_cu := cu_24.lt
    have cell_r := r_24.cell
    have froz_r := r_24.frozen
    have lt_r := r_24.lt
    have cell_z := z_24.cell
    have froz_z := z_24.frozen
    have lt_z := z_24.lt
    have HY := hid (show 0 ≤ y ∧ y ≤ 3 by omega)
    go_wp2_with fail
    refine calls_touch1 (w0 := w24) (L := [w4.heap.size]) (b0 := w4.heap.size) (t0 := 45) (c0 := #[.int .i64 2, .int .i64 d, .int .i64 x, .int .i64 f, .int .i64 g, .int .i64 y]) ?_ ?_ ?_
    (focus exact blkcBy)
    (focus (exact tchBy))
    intro w25 z_25 hX25
    have sX25 := hX25.size
    have b_25 := below0_touch hX25 b_24
    have T_25 := T_24.trans_new hX25 (by first | (simp; done) | (simp; omega))
    have bc_25 := cells_touch hX25 bc_24 (by omega) (by first | (simp; done) | (simp; omega))
    have cu_25 := Blk.touch hX25 cu_24 (by first | (simp; done) | (simp; omega))
    have r_25 := Blk.touch hX25 r_24 (by first | (simp; done) | (simp; omega))
    clear T_24 bc_24 cu_24 r_24 z_24 b_24 cell_cu froz_cu lt_cu cell_r froz_r lt_r cell_z froz_z lt_z hX25
    have cell_cu := cu_25.cell
    have froz_cu := cu_25.frozen
    have lt_cu := cu_25.lt
    have cell_r := r_25.cell
    have froz_r := r_25.frozen
    have lt_r := r_25.lt
    have cell_z := z_25.cell
    have froz_z := z_25.frozen
    have lt_z := z_25.lt
    go_wp2_with fail
    refine calls_forget0 (W := w25) ?_ ?_
    (focus (exact belBy))
    intro X26 hX26
    have sX26 := hX26.size
    refine (plain2 _ _ _ _ _ _).mono ?_
    rintro e w26 ⟨rfl, hb26⟩
    have s26 := hb26.size
    have hT26 := hX26.trans (hb26.mono sX26)
    have b_26 := b_25.trans (hT26.mono (by omega))
    have T_26 := T_25.trans (Touch.of_below hT26)
    have bc_26 := cells_below bc_25 hT26 (by omega)
    have cu_26 := Blk.past hT26 cu_25
    have r_26 := Blk.past hT26 r_25
    have z_26 := Blk.past hT26 z_25
    clear T_25 bc_25 cu_25 r_25 z_25 b_25 cell_cu froz_cu lt_cu cell_r froz_r lt_r cell_z froz_z lt_z hX26 hT26 hb26
    have cell_cu := cu_26.cell
    have froz_cu := cu_26.frozen
    have lt_cu := cu_26.lt
    have cell_r := r_26.cell
    have froz_r := r_26.frozen
    have lt_r := r_26.lt
    have cell_z := z_26.cell
    have froz_z := z_26.frozen
    have lt_z := z_26.lt
    go_wp2_with fail
    ((try simp only [Exit.inBlock, Exit.then]); apply bodyPost_ret0; focus ((try simp only [results, Try.results83]); (try go_simp); (try rfl)))
    refine ⟨⟨2, d, x, 0, 0, y⟩, pl2 HD.out HX.out HY.out, rfl, ?_, ?_⟩
    · exact Cur.touch (L := [w.heap.size]) ⟨_, _, cu_26, cu_i0, cu_i1⟩ (by exact tchBy) (by simp; omega)
    · exact T_26.trans_new (M := [w.heap.size]) (by exact tchBy) (by simp)
  · skip
    have b_20 := (Below.refl 0 w5)
    have s_20 := b_20.size
    have T_20 := T_5
    have bc_20 := bc_5
    clear bc_5
    have cu_20 := cu_5
    clear cu_5
    have cu_lt := cu_20.lt
    have cell_cu := cu_20.cell
    have froz_cu := cu_20.frozen
    have lt_cu := cu_20.lt
    have r_20 := r_5
    clear r_5
    have r_lt := r_20.lt
    have cell_r := r_20.cell
    have froz_r := r_20.frozen
    have lt_r := r_20.lt
    have z_20 := z_5
    clear z_5
    have z_lt := z_20.lt
    have cell_z := z_20.cell
    have froz_z := z_20.frozen
    have lt_z := z_20.lt
    go_wp2_with fail
    refine calls_touch1 (w0 := w5) (L := [w4.heap.size]) (b0 := w4.heap.size) (t0 := 45) (c0 := #[.int .i64 2, .int .i64 d, .int .i64 a, .int .i64 f, .int .i64 g, .int .i64 0]) ?_ ?_ ?_
    (focus exact blkcBy)
    (focus (exact tchBy))
    intro w21 z_21 hX21
    have sX21 := hX21.size
    have b_21 := below0_touch hX21 b_20
    have T_21 := T_20.trans_new hX21 (by first | (simp; done) | (simp; omega))
    have bc_21 := cells_touch hX21 bc_20 (by omega) (by first | (simp; done) | (simp; omega))
    have cu_21 := Blk.touch hX21 cu_20 (by first | (simp; done) | (simp; omega))
    have r_21 := Blk.touch hX21 r_20 (by first | (simp; done) | (simp; omega))
    clear T_20 bc_20 cu_20 r_20 z_20 b_20 cell_cu froz_cu lt_cu cell_r froz_r lt_r cell_z froz_z lt_z hX21
    have cell_cu := cu_21.cell
    have froz_cu := cu_21.frozen
    have lt_cu := cu_21.lt
    have cell_r := r_21.cell
    have froz_r := r_21.frozen
    have lt_r := r_21.lt
    have cell_z := z_21.cell
    have froz_z := z_21.frozen
    have lt_z := z_21.lt
    go_wp2_with fail
    refine calls_forget0 (W := w21) ?_ ?_
    (focus (exact belBy))
    intro X22 hX22
    have sX22 := hX22.size
    refine (below_any 3 _ _ _ _ _ (by omega) (by omega) (show Cur _ _ _ _ _ from ⟨_, _, Blk.past hX22 cu_21, cu_i0, cu_i1⟩) ⟨cells_below bc_21 hX22 (by omega), bc_s.out, bc_l.out⟩).mono ?_
    clear cu_i0 cu_i1
    rintro e w22 ⟨x, rfl, x0, x1, ⟨i_22, h_22, cu_22, cu_i0, cu_i1⟩, hY22⟩
    have s22 := hY22.size
    have b_22 := below0_touch hY22 (b_21.trans (hX22.mono (by omega)))
    have T_22 := (T_21.trans (Touch.of_below hX22)).trans hY22
    have bc_22 := cells_touch hY22 (cells_below bc_21 hX22 (by omega)) (by omega) (by first | (simp; done) | (simp; omega))
    have r_22 := Blk.touch hY22 (Blk.past hX22 r_21) (by first | (simp; done) | (simp; omega))
    have z_22 := Blk.touch hY22 (Blk.past hX22 z_21) (by first | (simp; done) | (simp; omega))
    clear T_21 bc_21 cu_21 r_21 z_21 b_21 cell_cu froz_cu lt_cu cell_r froz_r lt_r cell_z froz_z lt_z hX22 hY22
    have cell_cu := cu_22.cell
    have froz_cu := cu_22.frozen
    have lt_cu := cu_22.lt
    have cell_r := r_22.cell
    have froz_r := r_22.frozen
    have lt_r := r_22.lt
    have cell_z := z_22.cell
    have froz_z := z_22.frozen
    have lt_z := z_22.lt
    have HX := hid (show 0 ≤ x ∧ x ≤ 4 by omega)
    go_wp2_with fail
    refine calls_touch1 (w0 := w22) (L := [w4.heap.size]) (b0 := w4.heap.size) (t0 := 45) (c0 := #[.int .i64 2, .int .i64 d, .int .i64 x, .int .i64 f, .int .i64 g, .int .i64 0]) ?_ ?_ ?_
    (focus exact blkcBy)
    (focus (exact tchBy))
    intro w23 z_23 hX23
    have sX23 := hX23.size
    have b_23 := below0_touch hX23 b_22
    have T_23 := T_22.trans_new hX23 (by first | (simp; done) | (simp; omega))
    have bc_23 := cells_touch hX23 bc_22 (by omega) (by first | (simp; done) | (simp; omega))
    have cu_23 := Blk.touch hX23 cu_22 (by first | (simp; done) | (simp; omega))
    have r_23 := Blk.touch hX23 r_22 (by first | (simp; done) | (simp; omega))
    clear T_22 bc_22 cu_22 r_22 z_22 b_22 cell_cu froz_cu lt_cu cell_r froz_r lt_r cell_z froz_z lt_z hX23
    have cell_cu := cu_23.cell
    have froz_cu := cu_23.frozen
    have lt_cu := cu_23.lt
    have cell_r := r_23.cell
    have froz_r := r_23.frozen
    have lt_r := r_23.lt
    have cell_z := z_23.cell
    have froz_z := z_23.frozen
    have lt_z := z_23.lt
    go_wp2_with fail
    refine calls_forget0 (W := w23) ?_ ?_
    (focus (exact belBy))
    intro X24 hX24
    have sX24 := hX24.size
    refine (below_any 2 _ _ _ _ _ (by omega) (by omega) (show Cur _ _ _ _ _ from ⟨_, _, Blk.past hX24 cu_23, cu_i0, cu_i1⟩) ⟨cells_below bc_23 hX24 (by omega), bc_s.out, bc_l.out⟩).mono ?_
    clear cu_i0 cu_i1
    rintro e w24 ⟨y, rfl, y0, y1, ⟨i_24, h_24, cu_24, cu_i0, cu_i1⟩, hY24⟩
    have s24 := hY24.size
    have b_24 := below0_touch hY24 (b_23.trans (hX24.mono (by omega)))
    have T_24 := (T_23.trans (Touch.of_below hX24)).trans hY24
    have bc_24 := cells_touch hY24 (cells_below bc_23 hX24 (by omega)) (by omega) (by first | (simp; done) | (simp; omega))
    have r_24 := Blk.touch hY24 (Blk.past hX24 r_23) (by first | (simp; done) | (simp; omega))
    have z_24 := Blk.touch hY24 (Blk.past hX24 z_23) (by first | (simp; done) | (simp; omega))
    clear T_23 bc_23 cu_23 r_23 z_23 b_23 cell_cu froz_cu lt_cu cell_r froz_r lt_r cell_z froz_z lt_z hX24 hY24
    have cell_cu := cu_24.cell
    have froz_cu := cu_24.frozen
    have lt_cu := cu_24.lt
    have cell_r := r_24.cell
    have froz_r := r_24.frozen
    have lt_r := r_24.lt
    have cell_z := z_24.cell
    have froz_z := z_24.frozen
    have lt_z := z_24.lt
    have HY := hid (show 0 ≤ y ∧ y ≤ 3 by omega)
    go_wp2_with fail
    refine calls_touch1 (w0 := w24) (L := [w4.heap.size]) (b0 := w4.heap.size) (t0 := 45) (c0 := #[.int .i64 2, .int .i64 d, .int .i64 x, .int .i64 f, .int .i64 g, .int .i64 y]) ?_ ?_ ?_
    (focus exact blkcBy)
    (focus (exact tchBy))
    intro w25 z_25 hX25
    have sX25 := hX25.size
    have b_25 := below0_touch hX25 b_24
    have T_25 := T_24.trans_new hX25 (by first | (simp; done) | (simp; omega))
    have bc_25 := cells_touch hX25 bc_24 (by omega) (by first | (simp; done) | (simp; omega))
    have cu_25 := Blk.touch hX25 cu_24 (by first | (simp; done) | (simp; omega))
    have r_25 := Blk.touch hX25 r_24 (by first | (simp; done) | (simp; omega))
    clear T_24 bc_24 cu_24 r_24 z_24 b_24 cell_cu froz_cu lt_cu cell_r froz_r lt_r cell_z froz_z lt_z hX25
    have cell_cu := cu_25.cell
    have froz_cu := cu_25.frozen
    have lt_cu := cu_25.lt
    have cell_r := r_25.cell
    have froz_r := r_25.frozen
    have lt_r := r_25.lt
    have cell_z := z_25.cell
    have froz_z := z_25.frozen
    have lt_z := z_25.lt
    go_wp2_with fail
    refine calls_forget0 (W := w25) ?_ ?_
    (focus (exact belBy))
    intro X26 hX26
    have sX26 := hX26.size
    refine (plain2 _ _ _ _ _ _).mono ?_
    rintro e w26 ⟨rfl, hb26⟩
    have s26 := hb26.size
    have hT26 := hX26.trans (hb26.mono sX26)
    have b_26 := b_25.trans (hT26.mono (by omega))
    have T_26 := T_25.trans (Touch.of_below hT26)
    have bc_26 := cells_below bc_25 hT26 (by omega)
    have cu_26 := Blk.past hT26 cu_25
    have r_26 := Blk.past hT26 r_25
    have z_26 := Blk.past hT26 z_25
    clear T_25 bc_25 cu_25 r_25 z_25 b_25 cell_cu froz_cu lt_cu cell_r froz_r lt_r cell_z froz_z lt_z hX26 hT26 hb26
    have cell_cu := cu_26.cell
    have froz_cu := cu_26.frozen
    have lt_cu := cu_26.lt
    have cell_r := r_26.cell
    have froz_r := r_26.frozen
    have lt_r := r_26.lt
    have cell_z := z_26.cell
    have froz_z := z_26.frozen
    have lt_z := z_26.lt
    go_wp2_with fail
    ((try simp only [Exit.inBlock, Exit.then]); apply bodyPost_ret0; focus ((try simp only [results, Try.results83]); (try go_simp); (try rfl)))
    refine ⟨⟨2, d, x, 0, 0, y⟩, pl2 HD.out HX.out HY.out, rfl, ?_, ?_⟩
    · exact Cur.touch (L := [w.heap.size]) ⟨_, _, cu_26, cu_i0, cu_i1⟩ (by exact tchBy) (by simp; omega)
    · exact T_26.trans_new (M := [w.heap.size]) (by exact tchBy) (by simp)
  · skip
    have b_20 := (Below.refl 0 w5)
    have s_20 := b_20.size
    have T_20 := T_5
    have bc_20 := bc_5
    clear bc_5
    have cu_20 := cu_5
    clear cu_5
    have cu_lt := cu_20.lt
    have cell_cu := cu_20.cell
    have froz_cu := cu_20.frozen
    have lt_cu := cu_20.lt
    have r_20 := r_5
    clear r_5
    have r_lt := r_20.lt
    have cell_r := r_20.cell
    have froz_r := r_20.frozen
    have lt_r := r_20.lt
    have z_20 := z_5
    clear z_5
    have z_lt := z_20.lt
    have cell_z := z_20.cell
    have froz_z := z_20.frozen
    have lt_z := z_20.lt
    go_wp2_with fail
    refine calls_touch1 (w0 := w5) (L := [w4.heap.size]) (b0 := w4.heap.size) (t0 := 45) (c0 := #[.int .i64 10, .int .i64 d, .int .i64 a, .int .i64 f, .int .i64 g, .int .i64 0]) ?_ ?_ ?_
    (focus exact blkcBy)
    (focus (exact tchBy))
    intro w21 z_21 hX21
    have sX21 := hX21.size
    have b_21 := below0_touch hX21 b_20
    have T_21 := T_20.trans_new hX21 (by first | (simp; done) | (simp; omega))
    have bc_21 := cells_touch hX21 bc_20 (by omega) (by first | (simp; done) | (simp; omega))
    have cu_21 := Blk.touch hX21 cu_20 (by first | (simp; done) | (simp; omega))
    have r_21 := Blk.touch hX21 r_20 (by first | (simp; done) | (simp; omega))
    clear T_20 bc_20 cu_20 r_20 z_20 b_20 cell_cu froz_cu lt_cu cell_r froz_r lt_r cell_z froz_z lt_z hX21
    have cell_cu := cu_21.cell
    have froz_cu := cu_21.frozen
    have lt_cu := cu_21.lt
    have cell_r := r_21.cell
    have froz_r := r_21.frozen
    have lt_r := r_21.lt
    have cell_z := z_21.cell
    have froz_z := z_21.frozen
    have lt_z := z_21.lt
    go_wp2_with fail
    refine calls_forget0 (W := w21) ?_ ?_
    (focus (exact belBy))
    intro X22 hX22
    have sX22 := hX22.size
    refine (plain10 _ _ _ _ _ _).mono ?_
    rintro e w22 ⟨rfl, hb22⟩
    have s22 := hb22.size
    have hT22 := hX22.trans (hb22.mono sX22)
    have b_22 := b_21.trans (hT22.mono (by omega))
    have T_22 := T_21.trans (Touch.of_below hT22)
    have bc_22 := cells_below bc_21 hT22 (by omega)
    have cu_22 := Blk.past hT22 cu_21
    have r_22 := Blk.past hT22 r_21
    have z_22 := Blk.past hT22 z_21
    clear T_21 bc_21 cu_21 r_21 z_21 b_21 cell_cu froz_cu lt_cu cell_r froz_r lt_r cell_z froz_z lt_z hX22 hT22 hb22
    have cell_cu := cu_22.cell
    have froz_cu := cu_22.frozen
    have lt_cu := cu_22.lt
    have cell_r := r_22.cell
    have froz_r := r_22.frozen
    have lt_r := r_22.lt
    have cell_z := z_22.cell
    have froz_z := z_22.frozen
    have lt_z := z_22.lt
    go_wp2_with fail
    ((try simp only [Exit.inBlock, Exit.then]); apply bodyPost_ret0; focus ((try simp only [results, Try.results83]); (try go_simp); (try rfl)))
    refine ⟨⟨10, d, a, f, g, 0⟩, pl10 HD.out HA.out HF.out HG.out, rfl, ?_, ?_⟩
    · exact Cur.touch (L := [w.heap.size]) ⟨_, _, cu_22, cu_i0, cu_i1⟩ (by exact tchBy) (by simp; omega)
    · exact T_22.trans_new (M := [w.heap.size]) (by exact tchBy) (by simp)
  · skip
    have b_20 := (Below.refl 0 w5)
    have s_20 := b_20.size
    have T_20 := T_5
    have bc_20 := bc_5
    clear bc_5
    have cu_20 := cu_5
    clear cu_5
    have cu_lt := cu_20.lt
    have cell_cu := cu_20.cell
    have froz_cu := cu_20.frozen
    have lt_cu := cu_20.lt
    have r_20 := r_5
    clear r_5
    have r_lt := r_20.lt
    have cell_r := r_20.cell
    have froz_r := r_20.frozen
    have lt_r := r_20.lt
    have z_20 := z_5
    clear z_5
    have z_lt := z_20.lt
    have cell_z := z_20.cell
    have froz_z := z_20.frozen
    have lt_z := z_20.lt
    go_wp2_with fail
    refine calls_touch1 (w0 := w5) (L := [w4.heap.size]) (b0 := w4.heap.size) (t0 := 45) (c0 := #[.int .i64 11, .int .i64 d, .int .i64 a, .int .i64 f, .int .i64 g, .int .i64 0]) ?_ ?_ ?_
    (focus exact blkcBy)
    (focus (exact tchBy))
    intro w21 z_21 hX21
    have sX21 := hX21.size
    have b_21 := below0_touch hX21 b_20
    have T_21 := T_20.trans_new hX21 (by first | (simp; done) | (simp; omega))
    have bc_21 := cells_touch hX21 bc_20 (by omega) (by first | (simp; done) | (simp; omega))
    have cu_21 := Blk.touch hX21 cu_20 (by first | (simp; done) | (simp; omega))
    have r_21 := Blk.touch hX21 r_20 (by first | (simp; done) | (simp; omega))
    clear T_20 bc_20 cu_20 r_20 z_20 b_20 cell_cu froz_cu lt_cu cell_r froz_r lt_r cell_z froz_z lt_z hX21
    have cell_cu := cu_21.cell
    have froz_cu := cu_21.frozen
    have lt_cu := cu_21.lt
    have cell_r := r_21.cell
    have froz_r := r_21.frozen
    have lt_r := r_21.lt
    have cell_z := z_21.cell
    have froz_z := z_21.frozen
    have lt_z := z_21.lt
    go_wp2_with fail
    refine calls_forget0 (W := w21) ?_ ?_
    (focus (exact belBy))
    intro X22 hX22
    have sX22 := hX22.size
    refine (plain11 _ _ _ _ _ _).mono ?_
    rintro e w22 ⟨rfl, hb22⟩
    have s22 := hb22.size
    have hT22 := hX22.trans (hb22.mono sX22)
    have b_22 := b_21.trans (hT22.mono (by omega))
    have T_22 := T_21.trans (Touch.of_below hT22)
    have bc_22 := cells_below bc_21 hT22 (by omega)
    have cu_22 := Blk.past hT22 cu_21
    have r_22 := Blk.past hT22 r_21
    have z_22 := Blk.past hT22 z_21
    clear T_21 bc_21 cu_21 r_21 z_21 b_21 cell_cu froz_cu lt_cu cell_r froz_r lt_r cell_z froz_z lt_z hX22 hT22 hb22
    have cell_cu := cu_22.cell
    have froz_cu := cu_22.frozen
    have lt_cu := cu_22.lt
    have cell_r := r_22.cell
    have froz_r := r_22.frozen
    have lt_r := r_22.lt
    have cell_z := z_22.cell
    have froz_z := z_22.frozen
    have lt_z := z_22.lt
    go_wp2_with fail
    ((try simp only [Exit.inBlock, Exit.then]); apply bodyPost_ret0; focus ((try simp only [results, Try.results83]); (try go_simp); (try rfl)))
    refine ⟨⟨11, 0, a, 0, 0, 0⟩, pl11 HA.out, rfl, ?_, ?_⟩
    · exact Cur.touch (L := [w.heap.size]) ⟨_, _, cu_22, cu_i0, cu_i1⟩ (by exact tchBy) (by simp; omega)
    · exact T_22.trans_new (M := [w.heap.size]) (by exact tchBy) (by simp)
  · skip
    have b_20 := (Below.refl 0 w5)
    have s_20 := b_20.size
    have T_20 := T_5
    have bc_20 := bc_5
    clear bc_5
    have cu_20 := cu_5
    clear cu_5
    have cu_lt := cu_20.lt
    have cell_cu := cu_20.cell
    have froz_cu := cu_20.frozen
    have lt_cu := cu_20.lt
    have r_20 := r_5
    clear r_5
    have r_lt := r_20.lt
    have cell_r := r_20.cell
    have froz_r := r_20.frozen
    have lt_r := r_20.lt
    have z_20 := z_5
    clear z_5
    have z_lt := z_20.lt
    have cell_z := z_20.cell
    have froz_z := z_20.frozen
    have lt_z := z_20.lt
    go_wp2_with fail
    refine calls_touch1 (w0 := w5) (L := [w4.heap.size]) (b0 := w4.heap.size) (t0 := 45) (c0 := #[.int .i64 11, .int .i64 d, .int .i64 a, .int .i64 f, .int .i64 g, .int .i64 0]) ?_ ?_ ?_
    (focus exact blkcBy)
    (focus (exact tchBy))
    intro w21 z_21 hX21
    have sX21 := hX21.size
    have b_21 := below0_touch hX21 b_20
    have T_21 := T_20.trans_new hX21 (by first | (simp; done) | (simp; omega))
    have bc_21 := cells_touch hX21 bc_20 (by omega) (by first | (simp; done) | (simp; omega))
    have cu_21 := Blk.touch hX21 cu_20 (by first | (simp; done) | (simp; omega))
    have r_21 := Blk.touch hX21 r_20 (by first | (simp; done) | (simp; omega))
    clear T_20 bc_20 cu_20 r_20 z_20 b_20 cell_cu froz_cu lt_cu cell_r froz_r lt_r cell_z froz_z lt_z hX21
    have cell_cu := cu_21.cell
    have froz_cu := cu_21.frozen
    have lt_cu := cu_21.lt
    have cell_r := r_21.cell
    have froz_r := r_21.frozen
    have lt_r := r_21.lt
    have cell_z := z_21.cell
    have froz_z := z_21.frozen
    have lt_z := z_21.lt
    go_wp2_with fail
    refine calls_forget0 (W := w21) ?_ ?_
    (focus (exact belBy))
    intro X22 hX22
    have sX22 := hX22.size
    refine (plain11 _ _ _ _ _ _).mono ?_
    rintro e w22 ⟨rfl, hb22⟩
    have s22 := hb22.size
    have hT22 := hX22.trans (hb22.mono sX22)
    have b_22 := b_21.trans (hT22.mono (by omega))
    have T_22 := T_21.trans (Touch.of_below hT22)
    have bc_22 := cells_below bc_21 hT22 (by omega)
    have cu_22 := Blk.past hT22 cu_21
    have r_22 := Blk.past hT22 r_21
    have z_22 := Blk.past hT22 z_21
    clear T_21 bc_21 cu_21 r_21 z_21 b_21 cell_cu froz_cu lt_cu cell_r froz_r lt_r cell_z froz_z lt_z hX22 hT22 hb22
    have cell_cu := cu_22.cell
    have froz_cu := cu_22.frozen
    have lt_cu := cu_22.lt
    have cell_r := r_22.cell
    have froz_r := r_22.frozen
    have lt_r := r_22.lt
    have cell_z := z_22.cell
    have froz_z := z_22.frozen
    have lt_z := z_22.lt
    go_wp2_with fail
    ((try simp only [Exit.inBlock, Exit.then]); apply bodyPost_ret0; focus ((try simp only [results, Try.results83]); (try go_simp); (try rfl)))
    refine ⟨⟨11, 0, a, 0, 0, 0⟩, pl11 HA.out, rfl, ?_, ?_⟩
    · exact Cur.touch (L := [w.heap.size]) ⟨_, _, cu_22, cu_i0, cu_i1⟩ (by exact tchBy) (by simp; omega)
    · exact T_22.trans_new (M := [w.heap.size]) (by exact tchBy) (by simp)
  · skip
    have t0 : (q == 0) = false := by simp; omega
    have t1 : (q == 1) = false := by simp; omega
    have t2 : (q == 2) = false := by simp; omega
    have t3 : (q == 3) = false := by simp; omega
    have t4 : (q == 4) = false := by simp; omega
    have t5 : (q == 5) = false := by simp; omega
    have t6 : (q == 6) = false := by simp; omega
    have HK := hid q0
    have b_20 := (Below.refl 0 w5)
    have s_20 := b_20.size
    have T_20 := T_5
    have bc_20 := bc_5
    clear bc_5
    have cu_20 := cu_5
    clear cu_5
    have cu_lt := cu_20.lt
    have cell_cu := cu_20.cell
    have froz_cu := cu_20.frozen
    have lt_cu := cu_20.lt
    have r_20 := r_5
    clear r_5
    have r_lt := r_20.lt
    have cell_r := r_20.cell
    have froz_r := r_20.frozen
    have lt_r := r_20.lt
    have z_20 := z_5
    clear z_5
    have z_lt := z_20.lt
    have cell_z := z_20.cell
    have froz_z := z_20.frozen
    have lt_z := z_20.lt
    go_wp2_with fail
    refine calls_forget0 (W := w5) ?_ ?_
    (focus (exact belBy))
    intro X21 hX21
    have sX21 := hX21.size
    refine (below_any 7 _ _ _ _ _ (by omega) (by omega) (show Cur _ _ _ _ _ from ⟨_, _, Blk.past hX21 cu_20, cu_i0, cu_i1⟩) ⟨cells_below bc_20 hX21 (by omega), bc_s.out, bc_l.out⟩).mono ?_
    clear cu_i0 cu_i1
    rintro e w21 ⟨x, rfl, x0, x1, ⟨i_21, h_21, cu_21, cu_i0, cu_i1⟩, hY21⟩
    have s21 := hY21.size
    have b_21 := below0_touch hY21 (b_20.trans (hX21.mono (by omega)))
    have T_21 := (T_20.trans (Touch.of_below hX21)).trans hY21
    have bc_21 := cells_touch hY21 (cells_below bc_20 hX21 (by omega)) (by omega) (by first | (simp; done) | (simp; omega))
    have r_21 := Blk.touch hY21 (Blk.past hX21 r_20) (by first | (simp; done) | (simp; omega))
    have z_21 := Blk.touch hY21 (Blk.past hX21 z_20) (by first | (simp; done) | (simp; omega))
    clear T_20 bc_20 cu_20 r_20 z_20 b_20 cell_cu froz_cu lt_cu cell_r froz_r lt_r cell_z froz_z lt_z hX21 hY21
    have cell_cu := cu_21.cell
    have froz_cu := cu_21.frozen
    have lt_cu := cu_21.lt
    have cell_r := r_21.cell
    have froz_r := r_21.frozen
    have lt_r := r_21.lt
    have cell_z := z_21.cell
    have froz_z := z_21.frozen
    have lt_z := z_21.lt
    have HX : IntKind.i64.wrap (3 + x) = 3 + x := IntWalk.i64_in _ (by omega)
    have H39 := hid (show 3 ≤ 3 + x ∧ 3 + x ≤ 9 by omega)
    go_wp2_with fail
    refine calls_touch1 (w0 := w21) (L := [w4.heap.size]) (b0 := w4.heap.size) (t0 := 45) (c0 := #[.int .i64 (3 + x), .int .i64 d, .int .i64 a, .int .i64 f, .int .i64 g, .int .i64 0]) ?_ ?_ ?_
    (focus exact blkcBy)
    (focus (exact tchBy))
    intro w22 z_22 hX22
    have sX22 := hX22.size
    have b_22 := below0_touch hX22 b_21
    have T_22 := T_21.trans_new hX22 (by first | (simp; done) | (simp; omega))
    have bc_22 := cells_touch hX22 bc_21 (by omega) (by first | (simp; done) | (simp; omega))
    have cu_22 := Blk.touch hX22 cu_21 (by first | (simp; done) | (simp; omega))
    have r_22 := Blk.touch hX22 r_21 (by first | (simp; done) | (simp; omega))
    clear T_21 bc_21 cu_21 r_21 z_21 b_21 cell_cu froz_cu lt_cu cell_r froz_r lt_r cell_z froz_z lt_z hX22
    have cell_cu := cu_22.cell
    have froz_cu := cu_22.frozen
    have lt_cu := cu_22.lt
    have cell_r := r_22.cell
    have froz_r := r_22.frozen
    have lt_r := r_22.lt
    have cell_z := z_22.cell
    have froz_z := z_22.frozen
    have lt_z := z_22.lt
    go_wp2_with fail
    refine calls_forget0 (W := w22) ?_ ?_
    (focus (exact belBy))
    intro X23 hX23
    have sX23 := hX23.size
    refine (plain3 _ _ _ _ _ _ _ H39.out).mono ?_
    rintro e w23 ⟨rfl, hb23⟩
    have s23 := hb23.size
    have hT23 := hX23.trans (hb23.mono sX23)
    have b_23 := b_22.trans (hT23.mono (by omega))
    have T_23 := T_22.trans (Touch.of_below hT23)
    have bc_23 := cells_below bc_22 hT23 (by omega)
    have cu_23 := Blk.past hT23 cu_22
    have r_23 := Blk.past hT23 r_22
    have z_23 := Blk.past hT23 z_22
    clear T_22 bc_22 cu_22 r_22 z_22 b_22 cell_cu froz_cu lt_cu cell_r froz_r lt_r cell_z froz_z lt_z hX23 hT23 hb23
    have cell_cu := cu_23.cell
    have froz_cu := cu_23.frozen
    have lt_cu := cu_23.lt
    have cell_r := r_23.cell
    have froz_r := r_23.frozen
    have lt_r := r_23.lt
    have cell_z := z_23.cell
    have froz_z := z_23.frozen
    have lt_z := z_23.lt
    go_wp2_with fail
    ((try simp only [Exit.inBlock, Exit.then]); apply bodyPost_ret0; focus ((try simp only [results, Try.results83]); (try go_simp); (try rfl)))
    refine ⟨⟨3 + x, d, a, f, 0, 0⟩, pl3 H39.out HD.out HA.out HF.out, rfl, ?_, ?_⟩
    · exact Cur.touch (L := [w.heap.size]) ⟨_, _, cu_23, cu_i0, cu_i1⟩ (by exact tchBy) (by simp; omega)
    · exact T_23.trans_new (M := [w.heap.size]) (by exact tchBy) (by simp)
end Go.Proofs.Ytihbaieiempjeaa
/- The reference's drawn cases of a secure run: the program is valid, without loops. -/
namespace Go.Proofs.Ytihbaieiempjeaa
open Go.RowKit

theorem infoStmQ : (Try.prog.info? 45).map (fun i => (i.zero, i.size, i.bytes)) = some (some (.agg #[.int .i64 0, .int .i64 0, .int .i64 0, .int .i64 0, .int .i64 0, .int .i64 0]), 6, 48) := by kernel_rfl
theorem stmt_one (x0 x1 x2 x3 x4 x5 : Int) : ∀ u ∈ [Value.int .i64 x0, .int .i64 x1, .int .i64 x2, .int .i64 x3, .int .i64 x4, .int .i64 x5], u.oneCell' = true := by
  intro u hu
  simp at hu
  rcases hu with rfl | rfl | rfl | rfl | rfl | rfl <;> rfl
def ProgS (w : World) (p n c : Nat) (A : Option Addr) (k : Nat) (o : Value) (wr : World) : Prop :=
  ∃ (L : List St) (A' : Option Addr) (c' : Nat), (L.length = 2 + k ∧ ∀ s ∈ L, PlainSt s) ∧ o = .slice A' (2 + k) c' ∧ wr.ownsRow w.heap.size 45 6 (.slice A' (2 + k) c') (2 + k) (ints (flatS L)) ∧ Cur wr p A n c ∧ Touch [p] w wr
theorem ints_cat (a b : List Int) : ints (a ++ b) = ints a ++ ints b := by simp [ints]
theorem first2 : ∀ s ∈ [(⟨2, 0, 0, 0, 0, 0⟩ : St), ⟨2, 1, 1, 0, 0, 0⟩], PlainSt s := by
  intro s hs
  simp only [List.mem_cons, List.not_mem_nil, or_false] at hs
  rcases hs with rfl | rfl
  · exact pl2 (by decide) (by decide) (by decide)
  · exact pl2 (by decide) (by decide) (by decide)
theorem snoc_is {L : List St} {k : Nat} {s : St} (h : L.length = 2 + k ∧ ∀ s ∈ L, PlainSt s) (hs : PlainSt s) : (L ++ [s]).length = 2 + (k + 1) ∧ ∀ x ∈ L ++ [s], PlainSt x := by
  refine ⟨by rw [List.length_append, h.1]; rfl, fun x hx => ?_⟩
  rw [List.mem_append, List.mem_singleton] at hx
  rcases hx with hx | rfl
  · exact h.2 x hx
  · exact hs
set_option maxRecDepth 100000 in
set_option maxHeartbeats 1600000 in
theorem program_is (p : Nat) (A : Option Addr) (c : Nat) (bs : List Int) (w : World) (hc : Cur w p A bs.length c) (hb : Bytes w p A bs) :
    Calls Try.prog 44 #[.pointer (some ⟨p, 0, none⟩)] w fun e w' => ∃ (L : List St) (A' : Option Addr) (c' : Nat), (L.length ≤ 7 ∧ ∀ s ∈ L, PlainSt s) ∧ e = .returned (.slice A' L.length c') ∧ w'.ownsRow w.heap.size 45 6 (.slice A' L.length c') L.length (ints (flatS L)) ∧ Cur w' p A bs.length c ∧ Touch [p] w w' := by
  have HB := hid hb
  have HC := hid hc
  have hp := hc.lt
  clear hb hc
  go_enter Try.func44, Try.ntmps44
  go_wp2_with fail
  go_loopw [3, 4] (fun o i wr => ∃ k : Nat, k ≤ 4 ∧ i = .int .i64 k ∧ ProgS w p bs.length c A k o wr) (fun _ i _ => 4 - (intOf i).toNat)
  case atStart => exact ⟨0, Nat.zero_le _, rfl, [⟨2, 0, 0, 0, 0, 0⟩, ⟨2, 1, 1, 0, 0, 0⟩], some ⟨w.heap.size, 0, none⟩, 2, ⟨rfl, first2⟩, rfl, own_lit (size := 6) #[.int .i64 2, .int .i64 0, .int .i64 0, .int .i64 0, .int .i64 0, .int .i64 0, .int .i64 2, .int .i64 1, .int .i64 1, .int .i64 0, .int .i64 0, .int .i64 0] 2 rfl (Nat.le_refl _) (by decide) rfl, HC.out.alloc _, (Touch.refl _ _).alloc _⟩
  case round =>
    obtain ⟨k, hk, rfl, L, A', c', hLL, rfl, hown, hcu, htw⟩ := hrel
    have HLL := hid hLL
    clear hLL
    have zw := htw.size
    have HO := hid hown
    have HU := hid hcu
    have HD := hid htw
    clear hown hcu htw
    go_wp2_with fail
    refine (below_any 4 _ _ _ _ _ (by omega) (by omega) HU.out (HB.out.touch HD.out (by omega))).mono ?_
    rintro e w2 ⟨r, rfl, hr0, hr1, hc2, hT⟩
    have z2 := hT.size
    have HO2 := hid (own_touch' hT HO.out (fun q hq => by have h1 := own_in HO.out q hq; simp; omega))
    have HU2 := hid hc2
    have HD2 := hid (HD.out.trans hT)
    clear hc2 hT
    by_cases hlt : (k : Int) < r
    · go_wp2_with fail
      refine (stmt_is _ _ _ _ _ HU2.out (HB.out.touch HD2.out (by omega))).mono ?_
      rintro e w3 ⟨st, hst, rfl, hc3, hT⟩
      have HST := hid hst
      clear hst
      have z3 := hT.size
      have HO3 := hid (own_touch' hT HO2.out (fun q hq => by have h1 := own_in HO2.out q hq; simp; omega))
      have HU3 := hid hc3
      have HD3 := hid (HD2.out.trans hT)
      clear hc3 hT
      go_wp2_with (at_builtin; go_loud (refine wpList_appi rfl _ _ 39 rfl w.heap.size 45 (.agg #[.int .i64 0, .int .i64 0, .int .i64 0, .int .i64 0, .int .i64 0, .int .i64 0]) 6 48 Try.underlying39 infoStmQ rfl (by decide) _ (2 + k) _ rfl (HO3.out.alloc _) ⟨w3.heap.size, 0, none⟩ 1 1 _ rfl rfl (many_new _ [.int .i64 st.o, .int .i64 st.d, .int .i64 st.a, .int .i64 st.b, .int .i64 st.c, .int .i64 st.n] _) (stmt_one _ _ _ _ _ _) (by omega) (by decide) (by simp; omega) ?_))
      intro A3 c3 w4 ho4 hg4 li4
      have hg := grown_alloc hg4
      have z4 := hg.size
      have hlo : ∀ q, (Value.slice A' (2 + k) c').ownBlock = some q → w.heap.size ≤ q := fun q hq => (own_in HO3.out q hq).1
      have hc4 := HU3.out.grown hg (fun q hq => by have h1 := hlo q hq; omega)
      have ht4 := HD3.out.grown hg hlo
      have HO4 := hid ho4
      have HU4 := hid hc4
      have HD4 := hid ht4
      clear hg hg4 li4 hlo ho4 hc4 ht4
      go_wp2
      go_roundw
      case rel => exact ⟨k + 1, by omega, by go_num, L ++ [st], A3, c3, snoc_is HLL.out HST.out, rfl, by rw [flatS_snoc, ints_cat]; exact HO4.out, HU4.out, HD4.out⟩
      case measure => simp [intOf]; omega
    · go_wp2_with fail
      refine (below_any 4 _ _ _ _ _ (by omega) (by omega) HU2.out (HB.out.touch HD2.out (by omega))).mono ?_
      rintro e w3 ⟨x, rfl, hx0, hx1, hc3, hT⟩
      have z3 := hT.size
      have HO3 := hid (own_touch' hT HO2.out (fun q hq => by have h1 := own_in HO2.out q hq; simp; omega))
      have HU3 := hid hc3
      have HD3 := hid (HD2.out.trans hT)
      clear hc3 hT
      go_wp2_with (at_builtin; go_loud (refine wpList_appi rfl _ _ 39 rfl w.heap.size 45 (.agg #[.int .i64 0, .int .i64 0, .int .i64 0, .int .i64 0, .int .i64 0, .int .i64 0]) 6 48 Try.underlying39 infoStmQ rfl (by decide) _ (2 + k) _ rfl (HO3.out.alloc _) ⟨w3.heap.size, 0, none⟩ 1 1 _ rfl rfl (many_new _ [.int .i64 11, .int .i64 0, .int .i64 x, .int .i64 0, .int .i64 0, .int .i64 0] _) (stmt_one _ _ _ _ _ _) (by omega) (by decide) (by simp; omega) ?_))
      intro A3 c3 w4 ho4 hg4 li4
      have hg := grown_alloc hg4
      have z4 := hg.size
      have hlo : ∀ q, (Value.slice A' (2 + k) c').ownBlock = some q → w.heap.size ≤ q := fun q hq => (own_in HO3.out q hq).1
      have hc4 := HU3.out.grown hg (fun q hq => by have h1 := hlo q hq; omega)
      have ht4 := HD3.out.grown hg hlo
      have HO4 := hid ho4
      have HU4 := hid hc4
      have HD4 := hid ht4
      clear hg hg4 li4 hlo ho4 hc4 ht4
      go_wp2
      go_ret
      have hf := snoc_is HLL.out (pl11 (a := x) (by omega))
      have hl : (L ++ [(⟨11, 0, x, 0, 0, 0⟩ : St)]).length = 2 + (k + 1) := hf.1
      refine ⟨L ++ [(⟨11, 0, x, 0, 0, 0⟩ : St)], A3, c3, ⟨by omega, hf.2⟩, by rw [hl]; rfl, ?_, HU4.out, HD4.out⟩
      rw [hl, flatS_snoc, ints_cat]
      exact HO4.out
set_option maxRecDepth 100000 in
set_option maxHeartbeats 1600000 in
theorem secure_is (A : Option Addr) (c : Nat) (bs : List Int) (w : World) (hb : Bytes w w.heap.size A bs) :
    Calls Try.prog 17 #[.slice A bs.length c] w fun e w' => ∃ (L : List St) (Ap : Option Addr) (cp : Nat) (ls : List (Nat × Nat × List Int)) (A' : Option Addr) (c' : Nat) (s a s' a' q : Int),
      ((L.length ≤ 7 ∧ ∀ s ∈ L, PlainSt s) ∧ ls.length = 5 ∧ (tapeOkB s a = true ∧ a ≤ 50) ∧ (tapeOkB s' a' = true ∧ a' ≤ 50) ∧ 0 ≤ q ∧ q < 5) ∧ e = .returned (.tuple #[.slice Ap L.length cp, .slice A' 5 c', .agg #[.int .i64 s, .int .i64 a], .agg #[.int .i64 s', .int .i64 a'], .int .i64 q]) ∧
      w'.ownsRow w.heap.size 25 1 (.slice A' 5 c') 5 (insV ls) ∧ InsO w' w.heap.size ls ∧ w'.ownsRow w.heap.size 45 6 (.slice Ap L.length cp) L.length (ints (flatS L)) ∧ Below w.heap.size w w' := by
  have HB := hid hb
  have bc_s := hid hb.small
  have bc_l := hid hb.len
  have HBY := hb.cells
  clear hb
  go_enter Try.func17, Try.ntmps17
  have b_0 := (Below.refl w.heap.size w)
  have s_0 := b_0.size
  go_upto_region 1 with fail
  refine wp_forget2 (w0 := w) (B := w.heap.size) (b0 := w.heap.size) (t0 := 29) (c0 := #[.int .i64 0, .int .i64 0]) (b1 := w.heap.size + 1) (t1 := 29) (c1 := #[.int .i64 0, .int .i64 0]) ?_ ?_ ?_ ?_
  (focus exact blkcBy)
  (focus exact blkcBy)
  (focus (exact belBy))
  intro w1 r1_1 r2_1 hX1
  have sX1 := hX1.size
  have r1_lt := r1_1.lt
  have r2_lt := r2_1.lt
  have b_1 := b_0.trans (hX1.mono (by omega))
  clear b_0 hX1
  have cell_r1 := r1_1.cell
  have froz_r1 := r1_1.frozen
  have lt_r1 := r1_1.lt
  have cell_r2 := r2_1.cell
  have froz_r2 := r2_1.frozen
  have lt_r2 := r2_1.lt
  have HR1 := hid r1_1
  have HR2 := hid r2_1
  have HW := hid b_1
  clear r1_1 r2_1 b_1 cell_r1 froz_r1 cell_r2 froz_r2 HBY
  go_wp2_with fail
  refine (new_any _ _ _ _ ((HB.out.step HW.out).more (by omega))).mono ?_
  rintro e w2 ⟨rfl, hc2, hb2⟩
  have s2 := hb2.size
  have z2 := hc2.lt
  have HW2 := hid (HW.out.trans (hb2.mono (by omega)))
  have R12 := hid (Blk.past hb2 HR1.out)
  have R22 := hid (Blk.past hb2 HR2.out)
  have HC2 := hid hc2
  obtain ⟨p, hp⟩ : ∃ p, p = w1.heap.size := ⟨_, rfl⟩
  rw [← hp] at HC2
  rw [← hp] at z2
  rw [← hp]
  have pw : w.heap.size + 1 < p := by omega
  clear hc2 hb2 HW HR1 HR2 hp
  go_wp2_with fail
  refine (program_is p _ _ _ _ HC2.out ((HB.out.step HW2.out).more (by omega))).mono ?_
  rintro e w3 ⟨L, Ap, cp, hL, rfl, hpo, hc3, hT⟩
  have HLP := hid hL
  have HPO3 := hid hpo
  clear hL hpo
  have z3 := hT.size
  have HC3 := hid hc3
  have HW3 := hid (hT.below HW2.out (by simp; omega))
  have R13 := hid (Blk.touch hT R12.out (by simp; omega))
  have R23 := hid (Blk.touch hT R22.out (by simp; omega))
  clear hc3 hT HC2 HW2 R12 R22
  go_wp2_with fail
  refine (inputs_any p _ _ _ _ HC3.out ((HB.out.step HW3.out).more (by omega))).mono ?_
  rintro e w4 ⟨ls, A', c', hl, rfl, hro, hio, hc4, hT⟩
  have z4 := hT.size
  have HC4 := hid hc4
  have HW4 := hid (hT.below HW3.out (by simp; omega))
  have HPO4 := hid (own_touch' hT HPO3.out (fun q hq => by have h1 := own_in HPO3.out q hq; simp; omega))
  clear HPO3
  have R14 := hid (Blk.touch hT R13.out (by simp; omega))
  have R24 := hid (Blk.touch hT R23.out (by simp; omega))
  have HRO4 := hid hro
  have HIO4 := hid hio
  clear hc4 hT HC3 HW3 R13 R23 hro hio
  go_wp2_with fail
  refine (tape_any p _ _ _ _ HC4.out ((HB.out.step HW4.out).more (by omega))).mono ?_
  rintro e w5 ⟨s, a, rfl, ht, hc5, hT⟩
  have z5 := hT.size
  have HC5 := hid hc5
  have HW5 := hid (hT.below HW4.out (by simp; omega))
  have HPO5 := hid (own_touch' hT HPO4.out (fun q hq => by have h1 := own_in HPO4.out q hq; simp; omega))
  clear HPO4
  have R15 := hid (Blk.touch hT R14.out (by simp; omega))
  have R25 := hid (Blk.touch hT R24.out (by simp; omega))
  have HRO5 := hid (own_touch' hT HRO4.out (fun q hq => by have h1 := own_in HRO4.out q hq; simp; omega))
  have HIO5 := hid (HIO4.out.touch hT (by simp; omega))
  clear hc5 hT HC4 HW4 R14 R24 HRO4 HIO4
  go_wp2_with fail
  refine (tape_any p _ _ _ _ HC5.out ((HB.out.step HW5.out).more (by omega))).mono ?_
  rintro e w6 ⟨s', a', rfl, ht', hc6, hT⟩
  have z6 := hT.size
  have HC6 := hid hc6
  have HW6 := hid (hT.below HW5.out (by simp; omega))
  have HPO6 := hid (own_touch' hT HPO5.out (fun q hq => by have h1 := own_in HPO5.out q hq; simp; omega))
  clear HPO5
  have R16 := hid (Blk.touch hT R15.out (by simp; omega))
  have R26 := hid (Blk.touch hT R25.out (by simp; omega))
  have HRO6 := hid (own_touch' hT HRO5.out (fun q hq => by have h1 := own_in HRO5.out q hq; simp; omega))
  have HIO6 := hid (HIO5.out.touch hT (by simp; omega))
  clear hc6 hT HC5 HW5 R15 R25 HRO5 HIO5
  go_wp2_with fail
  refine (below_any 5 p _ _ _ _ (by omega) (by omega) HC6.out ((HB.out.step HW6.out).more (by omega))).mono ?_
  rintro e w7 ⟨q, rfl, q0, q1, hc7, hT⟩
  have z7 := hT.size
  have HW7 := hid (hT.below HW6.out (by simp; omega))
  have HPO7 := hid (own_touch' hT HPO6.out (fun q hq => by have h1 := own_in HPO6.out q hq; simp; omega))
  clear HPO6
  have R17 := Blk.touch hT R16.out (by simp; omega)
  have R27 := Blk.touch hT R26.out (by simp; omega)
  have HRO7 := hid (own_touch' hT HRO6.out (fun q hq => by have h1 := own_in HRO6.out q hq; simp; omega))
  have HIO7 := hid (HIO6.out.touch hT (by simp; omega))
  have hcell1 := R17.cell
  have hcell2 := R27.cell
  have hfroz1 := R17.frozen
  have hfroz2 := R27.frozen
  have hlt1 := R17.lt
  have hlt2 := R27.lt
  have HT := hid ht
  have HT' := hid ht'
  clear hc7 hT HC6 HW6 R16 R26 HRO6 HIO6 ht ht'
  go_wp2_with fail
  ((try simp only [Exit.inBlock, Exit.then]); apply bodyPost_ret0; focus ((try simp only [results, Try.results17]); (try go_simp); (try rfl)))
  refine ⟨L, Ap, cp, ls, A', c', s, a, s', a', q, ⟨HLP.out, hl, HT.out, HT'.out, q0, q1⟩, rfl, ?_, ?_, ?_, ?_⟩
  · refine own_weak (base := w3.heap.size) ?_ (by omega)
    have h := HRO7.out
    exact ownBy
  · intro i g hg
    have hr := HIO7.out i g hg
    refine ⟨own_weak (base := w3.heap.size) (own_touch' (L := [w.heap.size, w.heap.size + 1]) (w := w7) ?_ hr.1 fun b hb => ?_) (by omega), hr.2⟩
    · exact tchBy
    · have h1 := own_in hr.1 b hb
      simp
      omega
  · refine own_weak (base := w2.heap.size) ?_ (by omega)
    have h := HPO7.out
    exact ownBy
  · have h := HW7.out
    exact belBy
end Go.Proofs.Ytihbaieiempjeaa
/- The two passes never add a product. No program is named here. -/
namespace Go.Proofs.Ytihbaieiempjeaa

def andG (gs : List Gt) : Nat := (gs.filter (fun g => g.k == 4)).length
def andOne (g : Gt) : Nat := if (g.k == 4) = true then 1 else 0
theorem andG_snoc (gs : List Gt) (g : Gt) : andG (gs ++ [g]) = andG gs + andOne g := by
  unfold andG andOne
  rw [List.filter_append, List.length_append]
  cases hk : (g.k == 4) <;> simp [List.filter, hk]
theorem andOne_not {g : Gt} (h : g.k ≠ 4) : andOne g = 0 := by
  unfold andOne
  rw [if_neg (by simpa using h)]
theorem and_put (gs : List Gt) (g : Gt) : andG (put2 gs g).1 ≤ andG gs + andOne g := by
  unfold put2 putG
  dsimp only
  split
  · omega
  · rw [andG_snoc]; omega
theorem and_put0 (gs : List Gt) {g : Gt} (h : g.k ≠ 4) : andG (put2 gs g).1 ≤ andG gs := by
  have := and_put gs g
  rw [andOne_not h] at this
  exact this
theorem and_neg (gs : List Gt) (w : Int) : andG (negG gs w).1 ≤ andG gs := by
  unfold negG
  split
  · exact and_put0 gs (show (2 : Int) ≠ 4 by decide)
  · split
    · exact Nat.le_refl _
    · exact and_put0 gs (show (5 : Int) ≠ 4 by decide)
theorem and_half {gs : List Gt} {k a b : Int} {o : List Gt × Int} {n : Nat} (h : andG gs ≤ n) (ho : andG o.1 ≤ n) : andG (halfG gs k a b o).1 ≤ n := by
  unfold halfG
  split
  · exact h
  · split
    · exact Nat.le_trans (and_neg gs b) h
    · split
      · exact Nat.le_trans (and_put0 gs (show (2 : Int) ≠ 4 by decide)) h
      · exact ho
theorem and_bin (gs : List Gt) (k a b : Int) : andG (binG gs k a b).1 ≤ andG gs + (if (k == 4) = true then 1 else 0) := by
  unfold binG
  split
  · split
    · exact Nat.le_add_right _ _
    · exact Nat.le_trans (and_put0 gs (show (2 : Int) ≠ 4 by decide)) (Nat.le_add_right _ _)
  · exact and_half (Nat.le_add_right _ _) (and_half (Nat.le_add_right _ _) (and_put gs ⟨k, min a b, max a b⟩))
theorem and_simpP (gs : List Gt) (tw : List Int) (g : Gt) : andG (simpP gs tw g).1 ≤ andG gs + andOne g := by
  unfold simpP
  split
  · exact and_bin gs g.k _ _
  · split
    · exact Nat.le_trans (and_neg gs _) (Nat.le_add_right _ _)
    · rename_i h1 h2
      exact Nat.le_trans (and_put0 gs (show (⟨g.k, g.a, 0⟩ : Gt).k ≠ 4 from fun h => h1 (.inr h))) (Nat.le_add_right _ _)
theorem and_fold : ∀ (gs : List Gt) (st : List Gt × List Int), andG (gs.foldl simpS st).1 ≤ andG st.1 + andG gs
  | [], st => by simp [andG]
  | g :: r, st => by
    have h1 := and_fold r (simpS st g)
    have h2 := and_simpP st.1 st.2 g
    have h3 : andG (g :: r) = andOne g + andG r := by
      unfold andG andOne
      cases hk : (g.k == 4) <;> simp [List.filter, hk] <;> omega
    rw [List.foldl_cons, h3]
    have h4 : (simpS st g).1 = (simpP st.1 st.2 g).1 := rfl
    rw [h4] at h1
    omega
theorem and_simp (gs : List Gt) (os : List Int) : andG (simpC gs os).1 ≤ andG gs := by
  unfold simpC
  split
  · have := and_fold gs ([], [])
    simpa [andG, simpTo] using this
  · exact Nat.le_refl _
theorem re_kind (tw : List Int) (g : Gt) : (reG tw g).k = g.k := by
  unfold reG
  split
  · rfl
  · split <;> rfl
theorem and_prTo (gs : List Gt) (L : List Bool) : ∀ j, j ≤ gs.length → andG (prTo gs L j).1 ≤ andG (gs.take j)
  | 0, _ => by simp [prTo, andG]
  | j + 1, hj => by
    have h := and_prTo gs L j (by omega)
    have hl : j < gs.length := by omega
    have e1 : gs.take (j + 1) = gs.take j ++ [gs[j]] := List.take_succ_eq_append_getElem hl
    have e2 : gs.getD j ⟨0, 0, 0⟩ = gs[j] := by rw [List.getD_eq_getElem?_getD, List.getElem?_eq_getElem hl]; rfl
    show andG (prS gs L (prTo gs L j) j).1 ≤ _
    rw [e1, andG_snoc]
    unfold prS
    split
    · rw [e2, andG_snoc]
      have : andOne (reG (prTo gs L j).2 gs[j]) = andOne gs[j] := by unfold andOne; rw [re_kind]
      omega
    · omega
theorem and_prun (gs : List Gt) (os : List Int) : andG (prunC gs os).1 ≤ andG gs := by
  unfold prunC
  split
  · have := and_prTo gs (liveG gs os) gs.length (Nat.le_refl _)
    rwa [List.take_length] at this
  · exact Nat.le_refl _
theorem and_opt (gs : List Gt) (os : List Int) : andG (optC gs os).1 ≤ andG gs := Nat.le_trans (and_prun _ _) (and_simp gs os)
end Go.Proofs.Ytihbaieiempjeaa
/- Programs without loops unroll to themselves. No program is named here. -/
namespace Go.Proofs.Ytihbaieiempjeaa
open Go.RowKit

theorem scan_plain : ∀ L : List St, (∀ s ∈ L, stmtB s = true ∧ s.o ≠ 12 ∧ s.o ≠ 13) → scanP 0 L = true
  | [], _ => rfl
  | s :: r, h => by
    obtain ⟨h1, h2, h3⟩ := h s List.mem_cons_self
    have hd : dep s 0 = 0 := by unfold dep; rw [if_neg h2, if_neg h3]
    rw [scanP, h1, hd, scan_plain r fun x hx => h x (List.mem_cons_of_mem _ hx)]
    rfl
theorem tree_plain : ∀ t : Tr, t.ok = true → (∀ s ∈ t.flat, s.o ≠ 12) → t.us = t.flat.length ∧ t.unr = t.flat
  | .nil, _, _ => ⟨rfl, rfl⟩
  | .one s r, h, hn => by
    simp only [Tr.ok, Bool.and_eq_true] at h
    obtain ⟨h1, h2⟩ := tree_plain r h.2.2.2 fun x hx => hn x (List.mem_cons_of_mem _ hx)
    exact ⟨by simp only [Tr.us, Tr.flat, List.length_cons, h1]; omega, by simp only [Tr.unr, Tr.flat, h2]⟩
  | .loop h b e r, ht, hn => by
    simp only [Tr.ok, Bool.and_eq_true, beq_iff_eq] at ht
    exact absurd ht.2.1 (hn h List.mem_cons_self)
theorem loopless {L : List St} (h : ∀ s ∈ L, stmtB s = true ∧ s.o ≠ 12 ∧ s.o ≠ 13) (hl : L.length ≤ 40) : unrB L = true ∧ unrL L = L := by
  have hp : progB L = true := by
    unfold progB
    rw [decide_eq_true hl, scan_plain L h]
    rfl
  obtain ⟨e, h1, _, _⟩ := trOf_ok hp
  have h2 := tree_plain (trOf L) h1 (by rw [← e]; exact fun s hs => (h s hs).2.1)
  rw [← e] at h2
  have hu : unrB L = true := by
    unfold unrB
    rw [hp, h2.1, decide_eq_true (by omega)]
    rfl
  exact ⟨hu, by unfold unrL; rw [if_pos hu]; exact h2.2⟩
end Go.Proofs.Ytihbaieiempjeaa
/- The law that a program's cost is that of its simplified circuit (FnProgramCosts). No conditions. -/
set_option linter.unusedVariables false
namespace Go.Proofs.Ytihbaieiempjeaa
open Go.RowKit Go.ChangeShapes Go.WideShapes Go.ChangeAt

theorem costWithin_yes (a b : Int) (w : World) (h : a ≤ b) :
    Calls Try.prog 14 #[.agg #[.int .i64 2, .int .i64 0, .int .i64 0, .int .i64 a], .agg #[.int .i64 2, .int .i64 0, .int .i64 0, .int .i64 b]] w fun e w' => e = .returned (.bool true) ∧ Below w.heap.size w w' := by
  go_enter Try.func14, Try.ntmps14
  go_wp2
  go_ret
  refine ⟨rfl, ?_⟩
  exact belBy
theorem own_cap {w : World} {base e size n c : Nat} {A : Option Addr} {xs : List Value} (h : w.ownsRow base e size (.slice A n c) n xs) : n ≤ c := by
  rcases h.2 with ⟨hv, hn⟩ | ⟨g, cap, cur, hv, hg, hh, r⟩
  · injection hv with _ h2 h3
    omega
  · injection hv with _ _ h3
    subst h3
    exact r.1
namespace programCosts
set_option maxRecDepth 100000 in
set_option maxHeartbeats 6400000 in
theorem walk (A : Option Addr) (c : Nat) (bs : List Int) (w : World) (hb : Bytes w w.heap.size A bs) :
    Calls Try.prog 4 #[.slice A bs.length c] w fun e w' => e = .returned (.bool true) ∧ Below w.heap.size w w' := by
  have hl := hb.len
  have HB := hid hb
  clear hb
  by_cases h1 : (1048576 : Int) < (bs.length : Int)
  · go_enter Try.func4, Try.ntmps4
    go_wp2_with (go_at_call 6; refine (big_any _ _ _ _ hl).mono ?_; rintro e w' ⟨rfl, rfl⟩)
    go_ret
    exact ⟨rfl, Below.refl _ _⟩
  go_enter Try.func4, Try.ntmps4
  go_wp2_with fail
  refine (big_any _ _ _ _ hl).mono ?_
  rintro e w' ⟨rfl, rfl⟩
  go_wp2_with fail
  refine (secure_is _ _ _ _ HB.out).mono ?_
  rintro e w1 ⟨L, Ap, cp, ls, Ai, ci, s, a, s', a', q, ⟨⟨hL7, hLp⟩, hl5, ⟨ht, ha⟩, ⟨ht', ha'⟩, q0, q1⟩, rfl, hro, hio, hpo, hb1⟩
  obtain ⟨hu, _⟩ := loopless hLp (by omega)
  have hcap := own_cap hpo
  have hcel := Cells.of_own hpo
  have HPO := hid hcel
  have z1 := hb1.size
  have HW1 := hid hb1
  have CC := hid (fun w hc => sCompile Ap cp L w hc (by omega))
  have CP := hid (fun w hc => iProgCost Ap cp L w hc (by omega) hcap)
  have hv := comp_okc L hu
  have hol := comp_outs L
  have CG := hid (fun G O cg co w hg ho => iGarbled G O cg co (compL L).g (compL L).o w hg ho hv hol)
  have hle : cntG (optC (compL L).g (compL L).o).1 4 ≤ cntG (compL L).g 4 := and_opt _ _
  have hgl : cntG (compL L).g 4 ≤ 6000 := by
    have h1 := cntG_le (compL L).g 4
    have h2 := (circ_parts hv).1
    omega
  have hcv : costV L = .agg #[.int .i64 2, .int .i64 0, .int .i64 0, .int .i64 (2 * (cntG (optC (compL L).g (compL L).o).1 4 : Int))] := by unfold costV; rw [hu]; rfl
  rw [hcv] at CP
  rw [hu] at CC
  obtain ⟨x, hx⟩ : ∃ x : Int, 2 * (cntG (optC (compL L).g (compL L).o).1 4 : Int) = x := ⟨_, rfl⟩
  obtain ⟨y, hy⟩ : ∃ y : Int, 2 * (cntG (compL L).g 4 : Int) = y := ⟨_, rfl⟩
  have hxy : x ≤ y := by omega
  have hx2 : x % 2 = 0 := by omega
  have hxt : x.tmod 2 = 0 := by rw [Int.tmod_eq_emod_of_nonneg (by omega)]; omega
  rw [hx] at CP
  rw [hy] at CG
  obtain ⟨K, hK⟩ : ∃ r, compL L = r := ⟨_, rfl⟩
  rw [hK] at CC CG
  have HXY := hid hxy
  clear hro hio hpo hb1 hcel hcap hLp hv hol hle hgl hcv hx hy hxy hK hu ht ht' hl5
  have b_1 := (Below.refl w1.heap.size w1)
  have s_1 := b_1.size
  go_upto_region 4 with fail
  refine wp_forget2 (w0 := w1) (B := w1.heap.size) (b0 := w1.heap.size) (t0 := 29) (c0 := #[.int .i64 s, .int .i64 a]) (b1 := w1.heap.size + 1) (t1 := 29) (c1 := #[.int .i64 s', .int .i64 a']) ?_ ?_ ?_ ?_
  (focus exact blkcBy)
  (focus exact blkcBy)
  (focus (exact belBy))
  intro w2 t1_2 t2_2 hX2
  have sX2 := hX2.size
  have t1_lt := t1_2.lt
  have t2_lt := t2_2.lt
  have b_2 := b_1.trans (hX2.mono (by omega))
  clear b_1 hX2
  have cell_t1 := t1_2.cell
  have froz_t1 := t1_2.frozen
  have lt_t1 := t1_2.lt
  have cell_t2 := t2_2.cell
  have froz_t2 := t2_2.frozen
  have lt_t2 := t2_2.lt
  have z2 := b_2.size
  have HW2 := hid (HW1.out.trans (b_2.mono z1))
  have HP2 := hid ((HPO.out.below b_2).more (B' := w2.heap.size) (by omega))
  clear t1_2 t2_2 b_2 cell_t1 froz_t1 lt_t1 cell_t2 froz_t2 lt_t2 HW1
  go_wp2_with fail
  refine Calls.mono (CC.out _ HP2.out) ?_
  rintro e w3 ⟨G, cg, O, co, rfl, g1, g2, hb⟩
  have z3 := hb.size
  have HW3 := hid (HW2.out.trans (hb.mono (by omega)))
  have HP3 := hid ((HP2.out.below hb).more (B' := w3.heap.size) (by omega))
  have HG3 := hid (And.intro (Cells.of_own g1) (Cells.of_own g2))
  clear g1 g2 hb HW2
  have b_3 := (Below.refl w3.heap.size w3)
  have s_3 := b_3.size
  go_upto_region 5 with fail
  refine wp_forget1 (w0 := w3) (B := w3.heap.size) (b0 := w3.heap.size) (t0 := 27) (c0 := #[.slice G K.g.length cg, .slice O K.o.length co]) ?_ ?_ ?_
  (focus exact blkcBy)
  (focus (exact belBy))
  intro w4 ck_4 hX4
  have sX4 := hX4.size
  have ck_lt := ck_4.lt
  have b_4 := b_3.trans (hX4.mono (by omega))
  clear b_3 hX4
  have cell_ck := ck_4.cell
  have froz_ck := ck_4.frozen
  have lt_ck := ck_4.lt
  go_wp2_with fail
  refine calls_forget0 (W := w4) ?_ ?_
  (focus (exact belBy))
  intro X5 hX5
  have sX5 := hX5.size
  refine (CP.out _ ((HP3.out.below (b_4.trans (hX5.mono (by omega)))).more (by omega))).mono ?_
  rintro e w5 ⟨rfl, hb5⟩
  have s5 := hb5.size
  have hT5 := hX5.trans (hb5.mono sX5)
  have b_5 := b_4.trans (hT5.mono (by omega))
  have ck_5 := Blk.past hT5 ck_4
  clear ck_4 b_4 cell_ck froz_ck lt_ck hX5 hT5 hb5
  have cell_ck := ck_5.cell
  have froz_ck := ck_5.frozen
  have lt_ck := ck_5.lt
  go_upto_region 6 with fail
  refine wp_forget1 (w0 := w5) (B := w5.heap.size) (b0 := w5.heap.size) (t0 := 33) (c0 := #[.int .i64 2, .int .i64 0, .int .i64 0, .int .i64 x]) ?_ ?_ ?_
  (focus exact blkcBy)
  (focus (exact belBy))
  intro w6 u_6 hX6
  have sX6 := hX6.size
  have u_lt := u_6.lt
  have b_6 := b_5.trans (hX6.mono (by omega))
  have ck_6 := Blk.past hX6 ck_5
  clear ck_5 b_5 cell_ck froz_ck lt_ck hX6
  have cell_ck := ck_6.cell
  have froz_ck := ck_6.frozen
  have lt_ck := ck_6.lt
  have cell_u := u_6.cell
  have froz_u := u_6.frozen
  have lt_u := u_6.lt
  go_wp2_with fail
  refine calls_forget0 (W := w6) ?_ ?_
  (focus (exact belBy))
  intro X7 hX7
  have sX7 := hX7.size
  refine (CG.out _ _ _ _ _ ((HG3.out.1.below (b_6.trans (hX7.mono (by omega)))).more (by omega)) ((HG3.out.2.below (b_6.trans (hX7.mono (by omega)))).more (by omega))).mono ?_
  rintro e w7 ⟨rfl, hb7⟩
  have s7 := hb7.size
  have hT7 := hX7.trans (hb7.mono sX7)
  have b_7 := b_6.trans (hT7.mono (by omega))
  have ck_7 := Blk.past hT7 ck_6
  have u_7 := Blk.past hT7 u_6
  clear ck_6 u_6 b_6 cell_ck froz_ck lt_ck cell_u froz_u lt_u hX7 hT7 hb7
  have cell_ck := ck_7.cell
  have froz_ck := ck_7.frozen
  have lt_ck := ck_7.lt
  have cell_u := u_7.cell
  have froz_u := u_7.frozen
  have lt_u := u_7.lt
  go_upto_region 7 with fail
  refine wp_forget1 (w0 := w7) (B := w7.heap.size) (b0 := w7.heap.size) (t0 := 33) (c0 := #[.int .i64 2, .int .i64 0, .int .i64 0, .int .i64 y]) ?_ ?_ ?_
  (focus exact blkcBy)
  (focus (exact belBy))
  intro w8 v_8 hX8
  have sX8 := hX8.size
  have v_lt := v_8.lt
  have b_8 := b_7.trans (hX8.mono (by omega))
  have ck_8 := Blk.past hX8 ck_7
  have u_8 := Blk.past hX8 u_7
  clear ck_7 u_7 b_7 cell_ck froz_ck lt_ck cell_u froz_u lt_u hX8
  have cell_ck := ck_8.cell
  have froz_ck := ck_8.frozen
  have lt_ck := ck_8.lt
  have cell_u := u_8.cell
  have froz_u := u_8.frozen
  have lt_u := u_8.lt
  have cell_v := v_8.cell
  have froz_v := v_8.frozen
  have lt_v := v_8.lt
  go_wp2_with fail
  refine calls_forget0 (W := w8) ?_ ?_
  (focus (exact belBy))
  intro X9 hX9
  have sX9 := hX9.size
  refine (costWithin_yes _ _ _ HXY.out).mono ?_
  rintro e w9 ⟨rfl, hb9⟩
  have s9 := hb9.size
  have hT9 := hX9.trans (hb9.mono sX9)
  have b_9 := b_8.trans (hT9.mono (by omega))
  have ck_9 := Blk.past hT9 ck_8
  have u_9 := Blk.past hT9 u_8
  have v_9 := Blk.past hT9 v_8
  clear ck_8 u_8 v_8 b_8 cell_ck froz_ck lt_ck cell_u froz_u lt_u cell_v froz_v lt_v hX9 hT9 hb9
  have cell_ck := ck_9.cell
  have froz_ck := ck_9.frozen
  have lt_ck := ck_9.lt
  have cell_u := u_9.cell
  have froz_u := u_9.frozen
  have lt_u := u_9.lt
  have cell_v := v_9.cell
  have froz_v := v_9.frozen
  have lt_v := v_9.lt
  have HF := hid (HW3.out.trans (b_9.mono (by omega)))
  clear b_9
  go_wp2
  go_ret
  exact ⟨rfl, HF.out⟩
set_option maxRecDepth 100000 in
theorem lifted (os : Os) (started : os.Started) (H : Type) (enc : TypeId × Value → H) :
    ReturnsInHanded {} Try.checked os 4 .any (Rows.fnProgramCostsSpec.pre6 enc Try.prog Try.f4 Rows.fnProgramCostsRow.domain false) (Rows.fnProgramCostsSpec.post enc Try.prog Try.f4 false true false false) := by
  refine returnsInHanded_of_change (C := Try.checked) own started (by kernel_rfl) Try.func4
    (ChangeSpec.witness6 (enc := enc) (C := Try.checked) false ⟨#[], #[.slice none 0 0], []⟩ 8 (by kernel_rfl) (by kernel_rfl) (by kernel_rfl) (by kernel_rfl)) ?_
  intro W base args ds gs before hval0 hW _ _
  have hval : ∀ (j : Nat) t v, Try.f4.params[j]? = some t → args[j]? = some v → Value.okWide Try.prog W .any base t v := hval0
  have hW' := hW
  obtain ⟨p, q, hA0, hV, rfl, _, _⟩ := hW
  have hA : DataW.TrodAll enc Try.prog W 0 (fun _ => true) true Try.f4.params.toList args.toList ds p := hA0
  rw [Try.params4] at hA hval
  obtain ⟨v0, vs0, d0, ds0, p0, q0, hargs, rfl, rfl, h0, r0⟩ := trodAll_cons hA
  obtain ⟨rfl, rfl, rfl⟩ := trodAll_nil r0
  obtain rfl : args = #[v0] := by cases args; simp_all
  obtain ⟨rfl, rfl⟩ := trodVars_none hV
  obtain ⟨A0, c0, xs0, rfl, hb0⟩ := view_bytes Try.underlying22 Try.underlying5 (by kernel_rfl) (hval 0 22 v0 rfl rfl) h0 (fun x hx => hW'.lt x (by simp [hx]))
  refine (walk A0 c0 xs0 W hb0).mono fun e W' ⟨he, hb⟩ => ?_
  subst he
  exact ⟨_, rfl, law_post rfl (by kernel_rfl) (by kernel_rfl) rfl Try.underlying4 hW' rfl rfl rfl hb⟩
theorem closed : joinedFacts Try.prog 4 Try.f4 Rows.fnProgramCostsSpec Rows.fnProgramCostsRow = true := by
  unfold joinedFacts
  rw [makeIs, mayIs, finalsIs]
  kernel_rfl
theorem over : Rows.fnProgramCostsRow.holds Try.pinned (OpenSpec.ofChange Rows.fnProgramCostsSpec) :=
  OpenClaim.holds_of_wide 4 Try.f4 rfl rfl rfl rfl rfl rfl rfl ⟨rfl, rfl, rfl, rfl, rfl⟩ rfl rfl rfl rfl rfl (by kernel_rfl) Try.func4 closed
    (of_decide_eq_true (by kernel_rfl)) (by unfold Func.isWrapper; first | (rw [if_pos (by decide +kernel)]; kernel_rfl) | (rw [if_neg (by decide +kernel)]; exact ⟨rfl, rfl⟩))
    (fun os started H enc _ => lifted os started H enc)
theorem proved : Rows.FnProgramCostsSaid := over
#print axioms proved

end programCosts
end Go.Proofs.Ytihbaieiempjeaa
