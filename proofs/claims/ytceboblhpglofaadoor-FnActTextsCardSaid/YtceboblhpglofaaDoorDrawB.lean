/- More of the reference's draws: a number out of a list, a word, a vault and its words. Only what the laws need of them is kept. -/
import Derived.Test.YtceboblhpglofaaDoorDraw
import Derived.Test.YtceboblhpglofaaDoorPlain
import Derived.ArgAppend
namespace Go.Proofs.YtceboblhpglofaaDoor
open Go.RowKit

theorem news_of {w : World} {g : Nat} {xs : List Value} (h : ∀ i v, xs[i]? = some v → w.cell? ⟨g, i, none⟩ = some v) (hg : g < w.heap.size) (o : Obj) :
    ∀ (j : Nat) (u : Value), xs[j]? = some u → (w.alloc o).cell? ((⟨g, 0, none⟩ : Addr).add j) = some u := fun j u hu => by
  have e : (⟨g, 0, none⟩ : Addr).add j = ⟨g, j, none⟩ := by simp [Addr.add]; omega
  rw [e]
  exact cell_alloc (h j u hu) hg
theorem own_cells {w : World} {base e size n c g : Nat} {xs : List Value} (h : w.ownsRow base e size (.slice (some ⟨g, 0, none⟩) n c) n xs) (hn : 0 < n) :
    g < w.heap.size ∧ ∀ i v, xs[i]? = some v → w.cell? ⟨g, i, none⟩ = some v := by
  obtain ⟨g', e, _, h1, h2⟩ := own_at h hn
  injection e with e
  injection e with e _ _
  subst e
  exact ⟨h1, h2⟩
theorem wpList_unguard {P : Program} {w : World} {ops : Array Oper} {rest : List Oper} {o : Oper} {a : Act} {Q : Exit → Act → World → Prop} (hw : Region.wanted o (yielded ops a.tmps) = true)
    (h : wpList P ops Q ({ o with guard := none } :: rest) a w) : wpList P ops Q (o :: rest) a w := by
  unfold wpList at h ⊢
  rw [if_pos hw]
  rw [if_pos (by simp [Region.wanted])] at h
  exact h
theorem wpList_app1k {P : Program} {w : World} {ops : Array Oper} {rest : List Oper} {o : Oper} {a : Act} {Q : Exit → Act → World → Prop} (hgd : o.guard = none) (s x : Operand) (t : TypeId)
    (ho : o.op = .call { callee := .builtin .append, args := #[s, x], argTypes := #[t, t] })
    (base e : Nat) (z : Value) (bytes : Nat) (ht : P.underlying t = some (.slice e)) (hinfo : (P.info? e).map (fun i => (i.zero, i.size, i.bytes)) = some (some z, 1, bytes)) (hzs : z.cells.size = 1)
    (g n c : Nat) (xs : List Value) (hs : a.eval s = .slice (some ⟨g, 0, none⟩) n c) (hown : w.ownsRow base e 1 (.slice (some ⟨g, 0, none⟩) n c) n xs)
    (ad : Addr) (cc : Nat) (u : Value) (hx : a.eval x = .slice (some ad) 1 cc) (hnews : ∀ j v, [u][j]? = some v → w.cell? (ad.add j) = some v) (h1 : u.oneCell' = true)
    (hbound : n + 1 ≤ 1000000000) (hbytes : bytes ≤ 1000)
    (h : ∀ A c' w', Cells w' w'.heap.size A (xs ++ [u]) → Cells w' w'.heap.size (some ⟨g, 0, none⟩) xs → w.grownBy w' (some g) → wpList P ops Q rest (a.put o.dst (.slice A (n + 1) c')) w') : wpList P ops Q (o :: rest) a w := by
  obtain ⟨i, hi, hz0, hz1, hz2⟩ := info_parts hinfo
  have hmul : (n + 1) * bytes ≤ 1000000000 * 1000 := Nat.mul_le_mul hbound hbytes
  have hlen : xs.length = n := by simpa using hown.1
  rcases hown.2 with ⟨hv, _⟩ | ⟨g', cap, cur, hv, hg, hh, hn', hcap, hsz, htk⟩
  · injection hv with h2 _ _
    cases h2
  · injection hv with hA _ hcc
    injection hA with hA
    injection hA with hA _ _
    subst hA hcc
    have hlt : g < w.heap.size := by
      rcases Nat.lt_or_ge g w.heap.size with h0 | h0
      · exact h0
      · rw [Array.getElem?_eq_none h0] at hh; cases hh
    have hcell : ∀ i, w.cell? ⟨g, i, none⟩ = cur[i]? := fun i => by simp [World.cell?, hh]
    have hfr : ∀ i, w.frozen? ⟨g, i, none⟩ = false := fun i => by simp [World.frozen?, hh]
    have holds : ∀ j v, xs[j]? = some v → w.cell? ⟨g, j, none⟩ = some v := fun j v hv => by
      rw [hcell]
      subst htk
      rw [List.getElem?_take] at hv
      split at hv
      · simpa using hv
      · cases hv
    refine wpList_append_arg w hgd s x t ho e i z 1 bytes ht hi hz0 hz1 hz2 hzs (by decide) g 0 n c xs hs (by omega) (fun j v hv => by rw [Nat.zero_add]; exact holds j v hv) ad 1 cc [u] hx rfl hnews (by intro v hv; simp at hv; subst hv; exact h1)
      (fun hr j hj => ?_) (by unfold maxLen; omega) (by omega) (fun hr => ?_) (fun hr v' w' hown' hg' => ?_)
    · rw [hcell, hfr]
      refine ⟨?_, rfl⟩
      have : 0 + n * 1 + j < cur.size := by simp at hj; omega
      rw [Array.getElem?_eq_getElem this]
      rfl
    · have hb0 : (w.cell? ⟨g, 0 + n * 1, none⟩).isSome = true := by
        rw [hcell]
        have : 0 + n * 1 < cur.size := by omega
        rw [Array.getElem?_eq_getElem this]
        rfl
      have hset : w.setCells g (0 + n * 1) [u] = w.setCell ⟨g, 0 + n * 1, none⟩ u := rfl
      have hin := World.cell?_setCells_in g [u] (0 + n * 1) w (fun j hj => by simp at hj; subst hj; exact hb0) 0 (by simp)
      have hout : ∀ j v, j < n → w.cell? ⟨g, j, none⟩ = some v → (w.setCells g (0 + n * 1) [u]).cell? ⟨g, j, none⟩ = some v := fun j v hj hv => (World.cell?_setCells_out g [u] (0 + n * 1) w ⟨g, j, none⟩ (fun _ _ => .inl (by dsimp only; omega))).trans hv
      have hzz : (w.setCells g (0 + n * 1) [u]).heap.size = w.heap.size := by rw [hset]; simp
      refine h (some ⟨g, 0, none⟩) c _ (fun _ => ⟨g, 0, rfl, by omega, fun j v hv => ?_⟩) (fun _ => ⟨g, 0, rfl, by omega, fun j v hv => ?_⟩) ⟨rfl, rfl, rfl, by omega, fun k hk hne => ?_⟩
      · rw [Nat.zero_add j]
        by_cases hj : j < n
        · rw [List.getElem?_append_left (by omega)] at hv
          exact hout j v hj (holds j v hv)
        · have hj2 : j = n := by
            have := (List.getElem?_eq_some_iff.1 hv).1
            simp at this
            omega
          subst hj2
          rw [List.getElem?_append_right (by omega), hlen, Nat.sub_self] at hv
          simp at hv hin
          rw [← hv]
          simpa using hin
      · rw [Nat.zero_add j]
        have hj := (List.getElem?_eq_some_iff.1 hv).1
        exact hout j v (by omega) (holds j v hv)
      · exact Below.heap_setCell w _ u k (fun e => hne (by rw [e]))
    · obtain ⟨A, c', rfl⟩ := own_shape hown'
      refine h A c' w' (Cells.of_own hown') (fun _ => ⟨g, 0, rfl, Nat.lt_of_lt_of_le hlt hg'.size, fun j v hv => ?_⟩) ⟨hg'.os, hg'.tape, hg'.output, hg'.size, fun k hk _ => hg'.block k hk (by simp)⟩
      rw [Nat.zero_add]
      exact (World.cell?_of_block (hg'.block g hlt (by simp))).trans (holds j v hv)
theorem wp_stored {P : Program} {c : Code} {Q : Exit → Act → World → Prop} {a : Act} {w : World} {g j base e size n : Nat} {v u : Value} {xs : List Value}
    (hs : (w.setCell ⟨g, j, none⟩ u).ownsRow base e size v n xs ∧ w.grownBy (w.setCell ⟨g, j, none⟩ u) (some g))
    (h : ∀ W : World, W.ownsRow base e size v n xs → w.grownBy W (some g) → Code.wp P c Q a W) : Code.wp P c Q a (w.setCell ⟨g, j, none⟩ u) := h _ hs.1 hs.2
theorem wp_storedd {P : Program} {c : Code} {Q : Exit → Act → World → Prop} {a : Act} {w : World} {g j base e size n : Nat} {v u : Value} {xs : List Value}
    (hs : (w.setCell ⟨g, j, none⟩ u).ownsRow base e size v n xs ∧ w.grownBy (w.setCell ⟨g, j, none⟩ u) (some g))
    (h : ∀ W : World, W.ownsRow base e size v n xs → w.grownBy W (some g) → Code.wp P c Q a W) : Code.wp P c Q a (w.setCell ⟨g, j, none⟩ u).drew :=
  h _ hs.1.drew ⟨hs.2.os, hs.2.tape, hs.2.output, hs.2.size, hs.2.block⟩
theorem Cur.touch {L : List Nat} {w w' : World} {p n c : Nat} {A : Option Addr} (h : Cur w p A n c) (hT : Touch L w w') (hp : p ∉ L) : Cur w' p A n c := by
  obtain ⟨i, x, k, h0, h1⟩ := h
  exact ⟨i, x, Blk.touch hT k hp, h0, h1⟩
theorem Bytes.more {w : World} {p q : Nat} {A : Option Addr} {bs : List Int} (h : Bytes w p A bs) (hq : p ≤ q) : Bytes w q A bs := ⟨h.cells.more hq, h.small, h.len⟩
theorem wordsB_app {xs : List Int} {r : Int} (h : wordsB xs = true) (hr : isWordB r = true) : wordsB (xs ++ [r]) = true := by
  unfold wordsB at *
  simp [h, hr, List.all_append]
end Go.Proofs.YtceboblhpglofaaDoor
