/- More of the reference's draws: a number out of a list, a word, a vault and its words. Only what the laws need of them is kept. -/
import Derived.Test.YtdfomahaplcgoaaDraw
import Derived.Test.YtdfomahaplcgoaaPlain
import Derived.ArgAppend
namespace Go.Proofs.Ytdfomahaplcgoaa
open Go.RowKit

theorem news_of {w : World} {g : Nat} {xs : List Value} (h : ∀ i v, xs[i]? = some v → w.cell? ⟨g, i, none⟩ = some v) (hg : g < w.heap.size) (o : Obj) :
    ∀ (j : Nat) (u : Value), xs[j]? = some u → (w.alloc o).cell? ((⟨g, 0, none⟩ : Addr).add j) = some u := fun j u hu => by
  have e : (⟨g, 0, none⟩ : Addr).add j = ⟨g, j, none⟩ := by simp [Addr.add]; omega
  rw [e]
  exact cell_alloc (h j u hu) hg
theorem own_cells {w : World} {base e size n c g : Nat} {xs : List Value} (h : w.ownsRow base e size (.slice (some ⟨g, 0, none⟩) n c) n xs) (hn : 0 < n) :
    g < w.heap.size ∧ ∀ i v, xs[i]? = some v → w.cell? ⟨g, i, none⟩ = some v := by
  obtain ⟨g', e, _, h1, h2⟩ := own_at h hn
  injection e with e
  injection e with e _ _
  subst e
  exact ⟨h1, h2⟩
theorem wpList_unguard {P : Program} {w : World} {ops : Array Oper} {rest : List Oper} {o : Oper} {a : Act} {Q : Exit → Act → World → Prop} (hw : Region.wanted o (yielded ops a.tmps) = true)
    (h : wpList P ops Q ({ o with guard := none } :: rest) a w) : wpList P ops Q (o :: rest) a w := by
  unfold wpList at h ⊢
  rw [if_pos hw]
  rw [if_pos (by simp [Region.wanted])] at h
  exact h
theorem wpList_app1k {P : Program} {w : World} {ops : Array Oper} {rest : List Oper} {o : Oper} {a : Act} {Q : Exit → Act → World → Prop} (hgd : o.guard = none) (s x : Operand) (t : TypeId)
    (ho : o.op = .call { callee := .builtin .append, args := #[s, x], argTypes := #[t, t] })
    (base e : Nat) (z : Value) (bytes : Nat) (ht : P.underlying t = some (.slice e)) (hinfo : (P.info? e).map (fun i => (i.zero, i.size, i.bytes)) = some (some z, 1, bytes)) (hzs : z.cells.size = 1)
    (g n c : Nat) (xs : List Value) (hs : a.eval s = .slice (some ⟨g, 0, none⟩) n c) (hown : w.ownsRow base e 1 (.slice (some ⟨g, 0, none⟩) n c) n xs)
    (ad : Addr) (cc : Nat) (u : Value) (hx : a.eval x = .slice (some ad) 1 cc) (hnews : ∀ j v, [u][j]? = some v → w.cell? (ad.add j) = some v) (h1 : u.oneCell' = true)
    (hbound : n + 1 ≤ 1000000000) (hbytes : bytes ≤ 1000)
    (h : ∀ A c' w', Cells w' w'.heap.size A (xs ++ [u]) → Cells w' w'.heap.size (some ⟨g, 0, none⟩) xs → w.grownBy w' (some g) → wpList P ops Q rest (a.put o.dst (.slice A (n + 1) c')) w') : wpList P ops Q (o :: rest) a w := by
  obtain ⟨i, hi, hz0, hz1, hz2⟩ := info_parts hinfo
  have hmul : (n + 1) * bytes ≤ 1000000000 * 1000 := Nat.mul_le_mul hbound hbytes
  have hlen : xs.length = n := by simpa using hown.1
  rcases hown.2 with ⟨hv, _⟩ | ⟨g', cap, cur, hv, hg, hh, hn', hcap, hsz, htk⟩
  · injection hv with h2 _ _
    cases h2
  · injection hv with hA _ hcc
    injection hA with hA
    injection hA with hA _ _
    subst hA hcc
    have hlt : g < w.heap.size := by
      rcases Nat.lt_or_ge g w.heap.size with h0 | h0
      · exact h0
      · rw [Array.getElem?_eq_none h0] at hh; cases hh
    have hcell : ∀ i, w.cell? ⟨g, i, none⟩ = cur[i]? := fun i => by simp [World.cell?, hh]
    have hfr : ∀ i, w.frozen? ⟨g, i, none⟩ = false := fun i => by simp [World.frozen?, hh]
    have holds : ∀ j v, xs[j]? = some v → w.cell? ⟨g, j, none⟩ = some v := fun j v hv => by
      rw [hcell]
      subst htk
      rw [List.getElem?_take] at hv
      split at hv
      · simpa using hv
      · cases hv
    refine wpList_append_arg w hgd s x t ho e i z 1 bytes ht hi hz0 hz1 hz2 hzs (by decide) g 0 n c xs hs (by omega) (fun j v hv => by rw [Nat.zero_add]; exact holds j v hv) ad 1 cc [u] hx rfl hnews (by intro v hv; simp at hv; subst hv; exact h1)
      (fun hr j hj => ?_) (by unfold maxLen; omega) (by omega) (fun hr => ?_) (fun hr v' w' hown' hg' => ?_)
    · rw [hcell, hfr]
      refine ⟨?_, rfl⟩
      have : 0 + n * 1 + j < cur.size := by simp at hj; omega
      rw [Array.getElem?_eq_getElem this]
      rfl
    · have hb0 : (w.cell? ⟨g, 0 + n * 1, none⟩).isSome = true := by
        rw [hcell]
        have : 0 + n * 1 < cur.size := by omega
        rw [Array.getElem?_eq_getElem this]
        rfl
      have hset : w.setCells g (0 + n * 1) [u] = w.setCell ⟨g, 0 + n * 1, none⟩ u := rfl
      have hin := World.cell?_setCells_in g [u] (0 + n * 1) w (fun j hj => by simp at hj; subst hj; exact hb0) 0 (by simp)
      have hout : ∀ j v, j < n → w.cell? ⟨g, j, none⟩ = some v → (w.setCells g (0 + n * 1) [u]).cell? ⟨g, j, none⟩ = some v := fun j v hj hv => (World.cell?_setCells_out g [u] (0 + n * 1) w ⟨g, j, none⟩ (fun _ _ => .inl (by dsimp only; omega))).trans hv
      have hzz : (w.setCells g (0 + n * 1) [u]).heap.size = w.heap.size := by rw [hset]; simp
      refine h (some ⟨g, 0, none⟩) c _ (fun _ => ⟨g, 0, rfl, by omega, fun j v hv => ?_⟩) (fun _ => ⟨g, 0, rfl, by omega, fun j v hv => ?_⟩) ⟨rfl, rfl, rfl, by omega, fun k hk hne => ?_⟩
      · rw [Nat.zero_add j]
        by_cases hj : j < n
        · rw [List.getElem?_append_left (by omega)] at hv
          exact hout j v hj (holds j v hv)
        · have hj2 : j = n := by
            have := (List.getElem?_eq_some_iff.1 hv).1
            simp at this
            omega
          subst hj2
          rw [List.getElem?_append_right (by omega), hlen, Nat.sub_self] at hv
          simp at hv hin
          rw [← hv]
          simpa using hin
      · rw [Nat.zero_add j]
        have hj := (List.getElem?_eq_some_iff.1 hv).1
        exact hout j v (by omega) (holds j v hv)
      · exact Below.heap_setCell w _ u k (fun e => hne (by rw [e]))
    · obtain ⟨A, c', rfl⟩ := own_shape hown'
      refine h A c' w' (Cells.of_own hown') (fun _ => ⟨g, 0, rfl, Nat.lt_of_lt_of_le hlt hg'.size, fun j v hv => ?_⟩) ⟨hg'.os, hg'.tape, hg'.output, hg'.size, fun k hk _ => hg'.block k hk (by simp)⟩
      rw [Nat.zero_add]
      exact (World.cell?_of_block (hg'.block g hlt (by simp))).trans (holds j v hv)
theorem wp_stored {P : Program} {c : Code} {Q : Exit → Act → World → Prop} {a : Act} {w : World} {g j base e size n : Nat} {v u : Value} {xs : List Value}
    (hs : (w.setCell ⟨g, j, none⟩ u).ownsRow base e size v n xs ∧ w.grownBy (w.setCell ⟨g, j, none⟩ u) (some g))
    (h : ∀ W : World, W.ownsRow base e size v n xs → w.grownBy W (some g) → Code.wp P c Q a W) : Code.wp P c Q a (w.setCell ⟨g, j, none⟩ u) := h _ hs.1 hs.2
theorem wp_storedd {P : Program} {c : Code} {Q : Exit → Act → World → Prop} {a : Act} {w : World} {g j base e size n : Nat} {v u : Value} {xs : List Value}
    (hs : (w.setCell ⟨g, j, none⟩ u).ownsRow base e size v n xs ∧ w.grownBy (w.setCell ⟨g, j, none⟩ u) (some g))
    (h : ∀ W : World, W.ownsRow base e size v n xs → w.grownBy W (some g) → Code.wp P c Q a W) : Code.wp P c Q a (w.setCell ⟨g, j, none⟩ u).drew :=
  h _ hs.1.drew ⟨hs.2.os, hs.2.tape, hs.2.output, hs.2.size, hs.2.block⟩
theorem Cur.touch {L : List Nat} {w w' : World} {p n c : Nat} {A : Option Addr} (h : Cur w p A n c) (hT : Touch L w w') (hp : p ∉ L) : Cur w' p A n c := by
  obtain ⟨i, x, k, h0, h1⟩ := h
  exact ⟨i, x, Blk.touch hT k hp, h0, h1⟩
set_option maxRecDepth 100000 in
theorem pick_any (p : Nat) (A : Option Addr) (c : Nat) (bs : List Int) (B : Option Addr) (d : Nat) (xs : List Int) (w : World) (hx0 : 1 ≤ xs.length) (hx1 : xs.length ≤ 256) (hc : Cur w p A bs.length c) (hb : Bytes w p A bs)
    (g : Nat) (hB : B = some ⟨g, 0, none⟩) (hgp : g ≠ p) (hg : g < w.heap.size) (hx : ∀ i v, (ints xs)[i]? = some v → w.cell? ⟨g, i, none⟩ = some v) :
    Calls Try.prog 59 #[.pointer (some ⟨p, 0, none⟩), .slice B xs.length d] w fun e w' => ∃ r, r ∈ xs ∧ e = .returned (.int .i64 r) ∧ Cur w' p A bs.length c ∧ Touch [p] w w' := by
  subst hB
  have HX := hid hx
  clear hx
  go_enter Try.func59, Try.ntmps59
  go_wp2_with fail
  refine (below_any _ _ _ _ _ _ (by omega) (by omega) hc hb).mono ?_
  rintro e w1 ⟨r, rfl, hr0, hr1, hc1, hT1⟩
  obtain ⟨i, rfl⟩ := Int.eq_ofNat_of_zero_le hr0
  obtain ⟨x, hxi⟩ : ∃ x, xs[i]? = some x := ⟨_, List.getElem?_eq_getElem (by omega)⟩
  have hcell := hT1.cell (HX.out i _ (ints_get hxi)) (by dsimp only; omega) (by simp; omega)
  have hin := List.mem_of_getElem? hxi
  clear hxi
  go_wp2
  go_ret
  exact ⟨x, hin, rfl, hc1, hT1⟩
set_option maxRecDepth 100000 in
set_option maxHeartbeats 800000 in
theorem word_any (p : Nat) (A : Option Addr) (c : Nat) (bs : List Int) (w : World) (hc : Cur w p A bs.length c) (hb : Bytes w p A bs) :
    Calls Try.prog 46 #[.pointer (some ⟨p, 0, none⟩)] w fun e w' => ∃ r, e = .returned (.int .i64 r) ∧ isWordB r = true ∧ Cur w' p A bs.length c ∧ Touch [p] w w' := by
  have HB := hid hb
  have hp := hc.lt
  clear hb
  go_enter Try.func46, Try.ntmps46
  go_wp2_with fail
  refine (below_any _ _ _ _ _ _ (by omega) (by omega) hc HB.out).mono ?_
  rintro e w1 ⟨r, rfl, hr0, hr1, hc1, hT1⟩
  have z1 := hT1.size
  have hb1 := HB.out.touch hT1 (by omega)
  have HB1 := hid hb1
  have HC1 := hid hc1
  have HT1 := hid hT1
  clear hb1 hc1 hT1 hc
  have h3 : r = 0 ∨ r = 1 ∨ (r ≠ 0 ∧ r ≠ 1) := by omega
  rcases h3 with rfl | rfl | ⟨h4, h5⟩
  · go_wp2_with fail
    refine (pick_any _ _ _ _ _ _ [0, 1, 4294967295, 2147483648, 65536] _ (by decide) (by decide) (HC1.out.alloc _) ⟨(HB1.out.cells.below ((Below.refl _ _).alloc (by omega) _)), HB1.out.small, HB1.out.len⟩ w1.heap.size rfl (by omega) (by simp) ?_).mono ?_
    · intro i v hv
      have := many_new w1 (ints [0, 1, 4294967295, 2147483648, 65536]) 3 i v hv
      have e : (⟨w1.heap.size, 0, none⟩ : Addr).add i = ⟨w1.heap.size, i, none⟩ := by simp [Addr.add]; omega
      rw [e] at this
      exact this
    rintro e w2 ⟨r, hr, rfl, hc2, hT2⟩
    have hT := HT1.out.trans (((Touch.refl _ _).alloc _).trans hT2)
    have hw : isWordB r = true := by
      simp at hr
      rcases hr with rfl | rfl | rfl | rfl | rfl <;> rfl
    clear hr hT2
    go_wp2
    go_ret
    exact ⟨r, rfl, hw, hc2, hT⟩
  · go_wp2_with fail
    refine (below_any _ _ _ _ _ _ (by omega) (by omega) HC1.out HB1.out).mono ?_
    rintro e w2 ⟨r, rfl, hr0, hr1, hc2, hT2⟩
    have hT := HT1.out.trans hT2
    clear hT2
    go_wp2
    go_ret
    exact ⟨r, rfl, isWordB_iff.2 (by omega), hc2, hT⟩
  · have t0 : (r == 0) = false := by simpa using h4
    have t1 : (r == 1) = false := by simpa using h5
    clear h4 h5
    go_wp2_with fail
    refine (below_any _ _ _ _ _ _ (by omega) (by omega) HC1.out HB1.out).mono ?_
    rintro e w2 ⟨a, rfl, ha0, ha1, hc2, hT2⟩
    have z2 := hT2.size
    have hb2 := HB1.out.touch hT2 (by omega)
    go_wp2_with fail
    refine (below_any _ _ _ _ _ _ (by omega) (by omega) hc2 hb2).mono ?_
    rintro e w3 ⟨b, rfl, hb0, hb1, hc3, hT3⟩
    have hT := (HT1.out.trans hT2).trans hT3
    clear hT2 hT3 hb2 hc2
    go_wp2
    go_ret
    exact ⟨_, rfl, isWordB_iff.2 (by omega), hc3, hT⟩
theorem Bytes.more {w : World} {p q : Nat} {A : Option Addr} {bs : List Int} (h : Bytes w p A bs) (hq : p ≤ q) : Bytes w q A bs := ⟨h.cells.more hq, h.small, h.len⟩
theorem wordsB_app {xs : List Int} {r : Int} (h : wordsB xs = true) (hr : isWordB r = true) : wordsB (xs ++ [r]) = true := by
  unfold wordsB at *
  simp [h, hr, List.all_append]
set_option maxRecDepth 100000 in
set_option maxHeartbeats 1600000 in
theorem state_any (A : Option Addr) (c : Nat) (bs : List Int) (w : World) (hb : Bytes w w.heap.size A bs) :
    Calls Try.prog 18 #[.slice A bs.length c] w fun e w' => ∃ (k n : Int) (xs : List Int) (A' : Option Addr) (c' : Nat), isWordB k = true ∧ 0 ≤ n ∧ n < 9 ∧ 1 ≤ xs.length ∧ xs.length ≤ 6 ∧ wordsB xs = true ∧
      e = .returned (.tuple #[.agg #[.int .i64 k, .int .i64 n], .slice A' xs.length c']) ∧ w'.ownsRow w.heap.size 3 1 (.slice A' xs.length c') xs.length (ints xs) ∧ Below w.heap.size w w' := by
  have HB := hid hb
  clear hb
  go_enter Try.func18, Try.ntmps18
  go_wp2_with fail
  refine calls_forget1 (W := w) (b0 := w.heap.size) (t0 := 39) (c0 := #[.int .i64 0, .int .i64 0]) ?_ ?_ ?_
  (focus (repeat (first | (with_reducible assumption) | (with_reducible apply Blk.drew) | (with_reducible apply Blk.drewN) | (with_reducible apply Blk.new; first | rfl | (simp; done)) | (with_reducible apply Blk.alloc) | (with_reducible apply Blk.set_) | (with_reducible apply Blk.past; focus assumption) | (with_reducible apply Blk.far; focus (first | (simp; done) | (simp; omega) | (dsimp only; omega))))))
  (focus (repeat (first | (with_reducible exact Below.refl _ _) | (with_reducible refine Below.trans ?_ (Below.mono (by assumption) (by first | omega | (simp; done) | (simp; omega) | (simp [*]; done)))) | (with_reducible refine Below.alloc ?_ (by first | omega | (simp; done) | (simp; omega) | (simp [*]; done)) _) | (with_reducible refine Below.setCell ?_ (by first | omega | (simp; done) | (simp; omega) | (simp [*]; done)) _) | (with_reducible refine Below.drew ?_))))
  intro X kx hX
  have zX := hX.size
  have zk := kx.lt
  have hbx := (HB.out.step hX).more zX
  refine (new_any _ _ _ _ hbx).mono ?_
  rintro e w1 ⟨rfl, hc1, hb1⟩
  have z1 := hb1.size
  have zc := hc1.lt
  have HC := hid hc1
  have HW := hid (hX.trans (hb1.mono zX))
  have HK := hid (Blk.past hb1 kx)
  obtain ⟨p, hp⟩ : ∃ p, p = X.heap.size := ⟨_, rfl⟩
  rw [← hp] at HC zc
  rw [← hp]
  have hpw : w.heap.size < p := by omega
  clear hc1 hb1 hX kx hp hbx zX zk z1
  go_wp2_with fail
  go_loopw [5, 6] (fun o i wr => ∃ (j : Nat) (xs : List Int) (A' : Option Addr) (c' : Nat), j ≤ 6 ∧ i = .int .i64 j ∧ xs.length = j ∧ o = .slice A' j c' ∧ wordsB xs = true ∧
    wr.ownsRow w1.heap.size 3 1 (.slice A' j c') j (ints xs) ∧ Cur wr p A bs.length c ∧ Blk wr w.heap.size 39 #[.int .i64 0, .int .i64 0] ∧ Below w.heap.size w wr ∧ w1.heap.size ≤ wr.heap.size) (fun _ i _ => 6 - (intOf i).toNat)
  case atStart => exact ⟨0, [], some ⟨w1.heap.size, 0, none⟩, 0, Nat.zero_le _, rfl, rfl, rfl, rfl, own_lit (size := 1) #[] 0 rfl (Nat.le_refl _) (Nat.zero_le _) rfl, HC.out.alloc _, HK.out.alloc _, HW.out.alloc HW.out.size _, by simp⟩
  case round =>
    obtain ⟨j, xs, A', c', hj, rfl, hlen, rfl, hws, hown, hcu, hk, hbw, hz1⟩ := hrel
    have zw := hbw.size
    have HL := hid hlen
    have HS := hid hws
    have HO := hid hown
    have HU := hid hcu
    have HD := hid hbw
    have HKR := hid hk
    clear hlen hws hown hcu hbw hk
    go_wp2_with fail
    refine (below_any 6 _ _ _ _ _ (by omega) (by omega) HU.out ((HB.out.step HD.out).more (by omega))).mono ?_
    rintro e w2 ⟨r, rfl, hr0, hr1, hc2, hT⟩
    have z2 := hT.size
    have ho2 := own_touch' hT HO.out (fun q hq => by have h1 := own_in HO.out q hq; simp; omega)
    have hb2 := hT.below HD.out (by simp; omega)
    have hk2 := Blk.touch hT HKR.out (by simp; omega)
    have HO2 := hid ho2
    have HU2 := hid hc2
    have HD2 := hid hb2
    have HK2 := hid hk2
    clear hc2 hT ho2 hb2 hk2
    by_cases hlt : (j : Int) < 1 + r
    · go_wp2_with fail
      refine (word_any _ _ _ _ _ HU2.out ((HB.out.step HD2.out).more (by omega))).mono ?_
      rintro e w3 ⟨x, rfl, hxw, hc3, hT3⟩
      have z3 := hT3.size
      have ho3 := own_touch' hT3 HO2.out (fun q hq => by have h1 := own_in HO2.out q hq; have h2 := own_in HO.out q hq; simp; omega)
      have hb3 := hT3.below HD2.out (by simp; omega)
      have hk3 := Blk.touch hT3 HK2.out (by simp; omega)
      have HO3 := hid ho3
      have HU3 := hid hc3
      have HD3 := hid hb3
      have HK3 := hid hk3
      have HX := hid hxw
      clear hc3 hT3 ho3 hb3 hk3 hxw
      go_wp2_with (at_builtin; refine wpList_appi rfl _ _ 24 rfl w1.heap.size 3 (.int .i64 0) 1 8 Try.underlying24 infoInt rfl (by decide) _ j _ rfl (HO3.out.alloc _) ⟨w3.heap.size, 0, none⟩ 1 1 _ rfl rfl (one_new _ _ _) (one_one _) (by omega) (by decide) (by simp; omega) ?_)
      intro A4 c4 w4 ho4 hg4 li4
      have hg := grown_alloc hg4
      have z4 := hg.size
      have hlo : ∀ q, (Value.slice A' j c').ownBlock = some q → w1.heap.size ≤ q := fun q hq => (own_in HO3.out q hq).1
      have hc4 := HU3.out.grown hg (fun q hq => by have h1 := hlo q hq; omega)
      have hb4 := gr_below hg HD3.out (by omega) (fun q hq => by have h1 := hlo q hq; omega)
      have hk4 := gr_blk hg HK3.out (fun q hq => by have h1 := hlo q hq; omega)
      rw [← ints_snoc] at ho4
      have HO4 := hid ho4
      have HU4 := hid hc4
      have HD4 := hid hb4
      have HK4 := hid hk4
      clear hg hg4 li4 hlo ho4 hc4 hb4 hk4
      go_wp2
      go_roundw
      case rel => exact ⟨j + 1, xs ++ [x], A4, c4, by omega, by go_num, by rw [List.length_append, HL.out]; rfl, rfl, wordsB_app HS.out HX.out, HO4.out, HU4.out, HK4.out, HD4.out, by omega⟩
      case measure => simp [intOf]; omega
    · have hj1 : 1 ≤ j := by omega
      go_wp2_with fail
      refine (word_any _ _ _ _ _ HU2.out ((HB.out.step HD2.out).more (by omega))).mono ?_
      rintro e w3 ⟨x, rfl, hxw, hc3, hT3⟩
      have z3 := hT3.size
      have ho3 := own_touch' hT3 HO2.out (fun q hq => by have h1 := own_in HO2.out q hq; have h2 := own_in HO.out q hq; simp; omega)
      have hb3 := hT3.below HD2.out (by simp; omega)
      have hk3 := Blk.touch hT3 HK2.out (by simp; omega)
      have HX := hid hxw
      clear hT3 hxw
      go_wp2_with fail
      refine (below_any 9 _ _ _ _ _ (by omega) (by omega) hc3 ((HB.out.step hb3).more (by omega))).mono ?_
      rintro e w4 ⟨n, rfl, hn0, hn1, hc4, hT4⟩
      have z4 := hT4.size
      have ho4 := own_touch' hT4 ho3 (fun q hq => by have h1 := own_in HO2.out q hq; have h2 := own_in HO.out q hq; simp; omega)
      have hb4 := hT4.below hb3 (by simp; omega)
      have hk4 := Blk.touch hT4 hk3 (by simp; omega)
      have c0 := hk4.cell
      have f0 := hk4.frozen
      have l0 := hk4.lt
      have HO4 := hid ho4
      have HD4 := hid hb4
      clear hT4 hc4 hc3 ho3 hb3 hk3 ho4 hb4
      go_wp2_with fail
      ((try simp only [Exit.inBlock, Exit.then]); apply bodyPost_ret0; focus ((try simp only [results, Try.results18]); (try go_simp); (try rfl)))
      refine ⟨x, n, xs, A', c', HX.out, hn0, hn1, by rw [HL.out]; exact hj1, by rw [HL.out]; exact hj, HS.out, by rw [HL.out], ?_, ?_⟩
      · rw [HL.out]
        exact own_weak (own_set (own_set HO4.out _ _ (by dsimp only; omega)) _ _ (by dsimp only; omega)) (by omega)
      · have hb5 := HD4.out
        repeat (first | (with_reducible exact Below.refl _ _) | (with_reducible refine Below.trans ?_ (Below.mono (by assumption) (by first | omega | (simp; done) | (simp; omega) | (simp [*]; done)))) | (with_reducible refine Below.alloc ?_ (by first | omega | (simp; done) | (simp; omega) | (simp [*]; done)) _) | (with_reducible refine Below.setCell ?_ (by first | omega | (simp; done) | (simp; omega) | (simp [*]; done)) _) | (with_reducible refine Below.drew ?_))
end Go.Proofs.Ytdfomahaplcgoaa
