/- The law that sealing twice gives the original words, and every sealed state is possible (FnPads). No conditions. -/
import Derived.Test.YtdfomahaplcgoaaSeal
import Derived.Test.YtdfomahaplcgoaaDrawB
import Derived.Test.YtdfomahaplcgoaaPadsLaw
import Derived.Test.YtdfomahaplcgoaaHead
import Derived.Outline
set_option linter.unusedVariables false
namespace Go.Proofs.Ytdfomahaplcgoaa
open Go.RowKit Go.ChangeShapes Go.WideShapes Go.ChangeAt

theorem sameInts_same (A B : Option Addr) (c d : Nat) (xs : List Int) (w : World) (ha : Cells w w.heap.size A (ints xs)) (hc : Cells w w.heap.size B (ints xs)) (hn : xs.length ≤ 1000000000) :
    Calls Try.prog 20 #[.slice A xs.length c, .slice B xs.length d] w fun e w' => e = .returned (.bool true) ∧ Below w.heap.size w w' := by
  go_enter Try.func20, Try.ntmps20
  go_wp2
  go_loopw [5] (fun i wr => ∃ k : Nat, k ≤ xs.length ∧ i = .int .i64 k ∧ Below w.heap.size w wr) (fun i _ => xs.length - (intOf i).toNat)
  case atStart => exact ⟨0, Nat.zero_le _, rfl, Below.refl _ _⟩
  case round =>
    obtain ⟨k, hk, rfl, hb⟩ := hrel
    by_cases hlt : k < xs.length
    · obtain ⟨x, hx⟩ : ∃ x, xs[k]? = some x := ⟨_, List.getElem?_eq_getElem hlt⟩
      obtain ⟨b, off, rfl, hB, hcl⟩ := ha (by rw [ints_length]; omega)
      obtain ⟨b', off', rfl, hB', hcl'⟩ := hc (by rw [ints_length]; omega)
      have hcell : wr.cell? ⟨b, off + k, none⟩ = some (.int .i64 x) := (hb.cell (p := ⟨b, off + k, none⟩) hB).trans (hcl k _ (ints_get hx))
      have hcell' : wr.cell? ⟨b', off' + k, none⟩ = some (.int .i64 x) := (hb.cell (p := ⟨b', off' + k, none⟩) hB').trans (hcl' k _ (ints_get hx))
      have HB := hid hb
      have hlt' : (k : Int) < (xs.length : Int) := by omega
      clear hcl hcl' ha hc hb hx
      go_wp2
      go_quiet (fail)
      go_wp2
      go_roundw
      case rel => exact ⟨k + 1, by omega, by go_num, ⟨HB.out.os, HB.out.tape, HB.out.output, HB.out.size, HB.out.block⟩⟩
      case measure => simp [intOf]; omega
    · obtain rfl : k = xs.length := by omega
      go_wp2
      go_ret
      exact ⟨rfl, hb⟩
namespace pads
theorem iSeal_back (k n : Int) (A : Option Addr) (c : Nat) (xs : List Int) (w : World) (hs : sealL k n (sealL k n xs) = xs) (hc : Cells w w.heap.size A (ints (sealL k n xs))) (hn : (sealL k n xs).length ≤ 1000000000) :
    Calls Try.prog 19 #[.int .i64 k, .int .i64 n, .slice A (sealL k n xs).length c] w (GivesInts w xs) := by
  have h := iSealWords k n A c (sealL k n xs) w hc hn
  rw [hs] at h
  exact h
theorem iCount_at (A B : Option Addr) (c d n m : Nat) (v : Int) (xs ys : List Int) (w : World) (hn : xs.length = n) (hm : ys.length = m) (hv : countI xs ys = v) (hx : Cells w w.heap.size A (ints xs)) (hy : Cells w w.heap.size B (ints ys)) (hn2 : n ≤ 1000000000) (hm2 : m ≤ 1000000000) :
    Calls Try.prog 21 #[.slice A n c, .slice B m d] w fun e w' => e = .returned (.int .i64 v) ∧ w = w' := by
  subst hn hm hv
  exact iCountPads A B c d xs ys w hx hy hn2 hm2
theorem iWord_yes (x : Int) (w : World) (h : isWordB x = true) : Calls Try.prog 22 #[.int .i64 x] w fun e w' => e = .returned (.bool true) ∧ w = w' := by
  have := iIsWord x w
  rw [h] at this
  exact this
set_option maxRecDepth 100000 in
set_option maxHeartbeats 3200000 in
theorem walk (A : Option Addr) (c : Nat) (bs : List Int) (w : World) (hb : Bytes w w.heap.size A bs) :
    Calls Try.prog 5 #[.slice A bs.length c] w fun e w' => e = .returned (.bool true) ∧ Below w.heap.size w w' := by
  have hl := hb.len
  have HB := hid hb
  clear hb
  by_cases h1 : (1048576 : Int) < (bs.length : Int)
  · go_enter Try.func5, Try.ntmps5
    go_wp2_with (go_at_call 11; refine (big_any _ _ _ _ hl).mono ?_; rintro e w' ⟨rfl, rfl⟩)
    go_ret
    exact ⟨rfl, Below.refl _ _⟩
  go_enter Try.func5, Try.ntmps5
  go_wp2_with fail
  refine (big_any _ _ _ _ hl).mono ?_
  rintro e w' ⟨rfl, rfl⟩
  go_wp2_with fail
  refine (state_any _ _ _ _ HB.out).mono ?_
  rintro e w0 ⟨k, n, xs, A', c', hk, hn0, hn1, hx1, hx6, hws, rfl, hown, hb0⟩
  obtain ⟨gw, rfl, hg0, hg1, hgc⟩ := own_at hown (by omega)
  obtain ⟨x0, e0⟩ : ∃ x, xs[0]? = some x := ⟨_, List.getElem?_eq_getElem (by omega)⟩
  have hx0 := wordsB_get hws e0
  have hs1 := sealB_small (n := n) hk hn0 (by omega) hws (by omega)
  have hlen := sealL_len hs1
  have hsw := sealL_words hs1 hws
  have hs2 := sealB_small (n := n) hk hn0 (by omega) hsw (by omega)
  have HT := hid (sealL_twice hs1 hws hs2)
  have hy := (xor_word hx0 (show isWordB 1 = true from rfl)).2
  have HC1 := hid (countI_one hws hsw hlen.symm (by omega))
  have HC2 := hid (countI_one (words_set (i := 0) hws hy) hsw (by rw [List.length_set]; exact hlen.symm) (by rw [List.length_set]; omega))
  have HC3 := hid (countI_zero (xs := xs) (ys := sealL k n xs ++ [1]) (by rw [List.length_append, hlen]; simp))
  have HLEN := hid hlen
  have hl2 : (sealL k n xs).length ≤ 6 := by omega
  have hl3 : 1 ≤ (sealL k n xs).length := by omega
  have HTW := hid (tagI_word k n (sealL k n xs))
  have HX0 := hid hx0
  have HE0 := hid e0
  clear hk hws hgc hx0 hs1 hlen hsw hs2 hy e0
  have b_0 := hb0
  have s_0 := b_0.size
  have wd_in := own_in hown
  have wd_0 := hown
  clear hown
  go_wp2_with fail
  refine calls_forget1 (W := w0) (b0 := w0.heap.size) (t0 := 39) (c0 := #[.int .i64 k, .int .i64 n]) ?_ ?_ ?_
  (focus (first | ((repeat (first | (with_reducible assumption) | (with_reducible apply Blk.drew) | (with_reducible apply Blk.drewN) | (with_reducible apply Blk.new; first | rfl | (simp; done)) | (with_reducible apply Blk.alloc) | (with_reducible apply Blk.set_) | (with_reducible apply Blk.past; focus assumption) | (with_reducible apply Blk.far; focus (first | (simp; done) | (simp; omega) | (dsimp only; omega))))); done) | (apply Blk.cast; (case h => (repeat (first | (with_reducible assumption) | (with_reducible apply Blk.drew) | (with_reducible apply Blk.drewN) | (with_reducible apply Blk.new; first | rfl | (simp; done)) | (with_reducible apply Blk.alloc) | (with_reducible apply Blk.set_) | (with_reducible apply Blk.past; focus assumption) | (with_reducible apply Blk.far; focus (first | (simp; done) | (simp; omega) | (dsimp only; omega)))))); (case e => rfl))))
  (focus (repeat (first | (with_reducible exact Below.refl _ _) | (with_reducible refine Below.trans ?_ (Below.mono (by assumption) (by first | omega | (simp; done) | (simp; omega) | (simp [*]; done)))) | (with_reducible refine Below.alloc ?_ (by first | omega | (simp; done) | (simp; omega) | (simp [*]; done)) _) | (with_reducible refine Below.setCell ?_ (by first | omega | (simp; done) | (simp; omega) | (simp [*]; done)) _) | (with_reducible refine Below.drew ?_))))
  intro X1 v_n hX1
  have sX1 := hX1.size
  have v_lt := v_n.lt
  refine (iSealWords _ _ _ _ _ _ (Cells.of_own (own_below wd_0 hX1)) (by omega)).mono ?_
  rintro e w1 ⟨As, cs, rfl, sl_1, hb1⟩
  have s1 := hb1.size
  have hT1 := hX1.trans (hb1.mono sX1)
  have b_1 := b_0.trans (hT1.mono (by omega))
  have wd_1 := own_below wd_0 hT1
  have v_1 := Blk.past hb1 v_n
  have sl_in := own_in sl_1
  clear wd_0 b_0 v_n hX1 hT1 hb1
  have cell_v := v_1.cell
  have froz_v := v_1.frozen
  have lt_v := v_1.lt
  obtain ⟨gs, rfl, hgs0, hgs1, _⟩ := own_at sl_1 (by omega)
  go_upto_region 5 with fail
  go_wp2_with (at_builtin; refine wpList_appi rfl _ _ 24 rfl w1.heap.size 3 (.int .i64 0) 1 8 Try.underlying24 infoInt rfl (by decide) _ 0 [] rfl (own_lit #[] 0 rfl (Nat.le_refl _) (Nat.zero_le _) rfl) ⟨gw, 0, none⟩ (xs.length) _ (ints xs) rfl (by first | (simp [ints_length]; done) | (rw [ints_length, Nat.mul_one]; assumption) | (rw [ints_length, Nat.mul_one]; exact Hid.out (by assumption))) (news_of (own_cells wd_1 (by omega)).2 (own_cells wd_1 (by omega)).1 _) (ints_one xs) (by omega) (by decide) (by simp) ?_)
  intro A_ot c_ot w2 ot_2 hg2 _
  try simp only [Nat.zero_add, List.nil_append] at ot_2
  have hb2 : Below w1.heap.size w1 w2 := ((Below.refl _ _).alloc (Nat.le_refl _) _).grown hg2 (by simp) (fun q hq => by have h1 := own_here q hq; omega)
  have s2 := hb2.size
  have b_2 := b_1.trans (hb2.mono (by omega))
  have wd_2 := own_below wd_1 hb2
  have sl_2 := own_below sl_1 hb2
  have v_2 := Blk.past hb2 v_1
  have ot_in := own_in ot_2
  clear wd_1 sl_1 v_1 b_1 cell_v froz_v lt_v hg2 hb2
  have cell_v := v_2.cell
  have froz_v := v_2.frozen
  have lt_v := v_2.lt
  obtain ⟨go, rfl, ho0, ho1, hoc⟩ := own_at ot_2 (by omega)
  have hu := hoc 0 _ (ints_get HE0.out)
  have hfr := ot_2.frozenAt 0
  clear hoc
  go_upto_region 7 with fail
  first | refine wp_stored (ot_2.stored 0 _) ?_ | refine wp_storedd (ot_2.stored 0 _) ?_
  intro w3 ot_3 hg3
  have s3 := hg3.size
  have b_3 := gr_below hg3 b_2 (by omega) (fun q hq => by have h1 := ot_in q hq; omega)
  have wd_3 := gr_own hg3 wd_2 (fun q p hq hp => by have h1 := ot_in q hq; have h2 := wd_in p hp; omega)
  have sl_3 := gr_own hg3 sl_2 (fun q p hq hp => by have h1 := ot_in q hq; have h2 := sl_in p hp; omega)
  have v_3 := gr_blk hg3 v_2 (fun q hq => by have h1 := ot_in q hq; omega)
  clear wd_2 sl_2 ot_2 v_2 b_2 cell_v froz_v lt_v hg3
  have cell_v := v_3.cell
  have froz_v := v_3.frozen
  have lt_v := v_3.lt
  clear hu hfr
  go_wp2_with fail
  refine calls_forget0 (W := w3) ?_ ?_
  (focus (repeat (first | (with_reducible exact Below.refl _ _) | (with_reducible refine Below.trans ?_ (Below.mono (by assumption) (by first | omega | (simp; done) | (simp; omega) | (simp [*]; done)))) | (with_reducible refine Below.alloc ?_ (by first | omega | (simp; done) | (simp; omega) | (simp [*]; done)) _) | (with_reducible refine Below.setCell ?_ (by first | omega | (simp; done) | (simp; omega) | (simp [*]; done)) _) | (with_reducible refine Below.drew ?_))))
  intro X4 hX4
  have sX4 := hX4.size
  refine (iSeal_back _ _ _ _ _ _ HT.out (Cells.of_own (own_below sl_3 hX4)) (by omega)).mono ?_
  rintro e w4 ⟨At, ct, rfl, tt_4, hb4⟩
  have s4 := hb4.size
  have hT4 := hX4.trans (hb4.mono sX4)
  have b_4 := b_3.trans (hT4.mono (by omega))
  have wd_4 := own_below wd_3 hT4
  have sl_4 := own_below sl_3 hT4
  have ot_4 := own_below ot_3 hT4
  have v_4 := Blk.past hT4 v_3
  have tt_in := own_in tt_4
  clear wd_3 sl_3 ot_3 v_3 b_3 cell_v froz_v lt_v hX4 hT4 hb4
  have cell_v := v_4.cell
  have froz_v := v_4.frozen
  have lt_v := v_4.lt
  go_wp2_with fail
  refine calls_forget0 (W := w4) ?_ ?_
  (focus (repeat (first | (with_reducible exact Below.refl _ _) | (with_reducible refine Below.trans ?_ (Below.mono (by assumption) (by first | omega | (simp; done) | (simp; omega) | (simp [*]; done)))) | (with_reducible refine Below.alloc ?_ (by first | omega | (simp; done) | (simp; omega) | (simp [*]; done)) _) | (with_reducible refine Below.setCell ?_ (by first | omega | (simp; done) | (simp; omega) | (simp [*]; done)) _) | (with_reducible refine Below.drew ?_))))
  intro X5 hX5
  have sX5 := hX5.size
  refine (sameInts_same _ _ _ _ _ _ (Cells.of_own (own_below tt_4 hX5)) (Cells.of_own (own_below wd_4 hX5)) (by omega)).mono ?_
  rintro e w5 ⟨rfl, hb5⟩
  have s5 := hb5.size
  have hT5 := hX5.trans (hb5.mono sX5)
  have b_5 := b_4.trans (hT5.mono (by omega))
  have wd_5 := own_below wd_4 hT5
  have sl_5 := own_below sl_4 hT5
  have ot_5 := own_below ot_4 hT5
  have tt_5 := own_below tt_4 hT5
  have v_5 := Blk.past hT5 v_4
  clear wd_4 sl_4 ot_4 tt_4 v_4 b_4 cell_v froz_v lt_v hX5 hT5 hb5
  have cell_v := v_5.cell
  have froz_v := v_5.frozen
  have lt_v := v_5.lt
  go_wp2_with fail
  refine calls_forget0 (W := w5) ?_ ?_
  (focus (repeat (first | (with_reducible exact Below.refl _ _) | (with_reducible refine Below.trans ?_ (Below.mono (by assumption) (by first | omega | (simp; done) | (simp; omega) | (simp [*]; done)))) | (with_reducible refine Below.alloc ?_ (by first | omega | (simp; done) | (simp; omega) | (simp [*]; done)) _) | (with_reducible refine Below.setCell ?_ (by first | omega | (simp; done) | (simp; omega) | (simp [*]; done)) _) | (with_reducible refine Below.drew ?_))))
  intro X6 hX6
  have sX6 := hX6.size
  refine (iCount_at _ _ _ _ _ _ _ xs (sealL k n xs) _ rfl rfl HC1.out (Cells.of_own (own_below wd_5 hX6)) (Cells.of_own (own_below sl_5 hX6)) (by omega) (by omega)).mono ?_
  rintro e w' ⟨rfl, rfl⟩
  have b_6 := b_5.trans (hX6.mono (by omega))
  have wd_6 := own_below wd_5 hX6
  have sl_6 := own_below sl_5 hX6
  have ot_6 := own_below ot_5 hX6
  have tt_6 := own_below tt_5 hX6
  have v_6 := Blk.past hX6 v_5
  clear wd_5 sl_5 ot_5 tt_5 v_5 b_5 cell_v froz_v lt_v hX6
  have cell_v := v_6.cell
  have froz_v := v_6.frozen
  have lt_v := v_6.lt
  rw [show (ints xs).set 0 (.int .i64 (bits .xor .i64 x0 1)) = ints (xs.set 0 (bits .xor .i64 x0 1)) by simp [ints, List.map_set]] at ot_6
  go_wp2_with fail
  refine calls_forget0 (W := X6) ?_ ?_
  (focus (repeat (first | (with_reducible exact Below.refl _ _) | (with_reducible refine Below.trans ?_ (Below.mono (by assumption) (by first | omega | (simp; done) | (simp; omega) | (simp [*]; done)))) | (with_reducible refine Below.alloc ?_ (by first | omega | (simp; done) | (simp; omega) | (simp [*]; done)) _) | (with_reducible refine Below.setCell ?_ (by first | omega | (simp; done) | (simp; omega) | (simp [*]; done)) _) | (with_reducible refine Below.drew ?_))))
  intro X7 hX7
  have sX7 := hX7.size
  refine (iCount_at _ _ _ _ _ _ _ (xs.set 0 (bits .xor .i64 x0 1)) (sealL k n xs) _ (by simp) rfl HC2.out (Cells.of_own (own_below ot_6 hX7)) (Cells.of_own (own_below sl_6 hX7)) (by omega) (by omega)).mono ?_
  rintro e w' ⟨rfl, rfl⟩
  have b_7 := b_6.trans (hX7.mono (by omega))
  have wd_7 := own_below wd_6 hX7
  have sl_7 := own_below sl_6 hX7
  have ot_7 := own_below ot_6 hX7
  have tt_7 := own_below tt_6 hX7
  have v_7 := Blk.past hX7 v_6
  clear wd_6 sl_6 ot_6 tt_6 v_6 b_6 cell_v froz_v lt_v hX7
  have cell_v := v_7.cell
  have froz_v := v_7.frozen
  have lt_v := v_7.lt
  go_wp2_with (at_builtin; refine wpList_unguard (by rfl) ?_; refine wpList_app1k rfl _ _ 24 rfl X1.heap.size 3 (.int .i64 0) 8 Try.underlying24 infoInt rfl gs _ cs _ rfl (sl_7.alloc _) ⟨X7.heap.size, 0, none⟩ 1 _ rfl (one_new _ _ _) rfl (by omega) (by decide) ?_)
  intro A9 c9 w9 hA9 hS9 hg9
  have hg := grown_alloc hg9
  have z9 := hg.size
  have hw9 := Cells.of_own (gr_own hg wd_7 (fun q p hq hp => by have h1 := own_here p hp; have h2 : gs = q := Option.some.inj hq; omega))
  have hv9 := gr_blk hg v_7 (fun q hq => by have h2 : gs = q := Option.some.inj hq; omega)
  have hb9 := gr_below hg b_7 (by omega) (fun q hq => by have h2 : gs = q := Option.some.inj hq; omega)
  have cv := hv9.cell
  rw [show ints (sealL k n xs) ++ [.int .i64 1] = ints (sealL k n xs ++ [1]) from (ints_snoc _ _).symm] at hA9
  clear wd_7 sl_7 ot_7 tt_7 v_7 b_7 cell_v froz_v lt_v hg9 hg
  go_wp2_with fail
  refine (iCount_at _ _ _ _ _ _ _ xs (sealL k n xs ++ [1]) _ rfl (by simp) HC3.out hw9 hA9 (by omega) (by omega)).mono ?_
  rintro e w' ⟨rfl, rfl⟩
  go_wp2_with fail
  refine (iTagWords _ _ _ _ _ _ hS9 (by omega)).mono ?_
  rintro e w' ⟨rfl, rfl⟩
  go_wp2_with fail
  refine (iWord_yes _ _ HTW.out).mono ?_
  rintro e w' ⟨rfl, rfl⟩
  go_wp2
  go_ret
  exact ⟨rfl, hb9⟩
set_option maxRecDepth 100000 in
theorem lifted (os : Os) (started : os.Started) (H : Type) (enc : TypeId × Value → H) :
    ReturnsInHanded {} Try.checked os 5 .any (Rows.fnPadsSpec.pre6 enc Try.prog Try.f5 Rows.fnPadsRow.domain false) (Rows.fnPadsSpec.post enc Try.prog Try.f5 false true false false) := by
  refine returnsInHanded_of_change (C := Try.checked) own started (by kernel_rfl) Try.func5
    (ChangeSpec.witness6 (enc := enc) (C := Try.checked) false ⟨#[], #[.slice none 0 0], []⟩ 8 (by kernel_rfl) (by kernel_rfl) (by kernel_rfl) (by kernel_rfl)) ?_
  intro W base args ds gs before hval0 hW _ _
  have hval : ∀ (j : Nat) t v, Try.f5.params[j]? = some t → args[j]? = some v → Value.okWide Try.prog W .any base t v := hval0
  have hW' := hW
  obtain ⟨p, q, hA0, hV, rfl, _, _⟩ := hW
  have hA : DataW.TrodAll enc Try.prog W 0 (fun _ => true) true Try.f5.params.toList args.toList ds p := hA0
  rw [Try.params5] at hA hval
  obtain ⟨v0, vs0, d0, ds0, p0, q0, hargs, rfl, rfl, h0, r0⟩ := trodAll_cons hA
  obtain ⟨rfl, rfl, rfl⟩ := trodAll_nil r0
  obtain rfl : args = #[v0] := by cases args; simp_all
  obtain ⟨rfl, rfl⟩ := trodVars_none hV
  obtain ⟨A0, c0, xs0, rfl, hb0⟩ := view_bytes Try.underlying22 Try.underlying5 (by kernel_rfl) (hval 0 22 v0 rfl rfl) h0 (fun x hx => hW'.lt x (by simp [hx]))
  refine (walk A0 c0 xs0 W hb0).mono fun e W' ⟨he, hb⟩ => ?_
  subst he
  exact ⟨_, rfl, law_post rfl (by kernel_rfl) (by kernel_rfl) rfl Try.underlying4 hW' rfl rfl rfl hb⟩
theorem closed : joinedFacts Try.prog 5 Try.f5 Rows.fnPadsSpec Rows.fnPadsRow = true := by
  unfold joinedFacts
  rw [makeIs, mayIs, finalsIs]
  kernel_rfl
theorem over : Rows.fnPadsRow.holds Try.pinned (OpenSpec.ofChange Rows.fnPadsSpec) :=
  OpenClaim.holds_of_wide 5 Try.f5 rfl rfl rfl rfl rfl rfl rfl ⟨rfl, rfl, rfl, rfl, rfl⟩ rfl rfl rfl rfl rfl (by kernel_rfl) Try.func5 closed
    (of_decide_eq_true (by kernel_rfl)) (by unfold Func.isWrapper; first | (rw [if_pos (by decide +kernel)]; kernel_rfl) | (rw [if_neg (by decide +kernel)]; exact ⟨rfl, rfl⟩))
    (fun os started H enc _ => lifted os started H enc)
theorem proved : Rows.FnPadsSaid := over
#print axioms proved

end pads
end Go.Proofs.Ytdfomahaplcgoaa
