/- Lists of words: the tests, the tag, the sealed words, in the program and in the reference. -/
import Derived.Test.YtdfomahaplcgoaaIntS
import Derived.Deep.RegionHeld3
namespace Go.Proofs.Ytdfomahaplcgoaa
open Go.RowKit

theorem sWords (A : Option Addr) (c : Nat) (xs : List Int) (w : World) (hc : Cells w w.heap.size A (ints xs)) (hn : xs.length ≤ 1000000000) :
    Calls Try.prog 54 #[.slice A xs.length c] w fun e w' => e = .returned (.bool (wordsB xs && decide ((xs.length : Int) ≤ 40))) ∧ w = w' := by
  go_enter Try.func54, Try.ntmps54
  go_wp2
  go_loop [3] (fun i => ∃ k : Nat, k ≤ xs.length ∧ i = .int .i64 k ∧ wordsB (xs.take k) = true) (fun i => xs.length - (intOf i).toNat)
  case atStart => exact ⟨0, Nat.zero_le _, rfl, rfl⟩
  case round =>
    obtain ⟨k, hk, rfl, hw⟩ := hrel
    by_cases hlt : k < xs.length
    · obtain ⟨x, hx⟩ : ∃ x, xs[k]? = some x := ⟨_, List.getElem?_eq_getElem hlt⟩
      obtain ⟨b, off, rfl, hB, hcl⟩ := hc (by rw [ints_length]; omega)
      have hcell : w.cell? ⟨b, off + k, none⟩ = some (.int .i64 x) := hcl k _ (ints_get hx)
      have HW := hid hw
      have HX := hid hx
      clear hcl hc hw hx
      cases hb : isWordB x
      · go_wp2_with (go_at_call 60; refine (sIsWord _ _).mono ?_; rintro e w' ⟨rfl, rfl⟩)
        go_ret
        exact ⟨ret_bool (by rw [wordsB_no HX.out hb]; rfl), rfl⟩
      · go_wp2_with (go_at_call 60; refine (sIsWord _ _).mono ?_; rintro e w' ⟨rfl, rfl⟩)
        go_round
        case rel => exact ⟨k + 1, by omega, by go_num, wordsB_snoc HX.out HW.out hb⟩
        case measure => simp [intOf]; omega
    · obtain rfl : k = xs.length := by omega
      rw [List.take_length] at hw
      go_wp2
      go_ret
      exact ⟨rfl, rfl⟩
theorem sAsk (k n : Int) (A : Option Addr) (c : Nat) (xs : List Int) (w : World) (hc : Cells w w.heap.size A (ints xs)) (hn : xs.length ≤ 1000000000) :
    Calls Try.prog 63 #[.int .i64 k, .int .i64 n, .slice A xs.length c] w fun e w' => e = .returned (.bool (sealB k n xs)) ∧ w = w' := by
  cases h1 : isWordB k; rotate_left
  cases h2 : inB n 0 100000
  all_goals
    have hR : sealB k n xs = (isWordB k && inB n 0 100000 && (wordsB xs && decide ((xs.length : Int) ≤ 40))) := rfl
    try rw [h1] at hR
    try rw [h2] at hR
    simp only [Bool.false_and, Bool.and_false, Bool.and_self, Bool.true_and] at hR
    rw [hR]
    clear hR
    go_enter Try.func63, Try.ntmps63
    go_wp2_with (first | (go_at_call 60; refine (sIsWord _ _).mono ?_; rintro e w' ⟨rfl, rfl⟩) | (go_at_call 50; refine (sWithin _ _ _ _).mono ?_; rintro e w' ⟨rfl, rfl⟩) | (go_at_call 54; refine (sWords _ _ _ _ hc hn).mono ?_; rintro e w' ⟨rfl, rfl⟩))
    go_ret
    exact ⟨rfl, rfl⟩
theorem iMay (k n : Int) (A : Option Addr) (c : Nat) (xs : List Int) (w : World) (hc : Cells w w.heap.size A (ints xs)) (hn : xs.length ≤ 1000000000) :
    Calls Try.prog 47 #[.int .i64 k, .int .i64 n, .slice A xs.length c] w fun e w' => e = .returned (.bool (sealB k n xs)) ∧ w = w' := by
  have hR : sealB k n xs = (isWordB k && inB n 0 100000 && (wordsB xs && decide ((xs.length : Int) ≤ 40))) := rfl
  have HR := hid hR
  clear hR
  go_enter Try.func47, Try.ntmps47
  go_wp2
  go_loop [8, 11] (fun _ i => ∃ j : Nat, j ≤ xs.length ∧ i = .int .i64 j ∧ wordsB (xs.take j) = true) (fun _ i => xs.length - (intOf i).toNat)
  case atStart => exact ⟨0, Nat.zero_le _, rfl, rfl⟩
  case round =>
    obtain ⟨j, hj, rfl, hw⟩ := hrel
    by_cases hlt : j < xs.length
    · obtain ⟨x, hx⟩ : ∃ x, xs[j]? = some x := ⟨_, List.getElem?_eq_getElem hlt⟩
      obtain ⟨b, off, rfl, hB, hcl⟩ := hc (by rw [ints_length]; omega)
      have hcell : w.cell? ⟨b, off + j, none⟩ = some (.int .i64 x) := hcl j _ (ints_get hx)
      have HW := hid hw
      have HX := hid hx
      clear hcl hc hw hx
      cases hb : isWordB x
      · go_wp2_with (go_at_call 22; refine (iIsWord _ _).mono ?_; rintro e w' ⟨rfl, rfl⟩)
        go_ret
        exact ⟨ret_bool (by rw [HR.out, wordsB_no HX.out hb]; simp), rfl⟩
      · go_wp2_with (go_at_call 22; refine (iIsWord _ _).mono ?_; rintro e w' ⟨rfl, rfl⟩)
        go_round
        case rel => exact ⟨j + 1, by omega, by go_num, wordsB_snoc HX.out HW.out hb⟩
        case measure => simp [intOf]; omega
    · obtain rfl : j = xs.length := by omega
      rw [List.take_length] at hw
      have HW := hid hw
      clear hw
      cases h1 : isWordB k
      · go_wp2_with (first | (go_at_call 22; refine (iIsWord _ _).mono ?_; rintro e w' ⟨rfl, rfl⟩) | (go_at_call 45; refine (iWithin _ _ _ _).mono ?_; rintro e w' ⟨rfl, rfl⟩))
        go_ret
        exact ⟨ret_bool (by rw [HR.out, h1]; rfl), rfl⟩
      · cases h2 : inB n 0 100000
        · go_wp2_with (first | (go_at_call 22; refine (iIsWord _ _).mono ?_; rintro e w' ⟨rfl, rfl⟩) | (go_at_call 45; refine (iWithin _ _ _ _).mono ?_; rintro e w' ⟨rfl, rfl⟩))
          go_ret
          exact ⟨ret_bool (by rw [HR.out, h2]; simp), rfl⟩
        · go_wp2_with (first | (go_at_call 22; refine (iIsWord _ _).mono ?_; rintro e w' ⟨rfl, rfl⟩) | (go_at_call 45; refine (iWithin _ _ _ _).mono ?_; rintro e w' ⟨rfl, rfl⟩))
          go_ret
          exact ⟨ret_bool (by rw [HR.out, h1, h2, HW.out]; simp), rfl⟩
theorem sTagWords (k n : Int) (A : Option Addr) (c : Nat) (xs : List Int) (w : World) (hc : Cells w w.heap.size A (ints xs)) (hn : xs.length ≤ 1000000000) :
    Calls Try.prog 55 #[.int .i64 k, .int .i64 n, .slice A xs.length c] w fun e w' => e = .returned (.int .i64 (tagI k n xs)) ∧ w = w' := by
  have hR : tagI k n xs = if sealB k n xs then tagTo k n xs xs.length else 0 := rfl
  have HR := hid hR
  clear hR
  have HC := hid hc
  clear hc
  cases h1 : sealB k n xs
  · go_enter Try.func55, Try.ntmps55
    go_wp2_with (go_at_call 63; refine (sAsk _ _ _ _ _ _ HC.out hn).mono ?_; rintro e w' ⟨rfl, rfl⟩)
    go_ret
    exact ⟨ret_int (by rw [HR.out, h1]; rfl), rfl⟩
  · go_enter Try.func55, Try.ntmps55
    go_wp2_with (first | (go_at_call 63; refine (sAsk _ _ _ _ _ _ HC.out hn).mono ?_; rintro e w' ⟨rfl, rfl⟩) | (go_at_call 62; refine (sKeyed _ _ _ _).mono ?_; rintro e w' ⟨rfl, rfl⟩))
    go_loop [7, 8] (fun r i => ∃ j : Nat, j ≤ xs.length ∧ i = .int .i64 j ∧ r = .int .i64 (tagTo k n xs j)) (fun _ i => xs.length - (intOf i).toNat)
    case atStart => exact ⟨0, Nat.zero_le _, rfl, rfl⟩
    case round =>
      obtain ⟨j, hj, rfl, rfl⟩ := hrel
      by_cases hlt : j < xs.length
      · obtain ⟨x, hx⟩ : ∃ x, xs[j]? = some x := ⟨_, List.getElem?_eq_getElem hlt⟩
        obtain ⟨b, off, rfl, hB, hcl⟩ := HC.out (by rw [ints_length]; omega)
        have hcell : w.cell? ⟨b, off + j, none⟩ = some (.int .i64 x) := hcl j _ (ints_get hx)
        have HX := hid (tagTo_succ (k := k) (n := n) hx)
        clear hcl hx
        go_wp2_with (go_at_call 62; refine (sKeyed _ _ _ _).mono ?_; rintro e w' ⟨rfl, rfl⟩)
        go_round
        case rel => exact ⟨j + 1, by omega, by go_num, by rw [HX.out]⟩
        case measure => simp [intOf]; omega
      · obtain rfl : j = xs.length := by omega
        go_wp2
        go_ret
        exact ⟨ret_int (by rw [HR.out, h1]; rfl), rfl⟩
theorem iTagWords (k n : Int) (A : Option Addr) (c : Nat) (xs : List Int) (w : World) (hc : Cells w w.heap.size A (ints xs)) (hn : xs.length ≤ 1000000000) :
    Calls Try.prog 23 #[.int .i64 k, .int .i64 n, .slice A xs.length c] w fun e w' => e = .returned (.int .i64 (tagI k n xs)) ∧ w = w' := by
  have hR : tagI k n xs = if sealB k n xs then tagTo k n xs xs.length else 0 := rfl
  have HR := hid hR
  clear hR
  have HC := hid hc
  clear hc
  cases h1 : sealB k n xs
  · go_enter Try.func23, Try.ntmps23
    go_wp2_with (go_at_call 47; refine (iMay _ _ _ _ _ _ HC.out hn).mono ?_; rintro e w' ⟨rfl, rfl⟩)
    go_ret
    exact ⟨ret_int (by rw [HR.out, h1]; rfl), rfl⟩
  · go_enter Try.func23, Try.ntmps23
    go_wp2_with (first | (go_at_call 47; refine (iMay _ _ _ _ _ _ HC.out hn).mono ?_; rintro e w' ⟨rfl, rfl⟩) | (go_at_call 44; refine (iKeyed _ _ _ _).mono ?_; rintro e w' ⟨rfl, rfl⟩))
    go_loop [7, 9, 20] (fun r _ i => ∃ j : Nat, j ≤ xs.length ∧ i = .int .i64 j ∧ r = .int .i64 (tagTo k n xs j)) (fun _ _ i => xs.length - (intOf i).toNat)
    case atStart => exact ⟨0, Nat.zero_le _, rfl, rfl⟩
    case round =>
      obtain ⟨j, hj, rfl, rfl⟩ := hrel
      by_cases hlt : j < xs.length
      · obtain ⟨x, hx⟩ : ∃ x, xs[j]? = some x := ⟨_, List.getElem?_eq_getElem hlt⟩
        obtain ⟨b, off, rfl, hB, hcl⟩ := HC.out (by rw [ints_length]; omega)
        have hcell : w.cell? ⟨b, off + j, none⟩ = some (.int .i64 x) := hcl j _ (ints_get hx)
        have HX := hid (tagTo_succ (k := k) (n := n) hx)
        clear hcl hx
        go_wp2_with (go_at_call 44; refine (iKeyed _ _ _ _).mono ?_; rintro e w' ⟨rfl, rfl⟩)
        go_round
        case rel => exact ⟨j + 1, by omega, by go_num, by rw [HX.out]⟩
        case measure => simp [intOf]; omega
      · obtain rfl : j = xs.length := by omega
        go_wp2
        go_ret
        exact ⟨ret_int (by rw [HR.out, h1]; rfl), rfl⟩
set_option maxHeartbeats 800000 in
theorem iSealWords (k n : Int) (A : Option Addr) (c : Nat) (xs : List Int) (w : World) (hc : Cells w w.heap.size A (ints xs)) (hn : xs.length ≤ 1000000000) :
    Calls Try.prog 19 #[.int .i64 k, .int .i64 n, .slice A xs.length c] w (GivesInts w (sealL k n xs)) := by
  have hR : sealL k n xs = if sealB k n xs then sealTo k n xs xs.length else [] := rfl
  have HR := hid hR
  clear hR
  have HC := hid hc
  clear hc
  cases h1 : sealB k n xs
  · go_enter Try.func19, Try.ntmps19
    go_wp2_with (go_at_call 47; refine (iMay _ _ _ _ _ _ HC.out hn).mono ?_; rintro e w' ⟨rfl, rfl⟩)
    go_ret
    rw [HR.out, h1]
    exact ⟨none, 0, rfl, World.ownsRow_nil _ _ _ _, Below.refl _ _⟩
  · go_enter Try.func19, Try.ntmps19
    go_wp2_with (go_at_call 47; refine (iMay _ _ _ _ _ _ HC.out hn).mono ?_; rintro e w' ⟨rfl, rfl⟩)
    go_loopw [7, 8, 9, 18] (fun o _ _ i wr => ∃ (j : Nat) (A' : Option Addr) (c' : Nat), j ≤ xs.length ∧ i = .int .i64 j ∧ o = .slice A' j c' ∧ wr.ownsRow w.heap.size 3 1 (.slice A' j c') j (ints (sealTo k n xs j)) ∧ Below w.heap.size w wr) (fun _ _ _ i _ => xs.length - (intOf i).toNat)
    case atStart => exact ⟨0, some ⟨w.heap.size, 0, none⟩, 0, Nat.zero_le _, rfl, rfl, World.ownsRow_lit (size := 1) _ #[] 0 (Nat.le_refl _) (Nat.zero_le _) rfl, (Below.refl _ _).alloc (Nat.le_refl _) _⟩
    case round =>
      obtain ⟨j, A', c', hj, rfl, rfl, hown, hb⟩ := hrel
      by_cases hlt : j < xs.length
      · obtain ⟨x, hx⟩ : ∃ x, xs[j]? = some x := ⟨_, List.getElem?_eq_getElem hlt⟩
        obtain ⟨b, off, rfl, hB, hcl⟩ := HC.out (by rw [ints_length]; omega)
        have hcell : wr.cell? ⟨b, off + j, none⟩ = some (.int .i64 x) := (hb.cell (p := ⟨b, off + j, none⟩) hB).trans (hcl j _ (ints_get hx))
        have HX := hid (sealTo_succ (k := k) (n := n) hx)
        have HO := hid hown
        have HB := hid hb
        have hsz := hb.size
        clear hcl hx hown hb
        go_wp2_with (first | (go_at_call 44; refine (iKeyed _ _ _ _).mono ?_; rintro e w' ⟨rfl, rfl⟩) | (at_builtin; refine wpList_app _ rfl _ _ 24 rfl w.heap.size 3 (.int .i64 0) 1 8 Try.underlying24 infoInt rfl (by decide) _ j _ rfl (HO.out.alloc _) ⟨wr.heap.size, 0, none⟩ 1 1 _ rfl rfl (one_new _ _ _) (one_one _) (by omega) (by decide) (by simp; omega) ?_))
        intro A2 c2 w2 hown2 hg2
        have hb2 := below_app HB.out hsz HO.out (Nat.le_refl _) hg2
        rw [← ints_snoc, ← HX.out] at hown2
        have HO2 := hid hown2
        have HB2 := hid hb2
        clear hown2 hg2 hb2
        go_wp2
        go_roundw
        case rel => exact ⟨j + 1, A2, c2, by omega, by go_num, rfl, HO2.out, HB2.out⟩
        case measure => simp [intOf]; omega
      · obtain rfl : j = xs.length := by omega
        have HO := hid hown
        have HB := hid hb
        clear hown hb
        go_wp2
        go_ret
        have e : (sealL k n xs) = sealTo k n xs xs.length := by rw [HR.out, h1]; rfl
        have el : (sealTo k n xs xs.length).length = xs.length := sealTo_length _ _ _ _
        unfold GivesInts
        rw [e, el]
        exact ⟨A', c', rfl, HO.out, HB.out⟩
set_option maxHeartbeats 800000 in
theorem sSealWords (k n : Int) (A : Option Addr) (c : Nat) (xs : List Int) (w : World) (hc : Cells w w.heap.size A (ints xs)) (hn : xs.length ≤ 1000000000) :
    Calls Try.prog 56 #[.int .i64 k, .int .i64 n, .slice A xs.length c] w (GivesInts w (sealL k n xs)) := by
  have hR : sealL k n xs = if sealB k n xs then sealTo k n xs xs.length else [] := rfl
  have HR := hid hR
  clear hR
  have HC := hid hc
  clear hc
  go_enter Try.func56, Try.ntmps56
  go_wp2
  go_loopw [7, 8] (fun o i wr => ∃ (j : Nat) (A' : Option Addr) (c' : Nat), j ≤ xs.length ∧ i = .int .i64 j ∧ o = .slice A' j c' ∧ wr.ownsRow w.heap.size 3 1 (.slice A' j c') j (ints (sealTo k n xs j)) ∧ Below w.heap.size w wr ∧ (0 < j → sealB k n xs = true)) (fun _ i _ => xs.length - (intOf i).toNat)
  case atStart => exact ⟨0, some ⟨w.heap.size, 0, none⟩, 0, Nat.zero_le _, rfl, rfl, World.ownsRow_lit (size := 1) _ #[] 0 (Nat.le_refl _) (Nat.zero_le _) rfl, (Below.refl _ _).alloc (Nat.le_refl _) _, fun h => absurd h (by omega)⟩
  case round =>
    obtain ⟨j, A', c', hj, rfl, rfl, hown, hb, hs⟩ := hrel
    have hca := (HC.out.below hb).more hb.size
    have HCA := hid hca
    have HO := hid hown
    have HB := hid hb
    have hsz := hb.size
    have HS := hid hs
    clear hca hown hb hs
    by_cases hlt : j < xs.length
    · obtain ⟨x, hx⟩ : ∃ x, xs[j]? = some x := ⟨_, List.getElem?_eq_getElem hlt⟩
      obtain ⟨b, off, rfl, hB, hcl⟩ := HC.out (by rw [ints_length]; omega)
      have hcell0 : w.cell? ⟨b, off + j, none⟩ = some (.int .i64 x) := hcl j _ (ints_get hx)
      have hcell : wr.cell? ⟨b, off + j, none⟩ = some (.int .i64 x) := (HB.out.cell (p := ⟨b, off + j, none⟩) hB).trans hcell0
      have HX := hid (sealTo_succ (k := k) (n := n) hx)
      clear hcl hx
      cases h1 : sealB k n xs
      · go_wp2_with (go_at_call 63; refine (sAsk _ _ _ _ _ _ HCA.out hn).mono ?_; rintro e w' ⟨rfl, rfl⟩)
        go_ret
        have e : sealL k n xs = [] := by rw [HR.out, h1]; rfl
        have hj0 : j = 0 := by
          rcases Nat.eq_zero_or_pos j with h | h
          · exact h
          · have := HS.out h; rw [h1] at this; cases this
        subst hj0
        rw [e]
        exact ⟨A', c', rfl, HO.out, HB.out⟩
      · go_wp2_with (go_at_call 63; refine (sAsk _ _ _ _ _ _ HCA.out hn).mono ?_; rintro e w' ⟨rfl, rfl⟩)
        have hbw : b < wr.heap.size := by omega
        have hcellA : ∀ o, (wr.alloc o).cell? ⟨b, off + j, none⟩ = some (.int .i64 x) := fun o => (World.cell?_alloc_lt wr o ⟨b, off + j, none⟩ hbw).trans hcell
        have HA := hid hcellA
        have HCELL := hid hcell0
        clear hcellA hcell0
        go_region_held3 (fun w' => w'.cell? ⟨b, off + j, none⟩ = some (.int .i64 x)) (first | exact hcell | exact HA.out _ | exact hcell2) (first | (go_at_call 62; refine (sKeyed _ _ _ _).mono ?_; rintro e w' ⟨rfl, rfl⟩) | (refine step_app _ rfl _ _ 24 rfl w.heap.size 3 (.int .i64 0) 1 8 Try.underlying24 infoInt rfl (by decide) _ j _ rfl (HO.out.alloc _).drew ⟨wr.heap.size, 0, none⟩ 1 1 _ rfl rfl (one_new wr _ 3) (one_one _) (by omega) (by decide) (by simp; omega) ?_; intro A2 c2 w2 hown2 hg2; have hb2 := below_row ((HB.out.alloc hsz _).drew) (by simp; omega) HO.out (Nat.le_refl _) hg2; have hcell2 := (hb2.cell (p := ⟨b, off + j, none⟩) hB).trans HCELL.out; rw [← ints_snoc, ← HX.out] at hown2; have HO2 := hid hown2; have HB2 := hid hb2; clear hown2 hg2 hb2))
        go_wp2
        go_roundw
        case rel => exact ⟨j + 1, A2, c2, by omega, by go_num, rfl, HO2.out, HB2.out, by simp⟩
        case measure => simp [intOf]; omega
    · obtain rfl : j = xs.length := by omega
      go_wp2
      go_ret
      have e : sealL k n xs = sealTo k n xs xs.length := by
        rw [HR.out]
        cases h1 : sealB k n xs
        · have hj0 : xs.length = 0 := by
            rcases Nat.eq_zero_or_pos xs.length with h | h
            · exact h
            · have := HS.out h; rw [h1] at this; cases this
          rw [hj0]
          rfl
        · rfl
      have el : (sealTo k n xs xs.length).length = xs.length := sealTo_length _ _ _ _
      unfold GivesInts
      rw [e, el]
      exact ⟨A', c', rfl, HO.out, HB.out⟩
theorem iCountPads (A B : Option Addr) (c d : Nat) (xs ys : List Int) (w : World) (hx : Cells w w.heap.size A (ints xs)) (hy : Cells w w.heap.size B (ints ys)) (hn : xs.length ≤ 1000000000) (hm : ys.length ≤ 1000000000) :
    Calls Try.prog 21 #[.slice A xs.length c, .slice B ys.length d] w fun e w' => e = .returned (.int .i64 (countI xs ys)) ∧ w = w' := by
  have HX := hid hx
  have HY := hid hy
  clear hx hy
  cases h1 : ((xs.length : Int) != (ys.length : Int))
  cases h2 : sealB 0 0 xs; rotate_left
  cases h3 : sealB 0 0 ys
  all_goals
    have e0 : ∀ zs, sealB 0 0 zs = (wordsB zs && decide ((zs.length : Int) ≤ 40)) := fun _ => rfl
    have hR : countI xs ys = pick (!((xs.length : Int) != (ys.length : Int)) && (wordsB xs && decide ((xs.length : Int) ≤ 40)) && (wordsB ys && decide ((ys.length : Int) ≤ 40))) 1 0 := rfl
    rw [← e0, ← e0] at hR
    clear e0
    try rw [h1] at hR
    try rw [h2] at hR
    try rw [h3] at hR
    simp at hR
    rw [hR]
    clear hR
    go_enter Try.func21, Try.ntmps21
    go_wp2_with (first | (go_at_call 47; (with_reducible refine (iMay _ _ _ _ _ _ HX.out hn).mono ?_); rintro e w' ⟨rfl, rfl⟩) | (go_at_call 47; (with_reducible refine (iMay _ _ _ _ _ _ HY.out hm).mono ?_); rintro e w' ⟨rfl, rfl⟩))
    go_ret
    exact ⟨rfl, rfl⟩
end Go.Proofs.Ytdfomahaplcgoaa
