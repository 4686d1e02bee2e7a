/- The laws' own functions on slices of numbers: the copy, the comparison of equal ones, the marks, the count. -/
import Derived.Test.YtknkpajedbckmaaDoorWord
import Derived.Outline
import Derived.Laws.OwnMore
import Derived.Laws.MakeOwn
import Derived.OwnWalk
namespace Go.Proofs.YtknkpajedbckmaaDoor
open Go.RowKit

theorem infoInt : (Tryd.prog.info? 3).map (fun i => (i.zero, i.size, i.bytes)) = some (some (.int .i64 0), 1, 8) := by kernel_rfl

/-! plain: the list while it is copied, while it is marked -/
def copyTo (xs : List Int) (k : Nat) : List Value := ints (xs.take k) ++ List.replicate (xs.length - k) (.int .i64 0)
theorem copyTo_zero (xs : List Int) : copyTo xs 0 = List.replicate xs.length (.int .i64 0) := by simp [copyTo, ints]
theorem copyTo_all (xs : List Int) : copyTo xs xs.length = ints xs := by simp [copyTo]
theorem copyTo_set {xs : List Int} {k : Nat} {x : Int} (h : xs[k]? = some x) : (copyTo xs k).set k (.int .i64 x) = copyTo xs (k + 1) := by
  have hk : k < xs.length := (List.getElem?_eq_some_iff.1 h).1
  have e : xs.length - k = (xs.length - (k + 1)) + 1 := by omega
  unfold copyTo
  rw [take_snoc h, ints_snoc, e, List.replicate_succ, List.set_append_right _ _ (by simp [ints]; omega)]
  simp [ints, Nat.min_eq_left (Nat.le_of_lt hk)]
def markTo (k : Int) (vs : List Value) (j : Nat) : List Value := ints (marks k j) ++ vs.drop j
theorem markTo_zero (k : Int) (vs : List Value) : markTo k vs 0 = vs := by simp [markTo, ints, marks]
theorem markTo_all (k : Int) (vs : List Value) (n : Nat) (h : vs.length = n) : markTo k vs n = ints (marks k n) := by simp [markTo, ← h]
theorem markTo_set {k : Int} {vs : List Value} {j : Nat} (h : j < vs.length) : (markTo k vs j).set j (.int .i64 (k + j)) = markTo k vs (j + 1) := by
  unfold markTo
  have e : vs.drop j = vs[j] :: vs.drop (j + 1) := List.drop_eq_getElem_cons h
  rw [e, List.set_append_right _ _ (by rw [ints_length, marks_length]; omega), ints_length, marks_length, Nat.sub_self, List.set_cons_zero]
  show _ = ints (marks k j ++ [k + j]) ++ _
  rw [ints_snoc, List.append_assoc]
  rfl

/-- A call hands back these numbers in a row of its own, and leaves old memory alone. -/
def GivesInts (w : World) (xs : List Int) (e : Ending) (w' : World) : Prop :=
  ∃ A c, e = .returned (.slice A xs.length c) ∧ w'.ownsRow w.heap.size 3 1 (.slice A xs.length c) xs.length (ints xs) ∧ Below w.heap.size w w'
theorem toIntS_any (A : Option Addr) (c : Nat) (xs : List Int) (w : World) (hc : Cells w w.heap.size A (ints xs)) (hn : xs.length ≤ 1048576) :
    Calls Tryd.prog 28 #[.slice A xs.length c] w fun e w' => e = .returned (.slice (some ⟨w.heap.size, 0, none⟩) xs.length xs.length) ∧
      w'.ownsRow w.heap.size 3 1 (.slice (some ⟨w.heap.size, 0, none⟩) xs.length xs.length) xs.length (ints xs) ∧ Below w.heap.size w w' := by
  obtain ⟨i0, hi, hz0, hz1, hz2⟩ := info_parts infoInt
  go_enter Tryd.func28, Tryd.ntmps28
  go_wp2_with (at_make; refine wpList_make_full _ rfl _ _ 33 rfl w.heap.size 3 i0 (.int .i64 0) 1 Tryd.underlying33 hi hz0 hz1 _ _ _ _ xs.length rfl rfl rfl rfl (by rw [hz2]; omega) (by unfold maxLen; omega) (Nat.le_refl _) ?_)
  intro w1 hown1 hg1
  have hb1 : Below w.heap.size w w1 := (Below.refl _ _).grown hg1 (Nat.le_refl _) (fun k hk => by cases hk)
  have hsz1 := hb1.size
  have hL : (madeCells #[Value.int IntKind.i64 0] xs.length).toList = copyTo xs 0 := by
    rw [copyTo_zero]; exact toList_madeCells_one _ _
  rw [hL] at hown1
  clear hL hg1 hi hz0 hz1 hz2
  go_wp2
  go_loopw [4] (fun i wr => ∃ k : Nat, k ≤ xs.length ∧ i = .int .i64 k ∧ wr.ownsRow w.heap.size 3 1 (.slice (some ⟨w.heap.size, 0, none⟩) xs.length xs.length) xs.length (copyTo xs k) ∧ Below w.heap.size w wr) (fun i _ => xs.length - (intOf i).toNat)
  case atStart => exact ⟨0, Nat.zero_le _, rfl, hown1, hb1⟩
  case round =>
    obtain ⟨k, hk, rfl, hown, hb⟩ := hrel
    by_cases hlt : k < xs.length
    · obtain ⟨x, hx⟩ : ∃ x, xs[k]? = some x := ⟨_, List.getElem?_eq_getElem hlt⟩
      obtain ⟨b, off, rfl, hB, hcl⟩ := hc (by rw [ints_length]; omega)
      have hcell : wr.cell? ⟨b, off + k, none⟩ = some (.int .i64 x) := (hb.cell (p := ⟨b, off + k, none⟩) hB).trans (hcl k _ (ints_get hx))
      have hold : ∃ u, wr.cell? ⟨w.heap.size, k, none⟩ = some u := by
        rw [hown.cellAt k (by omega)]
        have := hown.1
        exact ⟨_, List.getElem?_eq_getElem (by omega)⟩
      obtain ⟨u, hu⟩ := hold
      have hfr := hown.frozenAt k
      have hst := hown.stored k (.int .i64 x)
      rw [copyTo_set hx] at hst
      have HS := hid hst
      have HB := hid hb
      clear hcl hst hown hown1 hc hb hx
      go_wp2
      go_roundw
      case rel => exact ⟨k + 1, by omega, by go_num, HS.out.1, HB.out.setCell (Nat.le_refl _) _⟩
      case measure => simp [intOf]; omega
    · obtain rfl : k = xs.length := by omega
      rw [copyTo_all] at hown
      go_wp2
      go_ret
      exact ⟨rfl, hown, hb⟩
theorem eqIntS_same (A B : Option Addr) (c d : Nat) (xs : List Int) (w : World) (ha : Cells w w.heap.size A (ints xs)) (hc : Cells w w.heap.size B (ints xs)) (hn : xs.length ≤ 1000000000) :
    Calls Tryd.prog 33 #[.slice A xs.length c, .slice B xs.length d] w fun e w' => e = .returned (.bool true) ∧ Below w.heap.size w w' := by
  go_enter Tryd.func33, Tryd.ntmps33
  go_wp2
  go_loopw [5] (fun i wr => ∃ k : Nat, k ≤ xs.length ∧ i = .int .i64 k ∧ Below w.heap.size w wr) (fun i _ => xs.length - (intOf i).toNat)
  case atStart => exact ⟨0, Nat.zero_le _, rfl, Below.refl _ _⟩
  case round =>
    obtain ⟨k, hk, rfl, hb⟩ := hrel
    by_cases hlt : k < xs.length
    · obtain ⟨x, hx⟩ : ∃ x, xs[k]? = some x := ⟨_, List.getElem?_eq_getElem hlt⟩
      obtain ⟨b, off, rfl, hB, hcl⟩ := ha (by rw [ints_length]; omega)
      obtain ⟨b', off', rfl, hB', hcl'⟩ := hc (by rw [ints_length]; omega)
      have hcell : wr.cell? ⟨b, off + k, none⟩ = some (.int .i64 x) := (hb.cell (p := ⟨b, off + k, none⟩) hB).trans (hcl k _ (ints_get hx))
      have hcell' : wr.cell? ⟨b', off' + k, none⟩ = some (.int .i64 x) := (hb.cell (p := ⟨b', off' + k, none⟩) hB').trans (hcl' k _ (ints_get hx))
      have HB := hid hb
      have hlt' : (k : Int) < (xs.length : Int) := by omega
      clear hcl hcl' ha hc hb hx
      go_wp2
      go_quiet (fail)
      go_wp2
      go_roundw
      case rel => exact ⟨k + 1, by omega, by go_num, ⟨HB.out.os, HB.out.tape, HB.out.output, HB.out.size, HB.out.block⟩⟩
      case measure => simp [intOf]; omega
    · obtain rfl : k = xs.length := by omega
      go_wp2
      go_ret
      exact ⟨rfl, hb⟩
theorem markIntS_any (base : Nat) (A : Option Addr) (c n : Nat) (vs : List Value) (k : Int) (w : World) (hown : w.ownsRow base 3 1 (.slice A n c) n vs) (hn : n ≤ 1000000000) (h0 : 0 ≤ k) (h1 : k ≤ 1000000000000) :
    Calls Tryd.prog 36 #[.slice A n c, .int .i64 k] w fun e w' => e = .returned (.int .i64 (k + n)) ∧
      w'.ownsRow base 3 1 (.slice A n c) n (ints (marks k n)) ∧ w.grownBy w' (Value.slice A n c).ownBlock := by
  have hlen : vs.length = n := by simpa using hown.1
  rcases hown.2 with ⟨hv, rfl⟩ | ⟨g, cap, cur, hv, _⟩
  · injection hv with hA _ hcc
    subst hA hcc
    have HO := hid hown
    clear hown
    go_enter Tryd.func36, Tryd.ntmps36
    go_wp2
    refine wp_loop_rounds 1 ?_
    rw [rounds_succ]
    go_wp2
    go_ret
    exact ⟨by simp, by simpa [marks, ints] using World.ownsRow_nil _ _ _ _, World.grownBy.refl _ _⟩
  · injection hv with hA _ hcc
    subst hA hcc
    go_enter Tryd.func36, Tryd.ntmps36
    go_wp2
    go_loopw [1, 5] (fun q i wr => ∃ j : Nat, j ≤ n ∧ i = .int .i64 j ∧ q = .int .i64 (k + j) ∧ wr.ownsRow base 3 1 (.slice (some ⟨g, 0, none⟩) n c) n (markTo k vs j) ∧ w.grownBy wr (some g)) (fun _ i _ => n - (intOf i).toNat)
    case atStart => exact ⟨0, Nat.zero_le _, rfl, by simp, by rw [markTo_zero]; exact hown, World.grownBy.refl _ _⟩
    case round =>
      obtain ⟨j, hj, rfl, rfl, how, hg⟩ := hrel
      by_cases hlt : j < n
      · have hold : ∃ u, wr.cell? ⟨g, j, none⟩ = some u := by
          rw [how.cellAt j (by omega)]
          have := how.1
          exact ⟨_, List.getElem?_eq_getElem (by omega)⟩
        obtain ⟨u, hu⟩ := hold
        have hfr := how.frozenAt j
        have hst := how.stored j (.int .i64 (k + j))
        rw [markTo_set (by omega)] at hst
        have hst2 : w.grownBy (wr.setCell ⟨g, j, none⟩ (.int .i64 (k + j))) (some g) :=
          ⟨hst.2.os.trans hg.os, hst.2.tape.trans hg.tape, hst.2.output.trans hg.output, Nat.le_trans hg.size hst.2.size, fun i hi hne => (hst.2.block i (Nat.lt_of_lt_of_le hi hg.size) hne).trans (hg.block i hi hne)⟩
        have HS := hid hst
        have HG := hid hst2
        clear hst hst2 how hown hg
        go_wp2
        go_roundw
        case rel => exact ⟨j + 1, by omega, by go_num, by go_num, HS.out.1, HG.out⟩
        case measure => simp [intOf]; omega
      · obtain rfl : j = n := by omega
        rw [markTo_all _ _ _ hlen] at how
        go_wp2
        go_ret
        exact ⟨rfl, how, hg⟩
theorem szIntS_any (A : Option Addr) (c n : Nat) (left : Int) (w : World) (hn : n ≤ 9223372036854775807) (h0 : 0 ≤ left) (h1 : left ≤ 1048576) :
    Calls Tryd.prog 23 #[.slice A n c, .int .i64 left] w fun e w' => e = .returned (.int .i64 (pick (decide (left - n < 0)) (-1) (left - n))) ∧ w = w' := by
  by_cases hlt : left - n < 0
  all_goals
    simp only [hlt, decide_true, decide_false, pick_yes, pick_no]
    go_enter Tryd.func23, Tryd.ntmps23
    go_wp2
    go_ret
    exact ⟨rfl, rfl⟩
end Go.Proofs.YtknkpajedbckmaaDoor
