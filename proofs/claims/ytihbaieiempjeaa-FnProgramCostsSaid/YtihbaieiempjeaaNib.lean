/- Numbers from 0 to 15, in the program. -/
import Derived.Test.YtihbaieiempjeaaConst
namespace Go.Proofs.Ytihbaieiempjeaa
open Go.RowKit

def nibB (x : Int) : Bool := inB x 0 15
set_option linter.unusedVariables false in
set_option maxRecDepth 100000 in
theorem iNibs (A : Option Addr) (c : Nat) (xs : List Int) (w : World) (hc : Cells w w.heap.size A (ints xs)) (hn : xs.length ≤ 1000000000) :
    Calls Try.prog 105 #[.slice A xs.length c] w fun e w' => e = .returned (.bool (xs.all nibB)) ∧ w = w' := by
  go_enter Try.func105, Try.ntmps105
  go_wp2
  go_loop [4, 7] (fun _ i => ∃ j : Nat, j ≤ xs.length ∧ i = .int .i64 j ∧ (xs.take j).all nibB = true) (fun _ i => xs.length - (intOf i).toNat)
  case atStart => exact ⟨0, Nat.zero_le _, rfl, rfl⟩
  case round =>
    obtain ⟨j, hj, rfl, hall⟩ := hrel
    by_cases hlt : j < xs.length
    · obtain ⟨x, hx1⟩ : ∃ x, xs[j]? = some x := ⟨_, List.getElem?_eq_getElem hlt⟩
      obtain ⟨b, off, rfl, hB, hcl⟩ := hc (by rw [ints_length]; omega)
      have hcell : w.cell? ⟨b, off + j, none⟩ = some (.int .i64 x) := hcl j _ (ints_get hx1)
      have HW := hid (fun w => iWithin x 0 15 w)
      cases hr : nibB x
      · have HN := hid (all_no hx1 hr)
        have hin : inB x 0 15 = false := hr
        rw [hin] at HW
        clear hcl hc hx1 hall hr hin
        go_wp2_with (go_at_call 55; refine (HW.out _).mono ?_; rintro e w' ⟨rfl, rfl⟩)
        go_ret
        exact ⟨by rw [HN.out]; rfl, rfl⟩
      · have HA := hid (all_snoc hx1 hall hr)
        have hin : inB x 0 15 = true := hr
        rw [hin] at HW
        clear hcl hc hx1 hall hr hin
        go_wp2_with (go_at_call 55; refine (HW.out _).mono ?_; rintro e w' ⟨rfl, rfl⟩)
        go_round
        case rel => exact ⟨j + 1, by omega, by go_num, HA.out⟩
        case measure => simp [intOf]; omega
    · obtain rfl : j = xs.length := by omega
      rw [List.take_length] at hall
      have HA := hid hall
      clear hall
      go_wp2
      go_ret
      exact ⟨by rw [HA.out]; rfl, rfl⟩
theorem iNib1 (a : Int) (c b : Nat) (w : World) (h : Blk w b 3 #[.int .i64 a]) (ha : 0 ≤ a ∧ a ≤ 15) :
    Calls Try.prog 105 #[.slice (some ⟨b, 0, none⟩) 1 c] w fun e w' => e = .returned (.bool true) ∧ w = w' := by
  have h := iNibs (some ⟨b, 0, none⟩) c [a] w (cells_blk h) (by simp)
  have e : ([a].all nibB) = true := by simp [nibB, inB_iff.2 ha]
  rw [e] at h
  exact h
end Go.Proofs.Ytihbaieiempjeaa
