/- Sums in a field and the coins of a run, in the program and in the reference. -/
import Derived.Test.YtgkkljcboicipaaJudge3
namespace Go.Proofs.Ytgkkljcboicipaa
open Go.RowKit

/-! plain -/
theorem field_range {p : Int} (h : fieldOkB p = true) : 2 ≤ p ∧ p ≤ 101 := by
  have h1 := fieldOkB_iff.1 h
  exact ⟨h1.1, h1.2.1⟩
theorem elem_iff {p a : Int} (h : fieldOkB p = true) : elemB p a = inB a 0 (p - 1) := by unfold elemB; rw [h]; rfl
theorem addI_yes {p a b : Int} (h : fieldOkB p = true) (ha : inB a 0 (p - 1) = true) (hb : inB b 0 (p - 1) = true) : addI p a b = (a + b) % p := by unfold addI; rw [elem_iff h, elem_iff h, ha, hb]; rfl
theorem addI_noA {p a b : Int} (h : fieldOkB p = true) (ha : inB a 0 (p - 1) = false) : addI p a b = -1 := by unfold addI; rw [elem_iff h, ha]; rfl
theorem addI_noB {p a b : Int} (h : fieldOkB p = true) (hb : inB b 0 (p - 1) = false) : addI p a b = -1 := by unfold addI; rw [elem_iff h, elem_iff h, hb]; simp
def rangeB (p : Int) (xs : List Int) : Bool := xs.all fun a => inB a 0 (p - 1)
theorem rangeB_no {p : Int} {xs : List Int} {k : Nat} {x : Int} (h : xs[k]? = some x) (hx : inB x 0 (p - 1) = false) : rangeB p xs = false := by
  unfold rangeB
  rw [List.all_eq_false]
  exact ⟨x, List.mem_of_getElem? h, by simp [hx]⟩
theorem rangeB_snoc {p : Int} {xs : List Int} {k : Nat} {x : Int} (h : xs[k]? = some x) (hw : rangeB p (xs.take k) = true) (hx : inB x 0 (p - 1) = true) : rangeB p (xs.take (k + 1)) = true := by
  rw [take_snoc h]
  unfold rangeB at *
  simp [hw, hx, List.all_append]

/-! walks -/
set_option maxHeartbeats 800000 in
theorem iAre (p : Int) (A : Option Addr) (c : Nat) (xs : List Int) (w : World) (hp : fieldOkB p = true) (hc : Cells w w.heap.size A (ints xs)) (hn : xs.length ≤ 1000000000) :
    Calls Try.prog 59 #[.int .i64 p, .slice A xs.length c] w fun e w' => e = .returned (.bool (rangeB p xs)) ∧ w = w' := by
  obtain ⟨hp0, hp1⟩ := field_range hp
  go_enter Try.func59, Try.ntmps59
  go_wp2
  go_loop [6, 9] (fun _ i => ∃ j : Nat, j ≤ xs.length ∧ i = .int .i64 j ∧ rangeB p (xs.take j) = true) (fun _ i => xs.length - (intOf i).toNat)
  case atStart => exact ⟨0, Nat.zero_le _, rfl, rfl⟩
  case round =>
    obtain ⟨j, hj, rfl, hw⟩ := hrel
    by_cases hlt : j < xs.length
    · obtain ⟨x, hx⟩ : ∃ x, xs[j]? = some x := ⟨_, List.getElem?_eq_getElem hlt⟩
      obtain ⟨b, off, rfl, hB, hcl⟩ := hc (by rw [ints_length]; omega)
      have hcell : w.cell? ⟨b, off + j, none⟩ = some (.int .i64 x) := hcl j _ (ints_get hx)
      have HW := hid hw
      have HX := hid hx
      clear hcl hc hw hx
      cases hb : inB x 0 (p - 1)
      · go_wp2_with (go_at_call 40; refine (iWithin _ _ _ _).mono ?_; rintro e w' ⟨rfl, rfl⟩)
        go_ret
        exact ⟨ret_bool (by rw [rangeB_no HX.out hb]), rfl⟩
      · go_wp2_with (go_at_call 40; refine (iWithin _ _ _ _).mono ?_; rintro e w' ⟨rfl, rfl⟩)
        go_round
        case rel => exact ⟨j + 1, by omega, by go_num, rangeB_snoc HX.out HW.out hb⟩
        case measure => simp [intOf]; omega
    · obtain rfl : j = xs.length := by omega
      rw [List.take_length] at hw
      have HW := hid hw
      clear hw
      go_wp2_with (go_at_call 38; refine (iFieldOk _ _).mono ?_; rintro e w' ⟨rfl, rfl⟩)
      go_ret
      exact ⟨ret_bool HW.out.symm, rfl⟩
theorem cells_two (w : World) (a b : Int) (t : TypeId) : Cells (w.alloc (.cells #[.int .i64 a, .int .i64 b] t)) (w.alloc (.cells #[.int .i64 a, .int .i64 b] t)).heap.size (some ⟨w.heap.size, 0, none⟩) (ints [a, b]) := fun _ =>
  ⟨w.heap.size, 0, rfl, by simp, fun i v hv => by
    have h := (Blk.new (w := w) (b := w.heap.size) (t := t) (cs := #[.int .i64 a, .int .i64 b]) rfl).cell i
    rw [Nat.zero_add, h]
    simpa [ints] using hv⟩
theorem iAre2 (p a b : Int) (c : Nat) (t : TypeId) (w : World) (hp : fieldOkB p = true) :
    Calls Try.prog 59 #[.int .i64 p, .slice (some ⟨w.heap.size, 0, none⟩) 2 c] (w.alloc (.cells #[.int .i64 a, .int .i64 b] t)) fun e w' =>
      e = .returned (.bool (inB a 0 (p - 1) && inB b 0 (p - 1))) ∧ (w.alloc (.cells #[.int .i64 a, .int .i64 b] t)) = w' := by
  have h := iAre p (some ⟨w.heap.size, 0, none⟩) c [a, b] (w.alloc (.cells #[.int .i64 a, .int .i64 b] t)) hp (cells_two w a b t) (by simp)
  have e : rangeB p [a, b] = (inB a 0 (p - 1) && inB b 0 (p - 1)) := by simp [rangeB]
  rw [e] at h
  exact h
set_option maxHeartbeats 800000 in
theorem iFAdd (p a b : Int) (w : World) (hp : fieldOkB p = true) :
    Calls Try.prog 51 #[.int .i64 p, .int .i64 a, .int .i64 b] w fun e w' => e = .returned (.int .i64 (addI p a b)) ∧ Below w.heap.size w w' := by
  obtain ⟨hp0, hp1⟩ := field_range hp
  have HP := hid hp
  cases ha : inB a 0 (p - 1); rotate_left
  cases hb : inB b 0 (p - 1)
  rotate_left
  · obtain ⟨a0, a1⟩ := inB_iff.1 ha
    obtain ⟨b0, b1⟩ := inB_iff.1 hb
    rw [addI_yes hp ha hb]
    clear hp
    go_enter Try.func51, Try.ntmps51
    go_wp2_with (go_at_call 59; refine (iAre2 _ _ _ _ _ _ HP.out).mono ?_; rintro e w' ⟨rfl, rfl⟩)
    go_ret
    refine ⟨rfl, ?_⟩
    repeat (first | (with_reducible exact Below.refl _ _) | (with_reducible refine Below.trans ?_ (Below.mono (by assumption) (by first | omega | (simp; done) | (simp; omega) | (simp [*]; done)))) | (with_reducible refine Below.alloc ?_ (by first | omega | (simp; done) | (simp; omega) | (simp [*]; done)) _) | (with_reducible refine Below.setCell ?_ (by first | omega | (simp; done) | (simp; omega) | (simp [*]; done)) _) | (with_reducible refine Below.drew ?_) | (with_reducible refine below_drewN ?_))
  all_goals
    first | rw [addI_noA hp ha] | rw [addI_noB hp hb]
    clear hp
    go_enter Try.func51, Try.ntmps51
    go_wp2_with (go_at_call 59; refine (iAre2 _ _ _ _ _ _ HP.out).mono ?_; rintro e w' ⟨rfl, rfl⟩)
    go_ret
    refine ⟨rfl, ?_⟩
    repeat (first | (with_reducible exact Below.refl _ _) | (with_reducible refine Below.trans ?_ (Below.mono (by assumption) (by first | omega | (simp; done) | (simp; omega) | (simp [*]; done)))) | (with_reducible refine Below.alloc ?_ (by first | omega | (simp; done) | (simp; omega) | (simp [*]; done)) _) | (with_reducible refine Below.setCell ?_ (by first | omega | (simp; done) | (simp; omega) | (simp [*]; done)) _) | (with_reducible refine Below.drew ?_) | (with_reducible refine below_drewN ?_))
theorem sBoth (p a b : Int) (w : World) : Calls Try.prog 58 #[.int .i64 p, .int .i64 a, .int .i64 b] w fun e w' => e = .returned (.bool (elemB p a && elemB p b)) ∧ w = w' := by
  cases ha : elemB p a; rotate_left
  cases hb : elemB p b
  all_goals
    go_enter Try.func58, Try.ntmps58
    go_wp2_with (go_at_call 47; refine (sIsElement _ _ _).mono ?_; rintro e w' ⟨rfl, rfl⟩)
    go_ret
    exact ⟨rfl, rfl⟩
theorem sFAdd (p a b : Int) (w : World) (hp : fieldOkB p = true) :
    Calls Try.prog 48 #[.int .i64 p, .int .i64 a, .int .i64 b] w fun e w' => e = .returned (.int .i64 (addI p a b)) ∧ w = w' := by
  obtain ⟨hp0, hp1⟩ := field_range hp
  cases ha : inB a 0 (p - 1); rotate_left
  cases hb : inB b 0 (p - 1)
  rotate_left
  · obtain ⟨a0, a1⟩ := inB_iff.1 ha
    obtain ⟨b0, b1⟩ := inB_iff.1 hb
    rw [addI_yes hp ha hb]
    have ea : elemB p a = true := by rw [elem_iff hp, ha]
    have eb : elemB p b = true := by rw [elem_iff hp, hb]
    clear hp
    go_enter Try.func48, Try.ntmps48
    go_wp2_with (go_at_call 58; refine (sBoth _ _ _ _).mono ?_; rintro e w' ⟨rfl, rfl⟩)
    go_ret
    exact ⟨rfl, rfl⟩
  all_goals
    have e : (elemB p a && elemB p b) = false := by
      rw [elem_iff hp, elem_iff hp]
      first | (rw [ha]; rfl) | (rw [hb]; simp)
    first | rw [addI_noA hp ha] | rw [addI_noB hp hb]
    clear hp
    go_enter Try.func48, Try.ntmps48
    go_wp2_with (go_at_call 58; refine (sBoth _ _ _ _).mono ?_; rintro e w' ⟨rfl, rfl⟩)
    go_ret
    exact ⟨rfl, rfl⟩
end Go.Proofs.Ytgkkljcboicipaa
