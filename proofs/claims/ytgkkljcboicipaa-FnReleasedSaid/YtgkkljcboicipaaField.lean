/- Fields and tapes, in the program and in the reference. -/
import Derived.Test.YtgkkljcboicipaaWord
import Derived.Test.YtgkkljcboicipaaPlain2
namespace Go.Proofs.Ytgkkljcboicipaa
open Go.RowKit

theorem iFieldOk (p : Int) (w : World) : Calls Try.prog 38 #[.int .i64 p] w fun e w' => e = .returned (.bool (fieldOkB p)) ∧ w = w' := by
  go_enter Try.func38, Try.ntmps38
  go_wp2
  go_loop [3] (fun i => ∃ d : Int, 2 ≤ d ∧ d ≤ 102 ∧ i = .int .i64 d ∧ noDiv p d) (fun i => (102 - intOf i).toNat)
  case atStart => exact ⟨2, by omega, by omega, rfl, noDiv_two p⟩
  case round =>
    obtain ⟨d, h1, h2, rfl, hnd⟩ := hrel
    have HN := hid hnd
    clear hnd
    by_cases ha : d < p
    · by_cases hb : d ≤ 101
      · by_cases hz : p % d = 0
        · have HZ := hid hz
          have hz' : (p % d == 0) = true := by simpa using hz
          clear hz
          go_wp2
          go_ret
          exact ⟨ret_bool (by rw [field_no_div h1 ha HZ.out]), rfl⟩
        · have HZ := hid hz
          have hz' : (p % d == 0) = false := by simpa using hz
          clear hz
          go_wp2
          go_round
          case rel => exact ⟨d + 1, by omega, by omega, rfl, noDiv_succ HN.out HZ.out⟩
          case measure => simp [intOf]; omega
      · have hin : inB p 2 101 = false := inB_no.2 (by omega)
        go_wp2_with (go_at_call 40; refine (iWithin _ _ _ _).mono ?_; rintro e w' ⟨rfl, rfl⟩)
        go_ret
        exact ⟨ret_bool (by rw [field_no_in hin]), rfl⟩
    · cases hin : inB p 2 101
      · go_wp2_with (go_at_call 40; refine (iWithin _ _ _ _).mono ?_; rintro e w' ⟨rfl, rfl⟩)
        go_ret
        exact ⟨ret_bool (by rw [field_no_in hin]), rfl⟩
      · go_wp2_with (go_at_call 40; refine (iWithin _ _ _ _).mono ?_; rintro e w' ⟨rfl, rfl⟩)
        go_ret
        exact ⟨ret_bool (by rw [field_yes hin HN.out (by omega)]), rfl⟩
theorem sFieldOk (p : Int) (w : World) : Calls Try.prog 34 #[.int .i64 p] w fun e w' => e = .returned (.bool (fieldOkB p)) ∧ w = w' := by
  cases hin : inB p 2 101
  · go_enter Try.func34, Try.ntmps34
    go_wp2_with (go_at_call 36; refine (sWithin _ _ _ _).mono ?_; rintro e w' ⟨rfl, rfl⟩)
    go_ret
    exact ⟨ret_bool (by rw [field_no_in hin]), rfl⟩
  · obtain ⟨hp1, hp2⟩ := inB_iff.1 hin
    go_enter Try.func34, Try.ntmps34
    go_wp2_with (go_at_call 36; refine (sWithin _ _ _ _).mono ?_; rintro e w' ⟨rfl, rfl⟩)
    go_loop [3] (fun i => ∃ d : Int, 2 ≤ d ∧ d ≤ 12 ∧ i = .int .i64 d ∧ noDiv p d) (fun i => (12 - intOf i).toNat)
    case atStart => exact ⟨2, by omega, by omega, rfl, noDiv_two p⟩
    case round =>
      obtain ⟨d, h1, h2, rfl, hnd⟩ := hrel
      have HN := hid hnd
      clear hnd
      have hdd : d * d ≤ 144 := Int.mul_le_mul h2 h2 (by omega) (by omega)
      have hdd0 : 2 * d ≤ d * d := Int.mul_le_mul_of_nonneg_right h1 (by omega)
      by_cases ha : d * d ≤ p
      · have hlt : d < p := by omega
        have hd11 : d ≤ 11 := by
          rcases int_lt_ge 11 d with h | h
          · have : d = 12 := by omega
            subst this
            omega
          · exact h
        by_cases hz : p % d = 0
        · have HZ := hid hz
          have hz' : (p % d == 0) = true := by simpa using hz
          clear hz
          go_wp2
          go_ret
          exact ⟨ret_bool (by rw [field_no_div h1 hlt HZ.out]), rfl⟩
        · have HZ := hid hz
          have hz' : (p % d == 0) = false := by simpa using hz
          clear hz
          go_wp2
          go_round
          case rel => exact ⟨d + 1, by omega, by omega, rfl, noDiv_succ HN.out HZ.out⟩
          case measure => simp [intOf]; omega
      · go_wp2
        go_ret
        exact ⟨ret_bool (by rw [field_root hin HN.out (by omega) h1]), rfl⟩
theorem iIsElement (p a : Int) (w : World) : Calls Try.prog 50 #[.int .i64 p, .int .i64 a] w fun e w' => e = .returned (.bool (elemB p a)) ∧ w = w' := by
  cases h1 : fieldOkB p
  · have hR : elemB p a = (fieldOkB p && inB a 0 (p - 1)) := rfl
    rw [h1] at hR
    simp at hR
    rw [hR]
    clear hR
    go_enter Try.func50, Try.ntmps50
    go_wp2_with (first | (go_at_call 38; refine (iFieldOk _ _).mono ?_; rintro e w' ⟨rfl, rfl⟩) | (go_at_call 40; refine (iWithin _ _ _ _).mono ?_; rintro e w' ⟨rfl, rfl⟩))
    go_ret
    exact ⟨rfl, rfl⟩
  · have hp := fieldOkB_iff.1 h1
    have hp1 : 2 ≤ p := hp.1
    have hp2 : p ≤ 101 := hp.2.1
    clear hp
    have hR : elemB p a = (fieldOkB p && inB a 0 (p - 1)) := rfl
    rw [h1] at hR
    simp at hR
    rw [hR]
    clear hR
    go_enter Try.func50, Try.ntmps50
    go_wp2_with (first | (go_at_call 38; refine (iFieldOk _ _).mono ?_; rintro e w' ⟨rfl, rfl⟩) | (go_at_call 40; refine (iWithin _ _ _ _).mono ?_; rintro e w' ⟨rfl, rfl⟩))
    go_ret
    exact ⟨rfl, rfl⟩
theorem iTapeOk (s a : Int) (w : World) :
    Calls Try.prog 54 #[.agg #[.int .i64 s, .int .i64 a]] w fun e w' => e = .returned (.bool (tapeOkB s a)) ∧ Below w.heap.size w w' := by
  cases h1 : isWordB s; rotate_left
  cases h2 : inB a 0 1000000
  all_goals
    have hR : tapeOkB s a = (isWordB s && inB a 0 1000000) := rfl
    try rw [h1] at hR
    try rw [h2] at hR
    simp at hR
    rw [hR]
    clear hR
    go_enter Try.func54, Try.ntmps54
    go_wp2_with (first | (go_at_call 40; refine (iWithin _ _ _ _).mono ?_; rintro e w' ⟨rfl, rfl⟩) | (go_at_call 39; refine (iIsWord _ _).mono ?_; rintro e w' ⟨rfl, rfl⟩))
    go_ret
    refine ⟨rfl, ?_⟩
    repeat (first | (with_reducible exact Below.refl _ _) | (with_reducible refine Below.trans ?_ (Below.mono (by assumption) (by first | omega | (simp; done) | (simp; omega) | (simp [*]; done)))) | (with_reducible refine Below.alloc ?_ (by first | omega | (simp; done) | (simp; omega) | (simp [*]; done)) _) | (with_reducible refine Below.setCell ?_ (by first | omega | (simp; done) | (simp; omega) | (simp [*]; done)) _) | (with_reducible refine Below.drew ?_) | (with_reducible refine below_drewN ?_))
theorem sIsElement (p a : Int) (w : World) : Calls Try.prog 47 #[.int .i64 p, .int .i64 a] w fun e w' => e = .returned (.bool (elemB p a)) ∧ w = w' := by
  cases h1 : fieldOkB p
  · have hR : elemB p a = (fieldOkB p && inB a 0 (p - 1)) := rfl
    rw [h1] at hR
    simp at hR
    rw [hR]
    clear hR
    go_enter Try.func47, Try.ntmps47
    go_wp2_with (first | (go_at_call 34; refine (sFieldOk _ _).mono ?_; rintro e w' ⟨rfl, rfl⟩) | (go_at_call 36; refine (sWithin _ _ _ _).mono ?_; rintro e w' ⟨rfl, rfl⟩))
    go_ret
    exact ⟨rfl, rfl⟩
  · have hp := fieldOkB_iff.1 h1
    have hp1 : 2 ≤ p := hp.1
    have hp2 : p ≤ 101 := hp.2.1
    clear hp
    have hR : elemB p a = (fieldOkB p && inB a 0 (p - 1)) := rfl
    rw [h1] at hR
    simp at hR
    rw [hR]
    clear hR
    go_enter Try.func47, Try.ntmps47
    go_wp2_with (first | (go_at_call 34; refine (sFieldOk _ _).mono ?_; rintro e w' ⟨rfl, rfl⟩) | (go_at_call 36; refine (sWithin _ _ _ _).mono ?_; rintro e w' ⟨rfl, rfl⟩))
    go_ret
    exact ⟨rfl, rfl⟩
theorem sTapeOk (s a : Int) (w : World) :
    Calls Try.prog 60 #[.agg #[.int .i64 s, .int .i64 a]] w fun e w' => e = .returned (.bool (tapeOkB s a)) ∧ Below w.heap.size w w' := by
  cases h1 : isWordB s; rotate_left
  cases h2 : inB a 0 1000000
  all_goals
    have hR : tapeOkB s a = (isWordB s && inB a 0 1000000) := rfl
    try rw [h1] at hR
    try rw [h2] at hR
    simp at hR
    rw [hR]
    clear hR
    go_enter Try.func60, Try.ntmps60
    go_wp2_with (first | (go_at_call 36; refine (sWithin _ _ _ _).mono ?_; rintro e w' ⟨rfl, rfl⟩) | (go_at_call 35; refine (sIsWord _ _).mono ?_; rintro e w' ⟨rfl, rfl⟩))
    go_ret
    refine ⟨rfl, ?_⟩
    repeat (first | (with_reducible exact Below.refl _ _) | (with_reducible refine Below.trans ?_ (Below.mono (by assumption) (by first | omega | (simp; done) | (simp; omega) | (simp [*]; done)))) | (with_reducible refine Below.alloc ?_ (by first | omega | (simp; done) | (simp; omega) | (simp [*]; done)) _) | (with_reducible refine Below.setCell ?_ (by first | omega | (simp; done) | (simp; omega) | (simp [*]; done)) _) | (with_reducible refine Below.drew ?_) | (with_reducible refine below_drewN ?_))
end Go.Proofs.Ytgkkljcboicipaa
