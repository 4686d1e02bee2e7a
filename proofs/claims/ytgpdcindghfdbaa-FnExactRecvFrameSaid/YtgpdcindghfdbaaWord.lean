/- The walks of the small functions on words, in the program and in the reference. -/
import Derived.Test.YtgpdcindghfdbaaRows
import Derived.Test.YtgpdcindghfdbaaBase
import Derived.Test.YtgpdcindghfdbaaPlain
import Derived.WalkSpells
import Derived.WalkLawsBesides
namespace Go.Proofs.Ytgpdcindghfdbaa
open Go.RowKit

theorem iWithin (n lo hi : Int) (w : World) :
    Calls Try.prog 73 #[.int .i64 n, .int .i64 lo, .int .i64 hi] w fun e w' => e = .returned (.bool (inB n lo hi)) ∧ w = w' := by
  by_cases h1 : lo ≤ n <;> by_cases h2 : n ≤ hi
  all_goals
    go_enter Try.func73, Try.ntmps73
    go_wp2
    go_ret
    exact ⟨by simp [inB, h1, h2], rfl⟩
theorem sWithin (n lo hi : Int) (w : World) :
    Calls Try.prog 72 #[.int .i64 n, .int .i64 lo, .int .i64 hi] w fun e w' => e = .returned (.bool (inB n lo hi)) ∧ w = w' := by
  by_cases h1 : lo ≤ n <;> by_cases h2 : n ≤ hi
  all_goals
    go_enter Try.func72, Try.ntmps72
    go_wp2
    go_ret
    exact ⟨by simp [inB, h1, h2], rfl⟩
theorem iIsWord (n : Int) (w : World) :
    Calls Try.prog 58 #[.int .i64 n] w fun e w' => e = .returned (.bool (isWordB n)) ∧ w = w' := by
  go_enter Try.func58, Try.ntmps58
  go_wp2_with (go_at_call 73; refine (iWithin _ _ _ _).mono ?_; rintro e w' ⟨rfl, rfl⟩)
  go_ret
  exact ⟨rfl, rfl⟩
theorem sIsWord (n : Int) (w : World) :
    Calls Try.prog 71 #[.int .i64 n] w fun e w' => e = .returned (.bool (isWordB n)) ∧ w = w' := by
  go_enter Try.func71, Try.ntmps71
  go_wp2_with (go_at_call 72; refine (sWithin _ _ _ _).mono ?_; rintro e w' ⟨rfl, rfl⟩)
  go_ret
  exact ⟨rfl, rfl⟩
theorem iMix (n : Int) (w : World) :
    Calls Try.prog 85 #[.int .i64 n] w fun e w' => e = .returned (.int .i64 (mixI n)) ∧ w = w' := by
  cases h : isWordB n
  · go_enter Try.func85, Try.ntmps85
    go_wp2_with (go_at_call 58; refine (iIsWord _ _).mono ?_; rintro e w' ⟨rfl, rfl⟩)
    go_ret
    exact ⟨by rw [mixI_no h]; rfl, rfl⟩
  · have h0 := (isWordB_iff.1 h).1
    have h1 := (isWordB_iff.1 h).2
    go_enter Try.func85, Try.ntmps85
    go_wp2_with (go_at_call 58; refine (iIsWord _ _).mono ?_; rintro e w' ⟨rfl, rfl⟩)
    refine wp_loop_rounds 3 ?_
    rw [rounds_succ]
    go_wp2
    rw [rounds_succ]
    go_wp2
    rw [rounds_succ]
    go_wp2
    go_ret
    exact ⟨ret_int (mix_spell n h0 h1 _ _ rfl rfl), rfl⟩
theorem iKeyed (k a b : Int) (w : World) :
    Calls Try.prog 79 #[.int .i64 k, .int .i64 a, .int .i64 b] w fun e w' => e = .returned (.int .i64 (keyedI k a b)) ∧ w = w' := by
  have hk : keyedI k a b = if isWordB k && isWordB a && isWordB b then mixI (bits .xor .i64 (mixI (bits .xor .i64 (mixI k) a)) b) else 0 := rfl
  have HK := hid hk
  clear hk
  cases h1 : isWordB k <;> cases h2 : isWordB a <;> cases h3 : isWordB b
  all_goals
    go_enter Try.func79, Try.ntmps79
    go_wp2_with (first | (go_at_call 58; refine (iIsWord _ _).mono ?_; rintro e w' ⟨rfl, rfl⟩) | (go_at_call 85; refine (iMix _ _).mono ?_; rintro e w' ⟨rfl, rfl⟩))
    go_ret
    exact ⟨ret_int (by rw [HK.out, h1, h2, h3]; rfl), rfl⟩
theorem sMix (n : Int) (w : World) :
    Calls Try.prog 86 #[.int .i64 n] w fun e w' => e = .returned (.int .i64 (mixI n)) ∧ w = w' := by
  cases h : isWordB n
  · go_enter Try.func86, Try.ntmps86
    go_wp2_with (go_at_call 71; refine (sIsWord _ _).mono ?_; rintro e w' ⟨rfl, rfl⟩)
    go_ret
    exact ⟨by rw [mixI_no h]; rfl, rfl⟩
  · have h0 := (isWordB_iff.1 h).1
    have h1 := (isWordB_iff.1 h).2
    go_enter Try.func86, Try.ntmps86
    go_wp2_with (go_at_call 71; refine (sIsWord _ _).mono ?_; rintro e w' ⟨rfl, rfl⟩)
    refine wp_loop_rounds 3 ?_
    rw [rounds_succ]
    go_wp2
    rw [rounds_succ]
    go_wp2
    rw [rounds_succ]
    go_wp2
    go_ret
    exact ⟨ret_int (mix_spell n h0 h1 _ _ rfl rfl), rfl⟩
theorem sKeyed (k a b : Int) (w : World) :
    Calls Try.prog 80 #[.int .i64 k, .int .i64 a, .int .i64 b] w fun e w' => e = .returned (.int .i64 (keyedI k a b)) ∧ w = w' := by
  have hk : keyedI k a b = if isWordB k && isWordB a && isWordB b then mixI (bits .xor .i64 (mixI (bits .xor .i64 (mixI k) a)) b) else 0 := rfl
  have HK := hid hk
  clear hk
  cases h1 : isWordB k <;> cases h2 : isWordB a <;> cases h3 : isWordB b
  all_goals
    go_enter Try.func80, Try.ntmps80
    go_wp2_with (first | (go_at_call 71; refine (sIsWord _ _).mono ?_; rintro e w' ⟨rfl, rfl⟩) | (go_at_call 86; refine (sMix _ _).mono ?_; rintro e w' ⟨rfl, rfl⟩))
    go_ret
    exact ⟨ret_int (by rw [HK.out, h1, h2, h3]; rfl), rfl⟩
end Go.Proofs.Ytgpdcindghfdbaa
