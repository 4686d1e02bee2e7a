/- The walks of the small functions on words, in the program and in the reference. -/
import Derived.Test.YtihbaieiempjeaaRows
import Derived.Test.YtihbaieiempjeaaBase
import Derived.Test.YtihbaieiempjeaaPlain
import Derived.WalkSpells
import Derived.WalkLawsBesides
namespace Go.Proofs.Ytihbaieiempjeaa
open Go.RowKit

theorem iWithin (n lo hi : Int) (w : World) :
    Calls Try.prog 55 #[.int .i64 n, .int .i64 lo, .int .i64 hi] w fun e w' => e = .returned (.bool (inB n lo hi)) ∧ w = w' := by
  by_cases h1 : lo ≤ n <;> by_cases h2 : n ≤ hi
  all_goals
    go_enter Try.func55, Try.ntmps55
    go_wp2
    go_ret
    exact ⟨by simp [inB, h1, h2], rfl⟩
theorem sWithin (n lo hi : Int) (w : World) :
    Calls Try.prog 57 #[.int .i64 n, .int .i64 lo, .int .i64 hi] w fun e w' => e = .returned (.bool (inB n lo hi)) ∧ w = w' := by
  by_cases h1 : lo ≤ n <;> by_cases h2 : n ≤ hi
  all_goals
    go_enter Try.func57, Try.ntmps57
    go_wp2
    go_ret
    exact ⟨by simp [inB, h1, h2], rfl⟩
theorem sIsWord (n : Int) (w : World) :
    Calls Try.prog 92 #[.int .i64 n] w fun e w' => e = .returned (.bool (isWordB n)) ∧ w = w' := by
  go_enter Try.func92, Try.ntmps92
  go_wp2_with (go_at_call 57; refine (sWithin _ _ _ _).mono ?_; rintro e w' ⟨rfl, rfl⟩)
  go_ret
  exact ⟨rfl, rfl⟩
theorem sMix (n : Int) (w : World) :
    Calls Try.prog 94 #[.int .i64 n] w fun e w' => e = .returned (.int .i64 (mixI n)) ∧ w = w' := by
  cases h : isWordB n
  · go_enter Try.func94, Try.ntmps94
    go_wp2_with (go_at_call 92; refine (sIsWord _ _).mono ?_; rintro e w' ⟨rfl, rfl⟩)
    go_ret
    exact ⟨by rw [mixI_no h]; rfl, rfl⟩
  · have h0 := (isWordB_iff.1 h).1
    have h1 := (isWordB_iff.1 h).2
    go_enter Try.func94, Try.ntmps94
    go_wp2_with (go_at_call 92; refine (sIsWord _ _).mono ?_; rintro e w' ⟨rfl, rfl⟩)
    refine wp_loop_rounds 3 ?_
    rw [rounds_succ]
    go_wp2
    rw [rounds_succ]
    go_wp2
    rw [rounds_succ]
    go_wp2
    go_ret
    exact ⟨ret_int (mix_spell n h0 h1 _ _ rfl rfl), rfl⟩
theorem sKeyed (k a b : Int) (w : World) :
    Calls Try.prog 62 #[.int .i64 k, .int .i64 a, .int .i64 b] w fun e w' => e = .returned (.int .i64 (keyedI k a b)) ∧ w = w' := by
  have hk : keyedI k a b = if isWordB k && isWordB a && isWordB b then mixI (bits .xor .i64 (mixI (bits .xor .i64 (mixI k) a)) b) else 0 := rfl
  have HK := hid hk
  clear hk
  cases h1 : isWordB k <;> cases h2 : isWordB a <;> cases h3 : isWordB b
  all_goals
    go_enter Try.func62, Try.ntmps62
    go_wp2_with (first | (go_at_call 92; refine (sIsWord _ _).mono ?_; rintro e w' ⟨rfl, rfl⟩) | (go_at_call 94; refine (sMix _ _).mono ?_; rintro e w' ⟨rfl, rfl⟩))
    go_ret
    exact ⟨ret_int (by rw [HK.out, h1, h2, h3]; rfl), rfl⟩
end Go.Proofs.Ytihbaieiempjeaa
