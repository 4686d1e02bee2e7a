/- The walks of the small functions on words, in the program and in the reference. -/
import Derived.Test.YtonanjcojfjbdaaRows
import Derived.Test.YtonanjcojfjbdaaBase
import Derived.Test.YtonanjcojfjbdaaPlain
import Derived.WalkSpells
import Derived.WalkLawsBesides
namespace Go.Proofs.Ytonanjcojfjbdaa
open Go.RowKit

theorem iWithin (n lo hi : Int) (w : World) :
    Calls Try.prog 30 #[.int .i64 n, .int .i64 lo, .int .i64 hi] w fun e w' => e = .returned (.bool (inB n lo hi)) ∧ w = w' := by
  by_cases h1 : lo ≤ n <;> by_cases h2 : n ≤ hi
  all_goals
    go_enter Try.func30, Try.ntmps30
    go_wp2
    go_ret
    exact ⟨by simp [inB, h1, h2], rfl⟩
theorem sWithin (n lo hi : Int) (w : World) :
    Calls Try.prog 19 #[.int .i64 n, .int .i64 lo, .int .i64 hi] w fun e w' => e = .returned (.bool (inB n lo hi)) ∧ w = w' := by
  by_cases h1 : lo ≤ n <;> by_cases h2 : n ≤ hi
  all_goals
    go_enter Try.func19, Try.ntmps19
    go_wp2
    go_ret
    exact ⟨by simp [inB, h1, h2], rfl⟩
theorem iIsWord (n : Int) (w : World) :
    Calls Try.prog 51 #[.int .i64 n] w fun e w' => e = .returned (.bool (isWordB n)) ∧ w = w' := by
  go_enter Try.func51, Try.ntmps51
  go_wp2_with (go_at_call 30; refine (iWithin _ _ _ _).mono ?_; rintro e w' ⟨rfl, rfl⟩)
  go_ret
  exact ⟨rfl, rfl⟩
theorem sIsWord (n : Int) (w : World) :
    Calls Try.prog 60 #[.int .i64 n] w fun e w' => e = .returned (.bool (isWordB n)) ∧ w = w' := by
  go_enter Try.func60, Try.ntmps60
  go_wp2_with (go_at_call 19; refine (sWithin _ _ _ _).mono ?_; rintro e w' ⟨rfl, rfl⟩)
  go_ret
  exact ⟨rfl, rfl⟩
theorem iMix (n : Int) (w : World) :
    Calls Try.prog 69 #[.int .i64 n] w fun e w' => e = .returned (.int .i64 (mixI n)) ∧ w = w' := by
  cases h : isWordB n
  · go_enter Try.func69, Try.ntmps69
    go_wp2_with (go_at_call 51; refine (iIsWord _ _).mono ?_; rintro e w' ⟨rfl, rfl⟩)
    go_ret
    exact ⟨by rw [mixI_no h]; rfl, rfl⟩
  · have h0 := (isWordB_iff.1 h).1
    have h1 := (isWordB_iff.1 h).2
    go_enter Try.func69, Try.ntmps69
    go_wp2_with (go_at_call 51; refine (iIsWord _ _).mono ?_; rintro e w' ⟨rfl, rfl⟩)
    refine wp_loop_rounds 3 ?_
    rw [rounds_succ]
    go_wp2
    rw [rounds_succ]
    go_wp2
    rw [rounds_succ]
    go_wp2
    go_ret
    exact ⟨ret_int (mix_spell n h0 h1 _ _ rfl rfl), rfl⟩
theorem iKeyed (k a b : Int) (w : World) :
    Calls Try.prog 64 #[.int .i64 k, .int .i64 a, .int .i64 b] w fun e w' => e = .returned (.int .i64 (keyedI k a b)) ∧ w = w' := by
  have hk : keyedI k a b = if isWordB k && isWordB a && isWordB b then mixI (bits .xor .i64 (mixI (bits .xor .i64 (mixI k) a)) b) else 0 := rfl
  have HK := hid hk
  clear hk
  cases h1 : isWordB k <;> cases h2 : isWordB a <;> cases h3 : isWordB b
  all_goals
    go_enter Try.func64, Try.ntmps64
    go_wp2_with (first | (go_at_call 51; refine (iIsWord _ _).mono ?_; rintro e w' ⟨rfl, rfl⟩) | (go_at_call 69; refine (iMix _ _).mono ?_; rintro e w' ⟨rfl, rfl⟩))
    go_ret
    exact ⟨ret_int (by rw [HK.out, h1, h2, h3]; rfl), rfl⟩
theorem sMix (n : Int) (w : World) :
    Calls Try.prog 68 #[.int .i64 n] w fun e w' => e = .returned (.int .i64 (mixI n)) ∧ w = w' := by
  cases h : isWordB n
  · go_enter Try.func68, Try.ntmps68
    go_wp2_with (go_at_call 60; refine (sIsWord _ _).mono ?_; rintro e w' ⟨rfl, rfl⟩)
    go_ret
    exact ⟨by rw [mixI_no h]; rfl, rfl⟩
  · have h0 := (isWordB_iff.1 h).1
    have h1 := (isWordB_iff.1 h).2
    go_enter Try.func68, Try.ntmps68
    go_wp2_with (go_at_call 60; refine (sIsWord _ _).mono ?_; rintro e w' ⟨rfl, rfl⟩)
    refine wp_loop_rounds 3 ?_
    rw [rounds_succ]
    go_wp2
    rw [rounds_succ]
    go_wp2
    rw [rounds_succ]
    go_wp2
    go_ret
    exact ⟨ret_int (mix_spell n h0 h1 _ _ rfl rfl), rfl⟩
theorem sKeyed (k a b : Int) (w : World) :
    Calls Try.prog 62 #[.int .i64 k, .int .i64 a, .int .i64 b] w fun e w' => e = .returned (.int .i64 (keyedI k a b)) ∧ w = w' := by
  have hk : keyedI k a b = if isWordB k && isWordB a && isWordB b then mixI (bits .xor .i64 (mixI (bits .xor .i64 (mixI k) a)) b) else 0 := rfl
  have HK := hid hk
  clear hk
  cases h1 : isWordB k <;> cases h2 : isWordB a <;> cases h3 : isWordB b
  all_goals
    go_enter Try.func62, Try.ntmps62
    go_wp2_with (first | (go_at_call 60; refine (sIsWord _ _).mono ?_; rintro e w' ⟨rfl, rfl⟩) | (go_at_call 68; refine (sMix _ _).mono ?_; rintro e w' ⟨rfl, rfl⟩))
    go_ret
    exact ⟨ret_int (by rw [HK.out, h1, h2, h3]; rfl), rfl⟩
end Go.Proofs.Ytonanjcojfjbdaa
