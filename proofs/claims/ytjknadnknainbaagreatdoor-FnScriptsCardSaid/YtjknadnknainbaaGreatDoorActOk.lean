import Derived.Test.YtjknadnknainbaaGreatDoorMem
import Derived.Test.YtjknadnknainbaaGreatDoorWord
import Derived.Outline
/- The laws' own small functions: the copies of structs, and the comparisons at equal ones. -/
namespace Go.Proofs.YtjknadnknainbaaGreatDoor
open Go.RowKit

end Go.Proofs.YtjknadnknainbaaGreatDoor
/- ActOk, in the program and in the reference. -/
namespace Go.Proofs.YtjknadnknainbaaGreatDoor
open Go.RowKit

theorem actOkB_1 (i d n : Int) : actOkB 1 i d n = (inB i 0 1000 && inB d 0 1000 && inB n 0 1000) := rfl
theorem actOkB_2 (i d n : Int) : actOkB 2 i d n = (i == 0 && d == 0 && inB n 0 400) := rfl
theorem actOkB_3 (i d n : Int) : actOkB 3 i d n = (i == 0 && d == 0 && inB n 0 400) := rfl
theorem actOkB_4 (i d n : Int) : actOkB 4 i d n = (i == 0 && d == 0 && n == 0) := by simp [actOkB]
theorem actOkB_other {k : Int} (i d n : Int) (h1 : k ≠ 1) (h2 : k ≠ 2) (h3 : k ≠ 3) (h4 : k ≠ 4) : actOkB k i d n = false := by
  have e : (k == 4) = false := by simpa using h4
  simp [actOkB, h1, h2, h3, e]

theorem iActOk (k i d n : Int) (w : World) :
    Calls Tryz.prog 61 #[.agg #[.int .i64 k, .int .i64 i, .int .i64 d, .int .i64 n]] w fun e w' => e = .returned (.bool (actOkB k i d n)) ∧ Below w.heap.size w w' := by
  by_cases h1 : k = 1
  · subst h1
    cases h1 : inB i 0 1000; rotate_left
    cases h2 : inB d 0 1000
    all_goals
      go_enter Tryz.func61, Tryz.ntmps61
      go_wp2_with (go_at_call 65; refine (iWithin _ _ _ _).mono ?_; rintro e w' ⟨rfl, rfl⟩)
      go_ret
      refine ⟨ret_bool (by rw [actOkB_1]; simp [*]), ?_⟩
      exact belBy
  by_cases h2 : k = 2
  · subst h2
    cases h1 : (i == 0); rotate_left
    cases h2 : (d == 0)
    all_goals
      go_enter Tryz.func61, Tryz.ntmps61
      go_wp2_with (go_at_call 65; refine (iWithin _ _ _ _).mono ?_; rintro e w' ⟨rfl, rfl⟩)
      go_ret
      refine ⟨ret_bool (by rw [actOkB_2]; simp [*]), ?_⟩
      exact belBy
  by_cases h3 : k = 3
  · subst h3
    cases h1 : (i == 0); rotate_left
    cases h2 : (d == 0)
    all_goals
      go_enter Tryz.func61, Tryz.ntmps61
      go_wp2_with (go_at_call 65; refine (iWithin _ _ _ _).mono ?_; rintro e w' ⟨rfl, rfl⟩)
      go_ret
      refine ⟨ret_bool (by rw [actOkB_3]; simp [*]), ?_⟩
      exact belBy
  by_cases h4 : k = 4
  · subst h4
    go_enter Tryz.func61, Tryz.ntmps61
    go_wp2_with (go_at_call 65; refine (iWithin _ _ _ _).mono ?_; rintro e w' ⟨rfl, rfl⟩)
    all_goals
      go_ret
      refine ⟨ret_bool (by rw [actOkB_4]; simp [*]), ?_⟩
      exact belBy
  have HR := hid (actOkB_other (k := k) i d n h1 h2 h3 h4)
  have e1 : (k == 1) = false := by simpa using h1
  have e2 : (k == 2) = false := by simpa using h2
  have e3 : (k == 3) = false := by simpa using h3
  have e4 : (k == 4) = false := by simpa using h4
  go_enter Tryz.func61, Tryz.ntmps61
  go_wp2_with (go_at_call 65; refine (iWithin _ _ _ _).mono ?_; rintro e w' ⟨rfl, rfl⟩)
  all_goals
    go_ret
    refine ⟨ret_bool (by rw [HR.out]), ?_⟩
    exact belBy
theorem sPlain (k i d n : Int) (w : World) :
    Calls Tryz.prog 37 #[.agg #[.int .i64 k, .int .i64 i, .int .i64 d, .int .i64 n]] w fun e w' =>
      e = .returned (.agg #[.int .i64 k, .int .i64 (pick (k == 1) i 0), .int .i64 (pick (k == 1) d 0), .int .i64 (pick (k == 1 || k == 2 || k == 3) n 0)]) ∧ Below w.heap.size w w' := by
  cases h1 : (k == 1)
  cases h2 : (k == 2)
  cases h3 : (k == 3)
  all_goals
    go_enter Tryz.func37, Tryz.ntmps37
    go_wp2
    go_returns
    refine ⟨by simp, ?_⟩
    exact belBy
set_option maxHeartbeats 1600000 in
theorem sActOk (k i d n : Int) (w : World) :
    Calls Tryz.prog 20 #[.agg #[.int .i64 k, .int .i64 i, .int .i64 d, .int .i64 n]] w fun e w' => e = .returned (.bool (actOkB k i d n)) ∧ Below w.heap.size w w' := by
  by_cases h1 : k = 1
  · subst h1
    cases h1 : inB i 0 1000; rotate_left
    cases h2 : inB d 0 1000
    all_goals
      have h4 : inB 1 1 4 = true := rfl
      go_enter Tryz.func20, Tryz.ntmps20
      go_wp2_with fail
      apply wp_forget1 (b0 := w.heap.size) (w0 := w) (B := w.heap.size)
      focus (exact blkBy)
      focus (exact belBy)
      intro W1 k0 hbW
      have c0 := k0.cell
      have f0 := k0.frozen
      have z0 := k0.lt
      have q0 := fun (x : Later W1) (o : Nat) => (k0.below x.below k0.lt).cell o
      refine wp_region_later (by kernel_rfl) (by kernel_rfl) ?_
      repeat (go_big_quiet_step (first | (go_at_call 38; exact Calls.later_same (sWithin _ _ _ _)) | (go_at_call 37; exact Calls.later (sPlain _ _ _ _ _))))
      refine wpQuiet_nil ?_
      rintro _ ⟨⟨w1, hb1⟩, rfl⟩
      try dsimp only
      obtain ⟨z1a, c1a, f1a, k1a⟩ := bfact hb1 k0
      clear q0
      go_wp2_with (go_at_call 38; refine (sWithin _ _ _ _).mono ?_; rintro e w' ⟨rfl, rfl⟩)
      go_ret
      refine ⟨ret_bool (by rw [actOkB_1]; simp [*]), ?_⟩
      exact belBy
  by_cases h2 : k = 2
  · subst h2
    cases h1 : (i == 0); rotate_left
    cases h2 : (d == 0)
    all_goals
      have h4 : inB 2 1 4 = true := rfl
      go_enter Tryz.func20, Tryz.ntmps20
      go_wp2_with fail
      apply wp_forget1 (b0 := w.heap.size) (w0 := w) (B := w.heap.size)
      focus (exact blkBy)
      focus (exact belBy)
      intro W1 k0 hbW
      have c0 := k0.cell
      have f0 := k0.frozen
      have z0 := k0.lt
      have q0 := fun (x : Later W1) (o : Nat) => (k0.below x.below k0.lt).cell o
      refine wp_region_later (by kernel_rfl) (by kernel_rfl) ?_
      repeat (go_big_quiet_step (first | (go_at_call 38; exact Calls.later_same (sWithin _ _ _ _)) | (go_at_call 37; exact Calls.later (sPlain _ _ _ _ _))))
      refine wpQuiet_nil ?_
      rintro _ ⟨⟨w1, hb1⟩, rfl⟩
      try dsimp only
      obtain ⟨z1a, c1a, f1a, k1a⟩ := bfact hb1 k0
      clear q0
      go_wp2_with (go_at_call 38; refine (sWithin _ _ _ _).mono ?_; rintro e w' ⟨rfl, rfl⟩)
      go_ret
      refine ⟨ret_bool (by rw [actOkB_2]; simp [*]), ?_⟩
      exact belBy
  by_cases h3 : k = 3
  · subst h3
    cases h1 : (i == 0); rotate_left
    cases h2 : (d == 0)
    all_goals
      have h4 : inB 3 1 4 = true := rfl
      go_enter Tryz.func20, Tryz.ntmps20
      go_wp2_with fail
      apply wp_forget1 (b0 := w.heap.size) (w0 := w) (B := w.heap.size)
      focus (exact blkBy)
      focus (exact belBy)
      intro W1 k0 hbW
      have c0 := k0.cell
      have f0 := k0.frozen
      have z0 := k0.lt
      have q0 := fun (x : Later W1) (o : Nat) => (k0.below x.below k0.lt).cell o
      refine wp_region_later (by kernel_rfl) (by kernel_rfl) ?_
      repeat (go_big_quiet_step (first | (go_at_call 38; exact Calls.later_same (sWithin _ _ _ _)) | (go_at_call 37; exact Calls.later (sPlain _ _ _ _ _))))
      refine wpQuiet_nil ?_
      rintro _ ⟨⟨w1, hb1⟩, rfl⟩
      try dsimp only
      obtain ⟨z1a, c1a, f1a, k1a⟩ := bfact hb1 k0
      clear q0
      go_wp2_with (go_at_call 38; refine (sWithin _ _ _ _).mono ?_; rintro e w' ⟨rfl, rfl⟩)
      go_ret
      refine ⟨ret_bool (by rw [actOkB_3]; simp [*]), ?_⟩
      exact belBy
  by_cases h4 : k = 4
  · subst h4
    cases h1 : (i == 0); rotate_left
    cases h2 : (d == 0); rotate_left
    cases h3 : (n == 0)
    all_goals
      have h4 : inB 4 1 4 = true := rfl
      go_enter Tryz.func20, Tryz.ntmps20
      go_wp2_with fail
      apply wp_forget1 (b0 := w.heap.size) (w0 := w) (B := w.heap.size)
      focus (exact blkBy)
      focus (exact belBy)
      intro W1 k0 hbW
      have c0 := k0.cell
      have f0 := k0.frozen
      have z0 := k0.lt
      have q0 := fun (x : Later W1) (o : Nat) => (k0.below x.below k0.lt).cell o
      refine wp_region_later (by kernel_rfl) (by kernel_rfl) ?_
      repeat (go_big_quiet_step (first | (go_at_call 38; exact Calls.later_same (sWithin _ _ _ _)) | (go_at_call 37; exact Calls.later (sPlain _ _ _ _ _))))
      refine wpQuiet_nil ?_
      rintro _ ⟨⟨w1, hb1⟩, rfl⟩
      try dsimp only
      obtain ⟨z1a, c1a, f1a, k1a⟩ := bfact hb1 k0
      clear q0
      go_wp2_with (go_at_call 38; refine (sWithin _ _ _ _).mono ?_; rintro e w' ⟨rfl, rfl⟩)
      go_ret
      refine ⟨ret_bool (by rw [actOkB_4]; simp_all [inB]), ?_⟩
      exact belBy
  have HR := hid (actOkB_other (k := k) i d n h1 h2 h3 h4)
  have e1 : (k == 1) = false := by simpa using h1
  have e2 : (k == 2) = false := by simpa using h2
  have e3 : (k == 3) = false := by simpa using h3
  have e4 : (k == 4) = false := by simpa using h4
  have e5 : inB k 1 4 = false := by rw [inB_no]; omega
  cases h5 : (i == 0); rotate_left
  cases h6 : (d == 0); rotate_left
  cases h7 : (n == 0)
  all_goals
    go_enter Tryz.func20, Tryz.ntmps20
    go_wp2_with fail
    apply wp_forget1 (b0 := w.heap.size) (w0 := w) (B := w.heap.size)
    focus (exact blkBy)
    focus (exact belBy)
    intro W1 k0 hbW
    have c0 := k0.cell
    have f0 := k0.frozen
    have z0 := k0.lt
    have q0 := fun (x : Later W1) (o : Nat) => (k0.below x.below k0.lt).cell o
    refine wp_region_later (by kernel_rfl) (by kernel_rfl) ?_
    repeat (go_big_quiet_step (first | (go_at_call 38; exact Calls.later_same (sWithin _ _ _ _)) | (go_at_call 37; exact Calls.later (sPlain _ _ _ _ _))))
    refine wpQuiet_nil ?_
    rintro _ ⟨⟨w1, hb1⟩, rfl⟩
    try dsimp only
    obtain ⟨z1a, c1a, f1a, k1a⟩ := bfact hb1 k0
    clear q0
    go_wp2_with (go_at_call 38; refine (sWithin _ _ _ _).mono ?_; rintro e w' ⟨rfl, rfl⟩)
    go_ret
    refine ⟨ret_bool (by rw [HR.out]), ?_⟩
    exact belBy
end Go.Proofs.YtjknadnknainbaaGreatDoor
