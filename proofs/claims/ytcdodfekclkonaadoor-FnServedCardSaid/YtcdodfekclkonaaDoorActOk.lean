/- ActOk, in the program and in the reference. -/
import Derived.Test.YtcdodfekclkonaaDoorConv
namespace Go.Proofs.YtcdodfekclkonaaDoor
open Go.RowKit

theorem actOkB_1 (i d n : Int) : actOkB 1 i d n = (inB i 0 1000 && inB d 0 1000 && inB n 0 1000) := rfl
theorem actOkB_2 (i d n : Int) : actOkB 2 i d n = (i == 0 && d == 0 && inB n 0 400) := rfl
theorem actOkB_3 (i d n : Int) : actOkB 3 i d n = (i == 0 && d == 0 && inB n 0 400) := rfl
theorem actOkB_4 (i d n : Int) : actOkB 4 i d n = (i == 0 && d == 0 && n == 0) := by simp [actOkB]
theorem actOkB_other {k : Int} (i d n : Int) (h1 : k ≠ 1) (h2 : k ≠ 2) (h3 : k ≠ 3) (h4 : k ≠ 4) : actOkB k i d n = false := by
  have e : (k == 4) = false := by simpa using h4
  simp [actOkB, h1, h2, h3, e]

theorem iActOk (k i d n : Int) (w : World) :
    Calls Tryd.prog 17 #[.agg #[.int .i64 k, .int .i64 i, .int .i64 d, .int .i64 n]] w fun e w' => e = .returned (.bool (actOkB k i d n)) ∧ Below w.heap.size w w' := by
  by_cases h1 : k = 1
  · subst h1
    cases h1 : inB i 0 1000; rotate_left
    cases h2 : inB d 0 1000
    all_goals
      go_enter Tryd.func17, Tryd.ntmps17
      go_wp2_with (go_at_call 29; refine (iWithin _ _ _ _).mono ?_; rintro e w' ⟨rfl, rfl⟩)
      go_ret
      refine ⟨ret_bool (by rw [actOkB_1]; simp [*]), ?_⟩
      repeat (first | (with_reducible exact Below.refl _ _) | (with_reducible refine Below.trans ?_ (Below.mono (by assumption) (by first | omega | (simp; done) | (simp; omega) | (simp [*]; done)))) | (with_reducible refine Below.alloc ?_ (by first | omega | (simp; done) | (simp; omega) | (simp [*]; done)) _) | (with_reducible refine Below.setCell ?_ (by first | omega | (simp; done) | (simp; omega) | (simp [*]; done)) _) | (with_reducible refine Below.drew ?_) | (with_reducible refine below_drewN ?_))
  by_cases h2 : k = 2
  · subst h2
    cases h1 : (i == 0); rotate_left
    cases h2 : (d == 0)
    all_goals
      go_enter Tryd.func17, Tryd.ntmps17
      go_wp2_with (go_at_call 29; refine (iWithin _ _ _ _).mono ?_; rintro e w' ⟨rfl, rfl⟩)
      go_ret
      refine ⟨ret_bool (by rw [actOkB_2]; simp [*]), ?_⟩
      repeat (first | (with_reducible exact Below.refl _ _) | (with_reducible refine Below.trans ?_ (Below.mono (by assumption) (by first | omega | (simp; done) | (simp; omega) | (simp [*]; done)))) | (with_reducible refine Below.alloc ?_ (by first | omega | (simp; done) | (simp; omega) | (simp [*]; done)) _) | (with_reducible refine Below.setCell ?_ (by first | omega | (simp; done) | (simp; omega) | (simp [*]; done)) _) | (with_reducible refine Below.drew ?_) | (with_reducible refine below_drewN ?_))
  by_cases h3 : k = 3
  · subst h3
    cases h1 : (i == 0); rotate_left
    cases h2 : (d == 0)
    all_goals
      go_enter Tryd.func17, Tryd.ntmps17
      go_wp2_with (go_at_call 29; refine (iWithin _ _ _ _).mono ?_; rintro e w' ⟨rfl, rfl⟩)
      go_ret
      refine ⟨ret_bool (by rw [actOkB_3]; simp [*]), ?_⟩
      repeat (first | (with_reducible exact Below.refl _ _) | (with_reducible refine Below.trans ?_ (Below.mono (by assumption) (by first | omega | (simp; done) | (simp; omega) | (simp [*]; done)))) | (with_reducible refine Below.alloc ?_ (by first | omega | (simp; done) | (simp; omega) | (simp [*]; done)) _) | (with_reducible refine Below.setCell ?_ (by first | omega | (simp; done) | (simp; omega) | (simp [*]; done)) _) | (with_reducible refine Below.drew ?_) | (with_reducible refine below_drewN ?_))
  by_cases h4 : k = 4
  · subst h4
    go_enter Tryd.func17, Tryd.ntmps17
    go_wp2_with (go_at_call 29; refine (iWithin _ _ _ _).mono ?_; rintro e w' ⟨rfl, rfl⟩)
    all_goals
      go_ret
      refine ⟨ret_bool (by rw [actOkB_4]; simp [*]), ?_⟩
      repeat (first | (with_reducible exact Below.refl _ _) | (with_reducible refine Below.trans ?_ (Below.mono (by assumption) (by first | omega | (simp; done) | (simp; omega) | (simp [*]; done)))) | (with_reducible refine Below.alloc ?_ (by first | omega | (simp; done) | (simp; omega) | (simp [*]; done)) _) | (with_reducible refine Below.setCell ?_ (by first | omega | (simp; done) | (simp; omega) | (simp [*]; done)) _) | (with_reducible refine Below.drew ?_) | (with_reducible refine below_drewN ?_))
  have HR := hid (actOkB_other (k := k) i d n h1 h2 h3 h4)
  have e1 : (k == 1) = false := by simpa using h1
  have e2 : (k == 2) = false := by simpa using h2
  have e3 : (k == 3) = false := by simpa using h3
  have e4 : (k == 4) = false := by simpa using h4
  go_enter Tryd.func17, Tryd.ntmps17
  go_wp2_with (go_at_call 29; refine (iWithin _ _ _ _).mono ?_; rintro e w' ⟨rfl, rfl⟩)
  all_goals
    go_ret
    refine ⟨ret_bool (by rw [HR.out]), ?_⟩
    repeat (first | (with_reducible exact Below.refl _ _) | (with_reducible refine Below.trans ?_ (Below.mono (by assumption) (by first | omega | (simp; done) | (simp; omega) | (simp [*]; done)))) | (with_reducible refine Below.alloc ?_ (by first | omega | (simp; done) | (simp; omega) | (simp [*]; done)) _) | (with_reducible refine Below.setCell ?_ (by first | omega | (simp; done) | (simp; omega) | (simp [*]; done)) _) | (with_reducible refine Below.drew ?_) | (with_reducible refine below_drewN ?_))
end Go.Proofs.YtcdodfekclkonaaDoor
