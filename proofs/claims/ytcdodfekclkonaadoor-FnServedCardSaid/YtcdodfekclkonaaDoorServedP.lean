/- What runs of acts keep. No program is named here. -/
import Derived.Test.YtcdodfekclkonaaDoorRunActsM
import Derived.Test.YtcdodfekclkonaaDoorSchedTxt
import Derived.Test.YtcdodfekclkonaaDoorDrawActs
namespace Go.Proofs.YtcdodfekclkonaaDoor
open Go.RowKit

/-- A schedule of drawn acts: valid, and its failed jobs have numbers of jobs. -/
def okR (S : SV) : Prop := okS S ∧ ∀ x ∈ S.fs, 1 ≤ x ∧ x ≤ 1000
theorem okR_new {z : Int} (h1 : 1 ≤ z) (h2 : z ≤ 1000) : okR ⟨z, 0, 0, [], [], []⟩ := ⟨okS_new h1 h2, fun x hx => by simp at hx⟩
theorem job_range {S : SV} (h : okS S) (h0 : 0 < S.js.length) : 1 ≤ (job S).i ∧ (job S).i ≤ 1000 := by
  have hb : best S < S.js.length := bestTo_lt h0 _ (Nat.le_refl _)
  have hj : job S ∈ S.js := by
    unfold job
    rw [List.getD_eq_getElem?_getD, List.getElem?_eq_getElem hb]
    exact List.getElem_mem hb
  exact (jb_range (h.1.2.2.2.1.1 _ hj)).1
theorem okR_step {S : SV} (h : okR S) (hb : stepB S = true) : okR (stepS S) := by
  refine ⟨okS_step h.1 hb, fun x hx => ?_⟩
  have h0 : 0 < S.js.length := by
    unfold stepB at hb
    simp only [Bool.and_eq_true, decide_eq_true_eq] at hb
    exact hb.1.2
  unfold stepS at hx
  split at hx
  · unfold stepF at hx
    rcases List.mem_append.1 hx with h1 | h1
    · exact h.2 x h1
    · simp at h1
      subst h1
      exact job_range h.1 h0
  · exact h.2 x hx
theorem okR_run : ∀ (m : Nat) {S : SV}, okR S → okR (runS m S)
  | 0, _, h => h
  | m + 1, S, h => by
    rw [runS]
    split
    · rename_i hb
      exact okR_run m (okR_step h hb)
    · exact h


theorem okR_do {S : SV} {k i d n : Int} (h : okR S) (ha : drawnB k i d n) : okR (doS S k i d n) := by
  unfold doS
  split
  · split
    · unfold addR
      cases hb : addB S i d n
      · exact h
      · exact ⟨okS_add h.1 hb ha.2, h.2⟩
    · split
      · exact okR_run _ h
      · split
        · cases hr : resB S.z S.n S.b n
          · exact h
          · exact ⟨okS_reserve h.1 hr, h.2⟩
        · refine ⟨okS_crash h.1, fun x hx => ?_⟩
          unfold crashS at hx
          split at hx
          · exact h.2 x hx
          · exact h.2 x hx
  · exact h

theorem okR_to {z : Int} {xs : List Int} (h1 : 1 ≤ z) (h2 : z ≤ 1000) : ∀ n, actsOk xs n → okR (stTo z xs n)
  | 0, _ => okR_new h1 h2
  | n + 1, h => okR_do (okR_to h1 h2 n fun j hj => h j (by omega)) (h n (by omega))
theorem getD_take {xs : List Int} {m i : Nat} (h : i < m) : (xs.take m).getD i 0 = xs.getD i 0 := by
  rw [List.getD_eq_getElem?_getD, List.getD_eq_getElem?_getD, List.getElem?_take, if_pos h]
theorem stTo_take (z : Int) (xs : List Int) (k : Nat) : ∀ j, j ≤ k → stTo z (xs.take (k * 4)) j = stTo z xs j
  | 0, _ => rfl
  | j + 1, h => by
    rw [stTo, stTo, stTo_take z xs k j (by omega), getD_take (by omega), getD_take (by omega), getD_take (by omega), getD_take (by omega)]
theorem codesTo_take (z : Int) (xs : List Int) (k : Nat) : ∀ j, j ≤ k → codesTo z (xs.take (k * 4)) j = codesTo z xs j
  | 0, _ => rfl
  | j + 1, h => by
    rw [codesTo, codesTo, codesTo_take z xs k j (by omega), stTo_take z xs k j (by omega), getD_take (by omega), getD_take (by omega), getD_take (by omega), getD_take (by omega)]
end Go.Proofs.YtcdodfekclkonaaDoor
