/- The step of a schedule, in the program. -/
import Derived.Test.YtcdodfekclkonaaDoorStepPlain
import Derived.Test.YtcdodfekclkonaaDoorDrop2

import Derived.BigQuiet
import Derived.StillTailTactics
namespace Go.Proofs.YtcdodfekclkonaaDoor
open Go.RowKit

noncomputable def stepR (S : SV) : SV := if stepB S then stepS S else S
noncomputable def stepI (S : SV) : Int := if stepB S then (job S).i else 0
theorem stepB_parts {S : SV} (h : stepB S = true) : schedOk S ∧ 0 < S.js.length ∧ S.ts.length < 1000 := by
  unfold stepB at h
  simp only [Bool.and_eq_true, decide_eq_true_eq] at h
  exact ⟨schedOkB_iff.1 h.1.1, h.1.2, h.2⟩
theorem stepR_no {S : SV} (h : stepB S = false) : stepR S = S := by unfold stepR; rw [h]; rfl
theorem stepR_yes {S : SV} (h : stepB S = true) : stepR S = stepS S := by unfold stepR; rw [h]; rfl
theorem stepI_no {S : SV} (h : stepB S = false) : stepI S = 0 := by unfold stepI; rw [h]; rfl
theorem stepI_yes {S : SV} (h : stepB S = true) : stepI S = (job S).i := by unfold stepI; rw [h]; rfl
theorem stepS_len (S : SV) : (stepS S).js.length ≤ S.js.length ∧ (stepS S).ts.length ≤ S.ts.length + 1 ∧ (stepS S).fs.length ≤ S.fs.length + 1 := by
  have h := List.length_eraseIdx_le S.js (best S)
  unfold stepS
  split
  · simp only [stepF, List.length_append, List.length_cons, List.length_nil]
    exact ⟨h, by omega, by omega⟩
  · simp only [stepT, List.length_append, List.length_cons, List.length_nil]
    refine ⟨?_, by omega, by omega⟩
    split
    · exact h
    · simp
theorem lenSchedStep (S : SV) : (stepR S).js.length ≤ S.js.length ∧ (stepR S).ts.length ≤ S.ts.length + 1 ∧ (stepR S).fs.length ≤ S.fs.length + 1 := by
  unfold stepR
  split
  · exact stepS_len S
  · exact ⟨Nat.le_refl _, by omega, by omega⟩
end Go.Proofs.YtcdodfekclkonaaDoor
