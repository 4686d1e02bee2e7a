/- What steps, runs, crashes and additions keep of a valid schedule, plainly. No program is named here. -/
import Derived.Test.YtipnhlnbokkihaaStepI0
namespace Go.Proofs.Ytipnhlnbokkihaa
open Go.RowKit

def sumT : List Tk → Int
  | [] => 0
  | t :: ts => t.c + sumT ts
theorem sumT_append : ∀ a b : List Tk, sumT (a ++ b) = sumT a + sumT b
  | [], b => by simp [sumT]
  | t :: a, b => by simp only [List.cons_append, sumT, sumT_append a b]; omega
def okS (S : SV) : Prop := schedOk S ∧ (∀ j ∈ S.js, j.l + j.d ≤ 20) ∧ sumT S.ts ≤ S.n
theorem jbsOk_erase {js : List Jb} (h : jbsOk js) (k : Nat) : jbsOk (js.eraseIdx k) := by
  refine ⟨fun j hj => h.1 j (List.mem_of_mem_eraseIdx hj), ?_⟩
  intro i q j x hi hq hlt
  rw [List.getElem?_eraseIdx] at hi hq
  split at hi <;> split at hq
  · exact h.2 _ _ _ _ hi hq hlt
  · omega
  · exact h.2 _ _ _ _ hi hq (by omega)
  · exact h.2 _ _ _ _ hi hq (by omega)
theorem jbsOk_set {js : List Jb} (h : jbsOk js) {k : Nat} {j : Jb} (hk : js[k]? = some j) (y : Jb) (hy : jbIn y = true) (hi : y.i = j.i) : jbsOk (js.set k y) := by
  refine ⟨fun a ha => ?_, ?_⟩
  · rcases List.mem_or_eq_of_mem_set ha with h1 | rfl
    · exact h.1 a h1
    · exact hy
  · intro a q u x ha hq hlt
    rw [List.getElem?_set] at ha hq
    split at ha
    · next e =>
      subst e
      split at ha
      · injection ha with ha
        subst ha
        rw [if_neg (by omega)] at hq
        rw [hi]
        exact h.2 _ _ _ _ hk hq hlt
      · cases ha
    · split at hq
      · next e =>
        subst e
        split at hq
        · injection hq with hq
          subst hq
          rw [hi]
          exact h.2 _ _ _ _ ha hk hlt
        · cases hq
      · exact h.2 _ _ _ _ ha hq hlt
theorem tksOk_add {ts : List Tk} (h : tksOk ts) (hl : ts.length < 1000) {n k : Int} (hn : ∀ t ∈ ts, t.f + t.c ≤ n) (h0 : 0 ≤ n) (h1 : n ≤ 1000) (h2 : 0 ≤ k) (h3 : k ≤ 1000) : tksOk (ts ++ [⟨n, k⟩]) := by
  obtain ⟨_, ha, hb⟩ := h
  refine ⟨by simp; omega, ?_, ?_⟩
  · intro t ht
    rcases List.mem_append.1 ht with h | h
    · exact ha t h
    · rw [List.mem_singleton] at h
      subst h
      unfold tkIn
      rw [inB_iff.2 ⟨h0, h1⟩, inB_iff.2 ⟨h2, h3⟩]
      rfl
  · intro i q t x hi hq hlt
    have hil : i < (ts ++ [(⟨n, k⟩ : Tk)]).length := (List.getElem?_eq_some_iff.1 hi).1
    rw [List.length_append, List.length_singleton] at hil
    rw [List.getElem?_append_left (by omega)] at hq
    by_cases he : i < ts.length
    · rw [List.getElem?_append_left he] at hi
      exact hb _ _ _ _ hi hq hlt
    · obtain rfl : i = ts.length := by omega
      rw [List.getElem?_append_right (Nat.le_refl _), Nat.sub_self] at hi
      injection hi with hi
      subst hi
      have := hn x (List.mem_of_getElem? hq)
      rintro ⟨m1, m2, m3, m4⟩
      simp only at m3
      omega
theorem okS_step {S : SV} (h : okS S) (hb : stepB S = true) : okS (stepS S) := by
  obtain ⟨hS, hld, hsum⟩ := h
  obtain ⟨_, hj0, ht0⟩ := stepB_parts hb
  obtain ⟨hp, hjl, hts, hjs, htn⟩ := id hS
  have hlen := stepS_len S
  cases hf : failsB S
  · rw [stepS_take hf] at hlen ⊢
    have htk := take_yes hS hj0 hf
    obtain ⟨⟨a1, a2, a3, a4, a5⟩, b1, ⟨b2, b2'⟩, ⟨b3, b3'⟩, b4, b4'⟩ := sched_facts hS hj0
    unfold takeB at htk
    simp only [Bool.and_eq_true, decide_eq_true_eq] at htk
    obtain ⟨⟨hp', hin⟩, hle⟩ := htk
    have hp2 := poolOk_iff.1 hp'
    have hat := job_at hj0
    have hld' := hld _ (List.mem_of_getElem? hat)
    have hjs' : jbsOk (stepT S).js ∧ ∀ j ∈ (stepT S).js, j.l + j.d ≤ 20 := by
      show jbsOk (if (job S).l = 1 then S.js.eraseIdx (best S) else S.js.set (best S) (jbNext (job S))) ∧ ∀ j ∈ (if (job S).l = 1 then S.js.eraseIdx (best S) else S.js.set (best S) (jbNext (job S))), j.l + j.d ≤ 20
      split
      · exact ⟨jbsOk_erase hjs _, fun j hj => hld j (List.mem_of_mem_eraseIdx hj)⟩
      · next hl1 =>
        refine ⟨jbsOk_set hjs hat _ (jbIn_iff.2 ?_) rfl, fun j hj => ?_⟩
        · simp only [jbNext]
          omega
        · rcases List.mem_or_eq_of_mem_set hj with h | rfl
          · exact hld j h
          · simp only [jbNext]
            omega
    refine ⟨⟨poolOk_iff.2 ?_, Nat.le_trans hlen.1 hjl, tksOk_add hts ht0 htn (by omega) (by omega) (by omega) (by omega), hjs'.1, ?_⟩, hjs'.2, ?_⟩
    · show 1 ≤ S.z ∧ S.z ≤ 1000 ∧ 0 ≤ S.n + (job S).n ∧ S.n + (job S).n ≤ burned S ∧ burned S ≤ S.z
      omega
    · intro t ht
      show t.f + t.c ≤ S.n + (job S).n
      rcases List.mem_append.1 ht with h | h
      · have := htn t h
        omega
      · rw [List.mem_singleton] at h
        subst h
        exact Int.le_refl _
    · show sumT (S.ts ++ [⟨S.n, (job S).n⟩]) ≤ S.n + (job S).n
      rw [sumT_append]
      simp only [sumT]
      omega
  · rw [stepS_fail hf] at hlen ⊢
    exact ⟨⟨hp, Nat.le_trans hlen.1 hjl, hts, jbsOk_erase hjs _, htn⟩, fun j hj => hld j (List.mem_of_mem_eraseIdx hj), hsum⟩
theorem okS_run : ∀ (m : Nat) {S : SV}, okS S → okS (runS m S)
  | 0, S, h => h
  | m + 1, S, h => by
    unfold runS
    split
    · next hb => exact okS_run m (okS_step h hb)
    · exact h
theorem tsRun : ∀ (m : Nat) (S : SV), (runS m S).ts.length ≤ S.ts.length + runN m S
  | 0, S => Nat.le_refl _
  | m + 1, S => by
    unfold runS runN
    split
    · have h1 := tsRun m (stepS S)
      have h2 := stepS_len S
      omega
    · exact Nat.le_refl _
theorem runN_le : ∀ (m : Nat) (S : SV), runN m S ≤ m
  | 0, S => Nat.le_refl _
  | m + 1, S => by
    unfold runN
    split
    · have := runN_le m (stepS S)
      omega
    · omega
theorem lenRunS : ∀ (m : Nat) (S : SV), (runS m S).js.length ≤ S.js.length ∧ (runS m S).ts.length ≤ S.ts.length + m ∧ (runS m S).fs.length ≤ S.fs.length + m
  | 0, S => ⟨Nat.le_refl _, Nat.le_refl _, Nat.le_refl _⟩
  | m + 1, S => by
    unfold runS
    split
    · have h1 := lenRunS m (stepS S)
      have h2 := stepS_len S
      omega
    · omega
theorem okS_crash {S : SV} (h : okS S) : okS (crashS S) := by
  obtain ⟨hS, hld, hsum⟩ := h
  unfold crashS
  rw [schedOkB_yes hS]
  obtain ⟨hp, hjl, hts, hjs, htn⟩ := id hS
  have hp2 := poolOk_iff.1 hp
  refine ⟨⟨poolOk_iff.2 ?_, hjl, hts, hjs, fun t ht => ?_⟩, hld, ?_⟩
  · show 1 ≤ S.z ∧ S.z ≤ 1000 ∧ 0 ≤ S.b ∧ S.b ≤ S.b ∧ S.b ≤ S.z
    omega
  · have := htn t ht
    show t.f + t.c ≤ S.b
    omega
  · show sumT S.ts ≤ S.b
    omega
theorem crash_n {S : SV} (h : okS S) : (crashS S).n = S.b := by
  unfold crashS
  rw [schedOkB_yes h.1]
  rfl
theorem okS_add {S : SV} {id need rounds : Int} (h : okS S) (hb : addB S id need rounds = true) (hr : rounds ≤ 20) : okS (addS S id need rounds) := by
  unfold addB at hb
  simp only [Bool.and_eq_true] at hb
  refine ⟨schedOkB_iff.1 hb.2, fun j hj => ?_, h.2.2⟩
  rcases List.mem_append.1 hj with h1 | h1
  · exact h.2.1 j h1
  · rw [List.mem_singleton] at h1
    subst h1
    show rounds + 0 ≤ 20
    omega
theorem okS_reserve {S : SV} (h : okS S) {k : Int} (hr : resB S.z S.n S.b k = true) : okS { S with b := S.b + k } := by
  obtain ⟨hS, hld, hsum⟩ := h
  obtain ⟨hp, hjl, hts, hjs, htn⟩ := id hS
  unfold resB at hr
  simp only [Bool.and_eq_true, decide_eq_true_eq, inB_iff] at hr
  have hp2 := poolOk_iff.1 hp
  exact ⟨⟨poolOk_iff.2 (by show 1 ≤ S.z ∧ S.z ≤ 1000 ∧ 0 ≤ S.n ∧ S.n ≤ S.b + k ∧ S.b + k ≤ S.z; omega), hjl, hts, hjs, htn⟩, hld, hsum⟩
theorem okS_new {z : Int} (h1 : 1 ≤ z) (h2 : z ≤ 1000) : okS ⟨z, 0, 0, [], [], []⟩ := by
  refine ⟨⟨poolOk_iff.2 (by show 1 ≤ z ∧ z ≤ 1000 ∧ (0 : Int) ≤ 0 ∧ (0 : Int) ≤ 0 ∧ 0 ≤ z; omega), by simp, ⟨by simp, by simp, ?_⟩, ⟨by simp, ?_⟩, by simp⟩, by simp, by simp [sumT]⟩
  · intro i k t x h
    simp at h
  · intro i k t x h
    simp at h
/-! failures -/
theorem fails_iff {S : SV} (h : okS S) (h0 : 0 < S.js.length) : failsB S = decide (S.z < S.n + (job S).n) := by
  obtain ⟨⟨a1, a2, a3, a4, a5⟩, b1, ⟨b2, b2'⟩, _⟩ := sched_facts h.1 h0
  have hp := h.1.1
  unfold failsB resB short
  rw [hp]
  by_cases hs : 0 < S.n + (job S).n - S.b
  · rw [decide_eq_true hs, inB_iff.2 ⟨by omega, by omega⟩]
    by_cases hz : S.z < S.n + (job S).n
    · rw [decide_eq_true hz, decide_eq_false (by omega)]
      rfl
    · rw [decide_eq_false hz, decide_eq_true (by omega)]
      rfl
  · rw [decide_eq_false hs, decide_eq_false (p := S.z < S.n + (job S).n) (by omega)]
    rfl
end Go.Proofs.Ytipnhlnbokkihaa
