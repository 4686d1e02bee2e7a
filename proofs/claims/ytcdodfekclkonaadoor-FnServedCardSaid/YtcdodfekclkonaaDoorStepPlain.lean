/- The step of a schedule: what follows from validity. No program is named here. -/
import Derived.Test.YtcdodfekclkonaaDoorSchedOk2
import Derived.Test.YtcdodfekclkonaaDoorMem
namespace Go.Proofs.YtcdodfekclkonaaDoor
open Go.RowKit

theorem best_lt {S : SV} (h : 0 < S.js.length) : best S < S.js.length := bestTo_lt h _ (Nat.le_refl _)
theorem job_at {S : SV} (h : 0 < S.js.length) : S.js[best S]? = some (job S) := by
  unfold job
  have := best_lt h
  rw [List.getD_eq_getElem?_getD, List.getElem?_eq_getElem this]
  rfl
theorem bestTo_succ {js : List Jb} {i : Nat} {j b : Jb} (hj : js[i]? = some j) (hb : js[bestTo js i]? = some b) : bestTo js (i + 1) = if j.d < b.d then i else bestTo js i := by
  show (if (js.getD i jb0).d < (js.getD (bestTo js i) jb0).d then i else bestTo js i) = _
  rw [List.getD_eq_getElem?_getD, List.getD_eq_getElem?_getD, hj, hb]
  rfl
theorem flatJ_next (js : List Jb) (k : Nat) {j : Jb} (h : js[k]? = some j) : ((flatJ js).set (k * 4 + 3) (j.d + 1)).set (k * 4 + 2) (j.l - 1) = flatJ (js.set k (jbNext j)) := by
  rw [← flatJ_set]
  have h0 := flatJ_at h 0 j.i rfl
  have h1 := flatJ_at h 1 j.n rfl
  have e0 : (flatJ js).set (k * 4) (jbNext j).i = flatJ js := by
    refine List.ext_getElem? fun q => ?_
    rw [List.getElem?_set]
    split
    · next e =>
      subst e
      rw [Nat.add_zero] at h0
      rw [if_pos (List.getElem?_eq_some_iff.1 h0).1, h0]
      rfl
    · rfl
  have e1 : (flatJ js).set (k * 4 + 1) (jbNext j).n = flatJ js := by
    refine List.ext_getElem? fun q => ?_
    rw [List.getElem?_set]
    split
    · next e =>
      subst e
      rw [if_pos (List.getElem?_eq_some_iff.1 h1).1, h1]
      rfl
    · rfl
  rw [e0, e1]
  rw [List.set_comm _ _ (by omega)]
  rfl
theorem sched_facts {S : SV} (h : schedOk S) (h0 : 0 < S.js.length) : (1 ≤ S.z ∧ S.z ≤ 1000 ∧ 0 ≤ S.n ∧ S.n ≤ S.b ∧ S.b ≤ S.z) ∧ ((1 ≤ (job S).i ∧ (job S).i ≤ 1000) ∧ (1 ≤ (job S).n ∧ (job S).n ≤ 10) ∧ (1 ≤ (job S).l ∧ (job S).l ≤ 20) ∧ 0 ≤ (job S).d ∧ (job S).d ≤ 20) :=
  ⟨poolOk_iff.1 h.1, jbIn_iff.1 (h.2.2.2.1.1 _ (List.mem_of_getElem? (job_at h0)))⟩
theorem take_yes {S : SV} (h : schedOk S) (h0 : 0 < S.js.length) (hf : failsB S = false) : takeB S.z S.n (burned S) (job S).n = true := by
  obtain ⟨⟨a1, a2, a3, a4, a5⟩, b1, ⟨b2, b3⟩, _⟩ := sched_facts h h0
  unfold failsB resB at hf
  unfold takeB burned
  have hp := h.1
  simp only [Bool.and_eq_true, decide_eq_true_eq]
  by_cases hs : 0 < short S
  · rw [decide_eq_true hs, hp] at hf
    simp only [Bool.true_and, Bool.not_eq_false', Bool.and_eq_true, decide_eq_true_eq, inB_iff] at hf
    rw [if_pos hs]
    refine ⟨⟨poolOk_iff.2 ?_, inB_iff.2 ?_⟩, ?_⟩
    · unfold short at *
      omega
    · omega
    · unfold short at *
      omega
  · rw [if_neg hs]
    refine ⟨⟨hp, inB_iff.2 ?_⟩, ?_⟩
    · omega
    · unfold short at hs
      omega
theorem ints_set' (xs : List Int) (k : Nat) (x : Int) : (ints xs).set k (.int .i64 x) = ints (xs.set k x) := by simp [ints, List.map_set]
theorem stepS_fail {S : SV} (h : failsB S = true) : stepS S = stepF S := by unfold stepS; rw [h]; rfl
theorem stepS_take {S : SV} (h : failsB S = false) : stepS S = stepT S := by unfold stepS; rw [h]; rfl
theorem erase_set (js : List Jb) (k : Nat) (j : Jb) : (js.set k j).eraseIdx k = js.eraseIdx k := by
  rw [List.eraseIdx_eq_take_drop_succ, List.eraseIdx_eq_take_drop_succ, List.take_set, List.drop_set]
  rw [if_pos (by omega), List.set_eq_of_length_le (by simp; omega)]
theorem lenErase {js : List Jb} {k : Nat} (h : k < js.length) : (js.eraseIdx k).length = js.length - 1 := by
  rw [List.length_eraseIdx]
  rw [if_pos h]
theorem grown_same {w w' W : World} {row : Option Nat} (h : w.grownBy W row) (h1 : w.os = w'.os) (h2 : w.tape = w'.tape) (h3 : w.output = w'.output) (h4 : w.heap = w'.heap) : w'.grownBy W row :=
  ⟨h.os.trans h1, h.tape.trans h2, h.output.trans h3, h4 ▸ h.size, fun i hi hn => (h.block i (h4 ▸ hi) hn).trans (by rw [h4])⟩
theorem wp_stored4 {P : Program} {c : Code} {Q : Exit → Act → World → Prop} {a : Act} {w : World} {base e size g n cp : Nat} {xs : List Value} (h : w.ownsRow base e size (.slice (some ⟨g, 0, none⟩) n cp) n xs) (j : Nat) (u0 u1 u2 u3 : Value) (w' : World)
    (h1 : w'.os = w.os) (h2 : w'.tape = w.tape) (h3 : w'.output = w.output) (h4 : w'.heap = w.heap)
    (hK : ∀ W, W.ownsRow base e size (.slice (some ⟨g, 0, none⟩) n cp) n ((((xs.set j u0).set (j + 1) u1).set (j + 2) u2).set (j + 3) u3) → w.grownBy W (Value.slice (some ⟨g, 0, none⟩) n cp).ownBlock → Code.wp P c Q a W) :
    Code.wp P c Q a ((((w'.setCell ⟨g, j, none⟩ u0).setCell ⟨g, j + 1, none⟩ u1).setCell ⟨g, j + 2, none⟩ u2).setCell ⟨g, j + 3, none⟩ u3) := by
  have h0 : w'.ownsRow base e size (.slice (some ⟨g, 0, none⟩) n cp) n xs := ⟨h.1, by rw [h4]; exact h.2⟩
  have r0 := h0.stored j u0
  have r1 := r0.1.stored (j + 1) u1
  have r2 := r1.1.stored (j + 2) u2
  have r3 := r2.1.stored (j + 3) u3
  refine hK _ r3.1 (grown_same (grown_trans (grown_trans (grown_trans r0.2 r1.2) r2.2) r3.2) h1 h2 h3 h4)
theorem wp_stored4d {P : Program} {c : Code} {Q : Exit → Act → World → Prop} {a : Act} {w : World} {base e size g n cp : Nat} {xs : List Value} (h : w.ownsRow base e size (.slice (some ⟨g, 0, none⟩) n cp) n xs) (j : Nat) (u0 u1 u2 u3 : Value) (w' : World)
    (h1 : w'.os = w.os) (h2 : w'.tape = w.tape) (h3 : w'.output = w.output) (h4 : w'.heap = w.heap)
    (hK : ∀ W, W.ownsRow base e size (.slice (some ⟨g, 0, none⟩) n cp) n ((((xs.set j u0).set (j + 1) u1).set (j + 2) u2).set (j + 3) u3) → w.grownBy W (Value.slice (some ⟨g, 0, none⟩) n cp).ownBlock → Code.wp P c Q a W) :
    Code.wp P c Q a ((((w'.setCell ⟨g, j, none⟩ u0).setCell ⟨g, j + 1, none⟩ u1).setCell ⟨g, j + 2, none⟩ u2).setCell ⟨g, j + 3, none⟩ u3).drew := by
  have h0 : w'.ownsRow base e size (.slice (some ⟨g, 0, none⟩) n cp) n xs := ⟨h.1, by rw [h4]; exact h.2⟩
  have r0 := h0.stored j u0
  have r1 := r0.1.stored (j + 1) u1
  have r2 := r1.1.stored (j + 2) u2
  have r3 := r2.1.stored (j + 3) u3
  have hg := grown_same (grown_trans (grown_trans (grown_trans r0.2 r1.2) r2.2) r3.2) h1 h2 h3 h4
  exact hK _ r3.1 ⟨hg.os, hg.tape, hg.output, hg.size, hg.block⟩
theorem wp_stored1 {P : Program} {c : Code} {Q : Exit → Act → World → Prop} {a : Act} {w : World} {base e size g n cp : Nat} {xs : List Value} (h : w.ownsRow base e size (.slice (some ⟨g, 0, none⟩) n cp) n xs) (j : Nat) (u0 : Value) (w' : World)
    (h1 : w'.os = w.os) (h2 : w'.tape = w.tape) (h3 : w'.output = w.output) (h4 : w'.heap = w.heap)
    (hK : ∀ W, W.ownsRow base e size (.slice (some ⟨g, 0, none⟩) n cp) n (xs.set j u0) → w.grownBy W (Value.slice (some ⟨g, 0, none⟩) n cp).ownBlock → Code.wp P c Q a W) :
    Code.wp P c Q a (w'.setCell ⟨g, j, none⟩ u0) := by
  have h0 : w'.ownsRow base e size (.slice (some ⟨g, 0, none⟩) n cp) n xs := ⟨h.1, by rw [h4]; exact h.2⟩
  have r0 := h0.stored j u0
  exact hK _ r0.1 (grown_same r0.2 h1 h2 h3 h4)
theorem two_one (a b : Int) : ∀ u ∈ [Value.int .i64 a, .int .i64 b], u.oneCell' = true := by
  intro u hu
  simp at hu
  rcases hu with rfl | rfl <;> rfl
def wrap_ok (x : Int) : Prop := -9223372036854775808 ≤ x ∧ x ≤ 9223372036854775807
theorem own_off {w : World} {base e size n o t : Nat} {v : Value} {xs : List Value} {cs : Array Value} (h : w.ownsRow base e size v n xs) (k : Blk w o t cs) (hne : e ≠ t) : ∀ q, v.ownBlock = some q → base ≤ q ∧ q < w.heap.size ∧ q ≠ o := by
  intro q hq
  refine ⟨(h.lt q hq).1, (h.lt q hq).2, ?_⟩
  rintro rfl
  rcases h.2 with ⟨hv, _⟩ | ⟨g, cap, cur, hv, _, hh, _⟩
  · rw [hv] at hq
    cases hq
  · rw [hv] at hq
    have e1 : g = q := Option.some.inj hq
    subst e1
    unfold Blk at k
    rw [hh] at k
    injection k with k
    injection k with _ k _
    exact hne k
theorem mem_row {o i : Nat} {row : Option Nat} (h : i ∈ o :: row.toList) : i = o ∨ row = some i := by
  cases row <;> simp at h
  · exact Or.inl h
  · rcases h with h | h
    · exact Or.inl h
    · exact Or.inr (by rw [h])
theorem not_mem_row {o q : Nat} {row : Option Nat} (h1 : q ≠ o) (h2 : ∀ p, row = some p → p ≠ q) : q ∉ o :: row.toList := fun h => by
  rcases mem_row h with e | e
  · exact h1 e
  · exact h2 q e rfl
theorem touch_app {w X w5 : World} {row : Option Nat} {o : Nat} (hb : Below w.heap.size w X) (hg : X.grownBy w5 row) (j : Nat) (u : Value) : Touch (o :: row.toList) w (w5.setCell ⟨o, j, none⟩ u) := by
  have h1 : Touch (o :: row.toList) w w5 := ⟨hg.os.trans hb.os, hg.tape.trans hb.tape, hg.output.trans hb.output, Nat.le_trans hb.size hg.size, fun i hi hn => (hg.block i (Nat.lt_of_lt_of_le hi hb.size) (fun e => hn (by rw [← e]; simp))).trans (hb.block i hi)⟩
  exact h1.set_ ⟨o, j, none⟩ u (by simp)
theorem own_setne {w : World} {base e size n : Nat} {v : Value} {xs : List Value} {p : Addr} {u : Value} (h : w.ownsRow base e size v n xs) (hne : ∀ q, v.ownBlock = some q → q ≠ p.block) : (w.setCell p u).ownsRow base e size v n xs := by
  refine ⟨h.1, ?_⟩
  rcases h.2 with ⟨hv, hn⟩ | ⟨g, cap, cur, hv, hg, hh, hr⟩
  · exact Or.inl ⟨hv, hn⟩
  · refine Or.inr ⟨g, cap, cur, hv, hg, ?_, hr⟩
    rw [Below.heap_setCell w p u g (hne g (by rw [hv]; rfl))]
    exact hh
theorem own_ne_obj {w : World} {base e size n o t : Nat} {v : Value} {xs : List Value} {cs : Array Value} (h : w.ownsRow base e size v n xs) (k : Blk w o t cs) (hne : e ≠ t) : ∀ q, v.ownBlock = some q → q ≠ o := fun q hq => (own_off h k hne q hq).2.2
end Go.Proofs.YtcdodfekclkonaaDoor
