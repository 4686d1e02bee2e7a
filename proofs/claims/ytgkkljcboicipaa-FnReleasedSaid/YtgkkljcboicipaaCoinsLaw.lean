/- Plain law: one changed value changes one coin. -/
import Derived.Test.YtgkkljcboicipaaJudgeLaw
namespace Go.Proofs.Ytgkkljcboicipaa
open Go.RowKit

/-- What a list of messages must be for the coins to be sums. -/
structure Runs (p : Int) (R N : Nat) (ro : Nat → Nat) (ms : List Int) : Prop where
  field : fieldOkB p = true
  round : ∀ j, j < N → ms[j * 3 + 1]? = some ((ro j : Nat) : Int)
  low : ∀ j, j < N → ro j < R
  val : ∀ j, j < N → ∃ v, ms[j * 3 + 2]? = some v ∧ 0 ≤ v ∧ v < p
theorem coins_range {p : Int} {R N : Nat} {ro : Nat → Nat} {ms : List Int} (h : Runs p R N ro ms) (j : Nat) (hj : j ≤ N) :
    ∀ i, i < R → 0 ≤ (coinsTo p R ms j).getD i 0 ∧ (coinsTo p R ms j).getD i 0 < p := by
  have hp := field_range h.field
  induction j with
  | zero =>
    intro i hi
    have : (coinsTo p R ms 0).getD i 0 = 0 := by
      unfold coinsTo
      rw [List.getD_eq_getElem?_getD, List.getElem?_replicate]
      split <;> rfl
    rw [this]
    omega
  | succ j ih =>
    intro i hi
    have ih := ih (by omega)
    obtain ⟨v, hv, hv0, hv1⟩ := h.val j (by omega)
    have hr := h.round j (by omega)
    have hlo := h.low j (by omega)
    have hin : inB ((ro j : Nat) : Int) 0 ((R : Int) - 1) = true := inB_iff.2 (by omega)
    rw [coinsTo_in hr hv hin, show ((ro j : Nat) : Int).toNat = ro j from rfl]
    have hA := ih (ro j) hlo
    rw [addI_yes h.field (inB_iff.2 (by omega)) (inB_iff.2 (by omega))]
    by_cases he : i = ro j
    · subst he
      rw [List.getD_eq_getElem?_getD, List.getElem?_set_self (by rw [coinsTo_length]; simpa using hlo)]
      exact ⟨Int.emod_nonneg _ (by omega), Int.emod_lt_of_pos _ (by omega)⟩
    · rw [List.getD_eq_getElem?_getD, List.getElem?_set_ne (by omega), ← List.getD_eq_getElem?_getD]
      exact ih i hi
theorem coins_step {p : Int} {R N : Nat} {ro : Nat → Nat} {ms : List Int} (h : Runs p R N ro ms) {j : Nat} (hj : j < N) {v : Int} (hv : ms[j * 3 + 2]? = some v) (hv0 : 0 ≤ v) (hv1 : v < p) (i : Nat) :
    (coinsTo p R ms (j + 1)).getD i 0 = if i = ro j then ((coinsTo p R ms j).getD i 0 + v) % p else (coinsTo p R ms j).getD i 0 := by
  have hr := h.round j hj
  have hlo := h.low j hj
  have hin : inB ((ro j : Nat) : Int) 0 ((R : Int) - 1) = true := inB_iff.2 (by omega)
  have hA := coins_range h j (by omega) (ro j) hlo
  rw [coinsTo_in hr hv hin, show ((ro j : Nat) : Int).toNat = ro j from rfl, addI_yes h.field (inB_iff.2 (by omega)) (inB_iff.2 (by omega))]
  by_cases he : i = ro j
  · rw [if_pos he]
    subst he
    rw [List.getD_eq_getElem?_getD, List.getElem?_set_self (by rw [coinsTo_length]; simpa using hlo)]
    rfl
  · rw [if_neg he, List.getD_eq_getElem?_getD, List.getElem?_set_ne (by omega), ← List.getD_eq_getElem?_getD]
theorem coins_same {p : Int} {R : Nat} {ms ms' : List Int} {k : Nat} (h : ∀ i, i < k * 3 → ms'.getD i 0 = ms.getD i 0) : ∀ j, j ≤ k → coinsTo p R ms' j = coinsTo p R ms j := by
  intro j
  induction j with
  | zero => intro _; rfl
  | succ j ih =>
    intro hj
    rw [coinsTo, coinsTo, ih (by omega), h _ (by omega), h _ (by omega)]
theorem coins_differ {p : Int} {R N : Nat} {ro : Nat → Nat} {ms : List Int} {k : Nat} {v u : Int} (h : Runs p R N ro ms) (hl : ms.length = N * 3) (hk : k < N) (hv : ms[k * 3 + 2]? = some v) (hu : u ≠ v) (hu0 : 0 ≤ u) (hu1 : u < p) :
    Runs p R N ro (ms.set (k * 3 + 2) u) ∧ ∀ i, i < R → ((coinsTo p R ms N).getD i 0 ≠ (coinsTo p R (ms.set (k * 3 + 2) u) N).getD i 0 ↔ i = ro k) := by
  have hfar : ∀ i, i ≠ k * 3 + 2 → (ms.set (k * 3 + 2) u)[i]? = ms[i]? := fun i hi => List.getElem?_set_ne (by omega)
  have hat : (ms.set (k * 3 + 2) u)[k * 3 + 2]? = some u := List.getElem?_set_self (by omega)
  have h' : Runs p R N ro (ms.set (k * 3 + 2) u) := by
    refine ⟨h.field, fun j hj => ?_, h.low, fun j hj => ?_⟩
    · rw [hfar _ (by omega)]
      exact h.round j hj
    · by_cases he : j = k
      · subst he
        exact ⟨u, hat, hu0, hu1⟩
      · obtain ⟨x, hx, hx0, hx1⟩ := h.val j hj
        exact ⟨x, by rw [hfar _ (by omega)]; exact hx, hx0, hx1⟩
  refine ⟨h', ?_⟩
  obtain ⟨v', hv', hv0, hv1⟩ := h.val k hk
  have hvv : v' = v := by rw [hv] at hv'; injection hv' with hv'; exact hv'.symm
  subst hvv
  have hmain : ∀ d, k + 1 + d ≤ N → ∀ i, i < R → ((coinsTo p R ms (k + 1 + d)).getD i 0 ≠ (coinsTo p R (ms.set (k * 3 + 2) u) (k + 1 + d)).getD i 0 ↔ i = ro k) := by
    intro d
    induction d with
    | zero =>
      intro hd i hi
      have e : coinsTo p R (ms.set (k * 3 + 2) u) k = coinsTo p R ms k := coins_same (k := k) (fun q hq => by rw [List.getD_eq_getElem?_getD, hfar _ (by omega), ← List.getD_eq_getElem?_getD]) k (Nat.le_refl _)
      rw [Nat.add_zero, coins_step h hk hv hv0 hv1 i, coins_step h' hk hat hu0 hu1 i, e]
      have hr := coins_range h k (by omega) i hi
      by_cases he : i = ro k
      · rw [if_pos he, if_pos he]
        refine ⟨fun _ => he, fun _ => ?_⟩
        have := add_inj (a := v') (b := u) (v := (coinsTo p R ms k).getD i 0) (p := p) hv0 hv1 hu0 hu1 hr.1 hr.2 (fun e => hu e.symm)
        rw [Int.add_comm v', Int.add_comm u] at this
        exact this
      · rw [if_neg he, if_neg he]
        simp [he]
    | succ d ih =>
      intro hd i hi
      have ih := ih (by omega) i hi
      have hj : k + 1 + d < N := by omega
      obtain ⟨x, hx, hx0, hx1⟩ := h.val _ hj
      have hx' : (ms.set (k * 3 + 2) u)[(k + 1 + d) * 3 + 2]? = some x := by rw [hfar _ (by omega)]; exact hx
      have e1 := coins_step h hj hx hx0 hx1 i
      have e2 := coins_step h' hj hx' hx0 hx1 i
      rw [show k + 1 + (d + 1) = k + 1 + d + 1 by omega, e1, e2]
      have hr := coins_range h (k + 1 + d) (by omega) i hi
      have hr' := coins_range h' (k + 1 + d) (by omega) i hi
      by_cases he : i = ro (k + 1 + d)
      · rw [if_pos he, if_pos he, ← ih]
        refine ⟨fun hne heq => hne (by rw [heq]), fun hne => ?_⟩
        exact add_inj hr.1 hr.2 hr'.1 hr'.2 hx0 hx1 hne
      · rw [if_neg he, if_neg he]
        exact ih
  have := hmain (N - (k + 1)) (by omega)
  rw [show k + 1 + (N - (k + 1)) = N by omega] at this
  exact this
theorem runs_vals {p : Int} {R N : Nat} {ro : Nat → Nat} {ms : List Int} (h : Runs p R N ro ms) : valsB p ms N = true := by
  unfold valsB
  rw [List.all_eq_true]
  intro i hi
  obtain ⟨v, hv, h0, h1⟩ := h.val i (List.mem_range.1 hi)
  rw [getD_some hv]
  exact inB_iff.2 (by omega)
theorem runs_coins {p : Int} {R N : Nat} {ro : Nat → Nat} {ms : List Int} (h : Runs p R N ro ms) (hR : R ≤ 12) : coinsL p R ms N = coinsTo p R ms N :=
  coinsL_yes h.field (inB_iff.2 (by omega)) (runs_vals h)
theorem runs_hon {p : Int} {xs hs : List Int} {R N L : Nat} (hf : fieldOkB p = true) (hws : wordsB xs = true) (hL : 0 < L) (hR : R ≤ 12) (hN : R * L = N)
    (hat : ∀ q, q < N → ∃ x, xs[q % L]? = some x ∧ hs[q * 3]? = some ((q % L : Nat) : Int) ∧ hs[q * 3 + 1]? = some ((q / L : Nat) : Int) ∧ hs[q * 3 + 2]? = some (belowI x ((q / L : Nat) : Int) p)) :
    Runs p R N (fun q => q / L) hs := by
  have hp := field_range hf
  have hlow : ∀ q, q < N → q / L < R := fun q hq => by rw [Nat.div_lt_iff_lt_mul hL, hN]; exact hq
  refine ⟨hf, fun q hq => ?_, hlow, fun q hq => ?_⟩
  · obtain ⟨x, _, _, h1, _⟩ := hat q hq
    exact h1
  · obtain ⟨x, hx, _, _, h2⟩ := hat q hq
    have hq' := hlow q hq
    have := belowI_lt (word_at hws hx) hp.1 hp.2 (show q / L ≤ 999999 by omega)
    exact ⟨_, h2, this.1, this.2⟩
end Go.Proofs.Ytgkkljcboicipaa
