/- The text of acts: what a script of it answers. No program is named here. -/
import Derived.Test.YtjknadnknainbaaGreatDoorScriptP
import Derived.Test.YtjknadnknainbaaGreatDoorDrawActs
namespace Go.Proofs.YtjknadnknainbaaGreatDoor
open Go.RowKit

def actAt (xs : List Int) (j : Nat) : List UInt8 := actTxt (xs.getD (j * 4) 0) (xs.getD (j * 4 + 1) 0) (xs.getD (j * 4 + 2) 0) (xs.getD (j * 4 + 3) 0)
def textTo (xs : List Int) : Nat → List UInt8
  | 0 => []
  | n + 1 => textTo xs n ++ actAt xs n ++ [10]
def linesA (xs : List Int) : Nat → List (List UInt8)
  | 0 => []
  | n + 1 => linesA xs n ++ [actAt xs n]
theorem lns_pre : ∀ (a r : List UInt8), (∀ b ∈ a, b ≠ 10) → lns (a ++ 10 :: r) = a :: lns r
  | [], r, _ => lns_nl r
  | b :: a, r, h => by
    rw [List.cons_append, lns_other (h b (by simp)) (lns_pre a r fun c hc => h c (by simp [hc]))]
theorem act_no {k i d n : Int} (h : actOkB k i d n = true) : ∀ b ∈ actTxt k i d n, b ≠ 10 := fun b hb e => by
  have := (act_len h).2 b hb
  subst e
  revert this
  decide
theorem lns_text {xs : List Int} : ∀ (n : Nat) (r : List UInt8), actsOk xs n → lns (textTo xs n ++ r) = linesA xs n ++ lns r
  | 0, r, _ => rfl
  | n + 1, r, h => by
    have h1 := (h n (by omega)).1
    rw [textTo, List.append_assoc, List.append_assoc, lns_text n _ (fun j hj => h j (by omega)), linesA, List.append_assoc]
    congr 1
    show lns (actAt xs n ++ 10 :: r) = actAt xs n :: lns r
    exact lns_pre _ _ (act_no h1)
theorem text_len {xs : List Int} : ∀ (n : Nat), actsOk xs n → (textTo xs n).length ≤ n * 101
  | 0, _ => Nat.le_refl _
  | n + 1, h => by
    have ih := text_len n fun j hj => h j (by omega)
    have h1 := (act_len (h n (by omega)).1).1
    rw [textTo, List.length_append, List.length_append, List.length_singleton]
    show (textTo xs n).length + (actTxt _ _ _ _).length + 1 ≤ _
    omega
theorem act_line {k i d n : Int} (h : actOkB k i d n = true) : pActB (actTxt k i d n) = true ∧ skipB (actTxt k i d n) = false ∧ actI (actTxt k i d n) = [k, i, d, n] := by
  obtain ⟨h1, h2⟩ := pAct_back h
  refine ⟨h1, ?_, ?_⟩
  · cases hs : skipB (actTxt k i d n)
    · rfl
    · rw [skip_no hs] at h1
      cases h1
  · obtain ⟨k', i', d', n', _, e, hv⟩ := actI_is h1
    have h3 := h2.symm.trans hv
    injection h3 with h3
    simp at h3
    obtain ⟨rfl, rfl, rfl, rfl⟩ := h3
    exact e
theorem scrB_app (a b : List (List UInt8)) : scrB (a ++ b) = (scrB a && scrB b) := by
  unfold scrB
  rw [List.all_append]
theorem scrX_app (a b : List (List UInt8)) : scrX (a ++ b) = scrX a ++ scrX b := by
  unfold scrX
  rw [List.flatMap_append]
theorem scrN_app (a b : List (List UInt8)) : scrN (a ++ b) = scrN a + scrN b := by
  unfold scrN
  rw [List.filter_append, List.length_append]
theorem take4 {xs : List Int} {n : Nat} (h : (n + 1) * 4 ≤ xs.length) : xs.take ((n + 1) * 4) = xs.take (n * 4) ++ [xs.getD (n * 4) 0, xs.getD (n * 4 + 1) 0, xs.getD (n * 4 + 2) 0, xs.getD (n * 4 + 3) 0] := by
  have g : ∀ i, i < xs.length → xs[i]? = some (xs.getD i 0) := fun i hi => by rw [List.getD_eq_getElem?_getD, List.getElem?_eq_getElem hi]; rfl
  rw [show (n + 1) * 4 = n * 4 + 1 + 1 + 1 + 1 by omega, List.take_add_one, List.take_add_one, List.take_add_one, List.take_add_one, g _ (by omega), g _ (by omega), g _ (by omega), g _ (by omega)]
  simp
theorem lines_told {xs : List Int} : ∀ (n : Nat), actsOk xs n → n * 4 ≤ xs.length → scrB (linesA xs n) = true ∧ scrX (linesA xs n) = xs.take (n * 4) ∧ scrN (linesA xs n) = n
  | 0, _, _ => ⟨rfl, by simp [linesA, scrX], rfl⟩
  | n + 1, h, hl => by
    obtain ⟨h1, h2, h3⟩ := lines_told n (fun j hj => h j (by omega)) (by omega)
    obtain ⟨g1, g2, g3⟩ := act_line (h n (by omega)).1
    rw [linesA, scrB_app, scrX_app, scrN_app, h1, h2, h3, take4 hl]
    have e : actAt xs n = actTxt (xs.getD (n * 4) 0) (xs.getD (n * 4 + 1) 0) (xs.getD (n * 4 + 2) 0) (xs.getD (n * 4 + 3) 0) := rfl
    rw [← e] at g1 g2 g3
    refine ⟨?_, ?_, ?_⟩
    · unfold scrB
      simp [g1]
    · unfold scrX
      simp [g2, g3]
    · unfold scrN
      simp [g2]
theorem skip_nil : skipB [] = true := by
  unfold skipB sfB
  rw [decide_eq_true (p := flds [] = []) (by rfl)]
  simp [flds, spl]
def wNo : List UInt8 := [110, 111, 116, 104, 105, 110, 103]
theorem paB_no : paB [wNo] = false := by
  cases h : paB [wNo]
  · rfl
  · have h2 := (paB_cons h).2.2.1
    rw [show kdOf wNo = 0 by decide, actOkB_other _ _ _ (by decide) (by decide) (by decide) (by decide)] at h2
    cases h2
theorem no_line : (skipB wNo || pActB wNo) = false := by
  have hf : flds wNo = [wNo] := by decide
  unfold skipB pActB
  rw [hf, paB_no]
  simp
/-- The script of a drawn row of acts is run; with a word behind it, it is not. -/
theorem script_told {z : Int} {xs : List Int} {n : Nat} (hz : 10 ≤ z ∧ z ≤ 99) (hn : n ≤ 15) (hl : xs.length = n * 4) (h : actsOk xs n) :
    scOk z (textTo xs n) = true ∧ scRes z (textTo xs n) = scTxt z xs n ∧ scOk z (textTo xs n ++ wNo) = false := by
  have ht := text_len n h
  obtain ⟨h1, h2, h3⟩ := lines_told n h (by omega)
  have e := lns_text n [] h
  rw [List.append_nil, show lns [] = [[]] from rfl] at e
  have e1 : scrB (linesA xs n ++ [[]]) = true := by
    rw [scrB_app, h1]
    unfold scrB
    simp [skip_nil]
  have e2 : scrX (linesA xs n ++ [[]]) = xs := by
    rw [scrX_app, h2, ← hl, List.take_length]
    unfold scrX
    simp [skip_nil]
  have e3 : scrN (linesA xs n ++ [[]]) = n := by
    rw [scrN_app, h3]
    unfold scrN
    simp [skip_nil]
  have hok : scOk z (textTo xs n) = true := sc_yes (by omega) (by rw [e]; exact e1) (inB_iff.2 ⟨by omega, by omega⟩) (by rw [e, e3]; omega)
  refine ⟨hok, ?_, ?_⟩
  · unfold scRes
    rw [hok, if_pos rfl, e, e2, e3]
  · refine sc_bad ?_
    rw [lns_text n wNo h, show lns wNo = [wNo] by decide, scrB_app]
    have : scrB [wNo] = false := by
      unfold scrB
      simp [no_line]
    rw [this, Bool.and_false]
end Go.Proofs.YtjknadnknainbaaGreatDoor
