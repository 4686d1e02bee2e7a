/- An act's text and its words: the plain law of ParseAct. -/
import Derived.Test.YtceboblhpglofaaDoorNumP
import Derived.Test.YtceboblhpglofaaDoorWordsP
import Derived.Test.YtceboblhpglofaaDoorFmtAct
namespace Go.Proofs.YtceboblhpglofaaDoor
open Go.RowKit

def wAdd : List UInt8 := [97, 100, 100]
def wStep : List UInt8 := [115, 116, 101, 112]
def wRes : List UInt8 := [114, 101, 115, 101, 114, 118, 101]
def wCrash : List UInt8 := [99, 114, 97, 115, 104]
/-- The words of an act's text. -/
def actWs (k i d n : Int) : List (List UInt8) := if k = 1 then [wAdd, Lib.itoa i, Lib.itoa d, Lib.itoa n] else if k = 2 then [wStep, Lib.itoa n] else if k = 3 then [wRes, Lib.itoa n] else [wCrash]
theorem actWs_ne (k i d n : Int) : actWs k i d n ≠ [] := by
  unfold actWs
  split
  · simp
  · split
    · simp
    · split <;> simp
def kdOf (x : List UInt8) : Int := if x = wCrash then 4 else if x = wRes then 3 else if x = wStep then 2 else if x = wAdd then 1 else 0
def nfOf (x : List UInt8) : Nat := if x = wAdd then 3 else 1
def gN (ws : List (List UInt8)) (j : Nat) : Int := puN (ws.getD j [])
def aI (x : List UInt8) (ws : List (List UInt8)) : Int := if x = wAdd then gN ws 0 else 0
def aD (x : List UInt8) (ws : List (List UInt8)) : Int := if x = wAdd then gN ws 1 else 0
def aN (x : List UInt8) (ws : List (List UInt8)) : Int := if x = wAdd then gN ws 2 else gN ws 0
/-- Whether the words are those of an act. -/
def paB : List (List UInt8) → Bool
  | [] => false
  | x :: ws => ws.all puB && decide (ws.length ≤ nfOf x) && actOkB (kdOf x) (aI x ws) (aD x ws) (aN x ws) && decide (actTxt (kdOf x) (aI x ws) (aD x ws) (aN x ws) = Lib.join (x :: ws) [32])
theorem puN_nil : puN [] = 0 := by
  unfold puN
  split
  · simp [valF]
  · rfl
theorem itoa_wordB {n : Int} (h : 0 ≤ n) : wordB (Lib.itoa n) := by
  obtain ⟨m, rfl⟩ : ∃ m : Nat, n = m := ⟨n.toNat, by omega⟩
  rw [Lib.itoa_nonneg]
  refine ⟨dec_ne m, fun b hb e => ?_⟩
  have := dec_digits m b hb
  subst e
  simp at this
theorem actWs_txt {k i d n : Int} (h : actOkB k i d n = true) : actTxt k i d n = Lib.join (actWs k i d n) [32] := by
  rcases act_kinds h with ⟨rfl, h1, h2, h3⟩ | ⟨rfl, h3⟩ | ⟨rfl, h3⟩ | rfl
  · rw [actTxt_add h]
    simp [actWs, Lib.join_cons, Lib.joinTail, wAdd]
  · rw [actTxt_step h]
    simp [actWs, Lib.join_cons, Lib.joinTail, wStep]
  · rw [actTxt_res h]
    simp [actWs, Lib.join_cons, Lib.joinTail, wRes]
  · rw [actTxt_crash h]
    simp [actWs, Lib.join_cons, Lib.joinTail, wCrash]
theorem actWs_words {k i d n : Int} (h : actOkB k i d n = true) : ∀ x ∈ actWs k i d n, wordB x := by
  rcases act_kinds h with ⟨rfl, h1, h2, h3⟩ | ⟨rfl, h3⟩ | ⟨rfl, h3⟩ | rfl
  · have e1 := itoa_wordB h1.1
    have e2 := itoa_wordB h2.1
    have e3 := itoa_wordB h3.1
    have e4 : wordB wAdd := ⟨by decide, by decide⟩
    intro x hx
    simp [actWs] at hx
    rcases hx with rfl | rfl | rfl | rfl <;> assumption
  · have e3 := itoa_wordB h3.1
    have e4 : wordB wStep := ⟨by decide, by decide⟩
    intro x hx
    simp [actWs] at hx
    rcases hx with rfl | rfl <;> assumption
  · have e3 := itoa_wordB h3.1
    have e4 : wordB wRes := ⟨by decide, by decide⟩
    intro x hx
    simp [actWs] at hx
    rcases hx with rfl | rfl <;> assumption
  · have e4 : wordB wCrash := ⟨by decide, by decide⟩
    intro x hx
    simp [actWs] at hx
    subst hx
    exact e4
theorem act_zero2 {i d n : Int} (h : actOkB 2 i d n = true) : i = 0 ∧ d = 0 := by
  rw [actOkB_2] at h
  simp at h
  exact h.1
theorem act_zero3 {i d n : Int} (h : actOkB 3 i d n = true) : i = 0 ∧ d = 0 := by
  rw [actOkB_3] at h
  simp at h
  exact h.1
theorem act_zero4 {i d n : Int} (h : actOkB 4 i d n = true) : i = 0 ∧ d = 0 ∧ n = 0 := by
  rw [actOkB_4] at h
  simp at h
  omega
/-- An act with these words is the one that is read from them. -/
theorem act_read {k i d n : Int} {x : List UInt8} {ws : List (List UInt8)} (h : actOkB k i d n = true) (hw : ∀ y ∈ x :: ws, wordB y) (ht : actTxt k i d n = Lib.join (x :: ws) [32]) :
    paB (x :: ws) = true ∧ kdOf x = k ∧ aI x ws = i ∧ aD x ws = d ∧ aN x ws = n := by
  have hA : actWs k i d n = x :: ws := join_inj (actWs_words h) hw (actWs_ne _ _ _ _) (by simp) ((actWs_txt h).symm.trans ht)
  have hmain : ws.all puB = true ∧ ws.length ≤ nfOf x ∧ kdOf x = k ∧ aI x ws = i ∧ aD x ws = d ∧ aN x ws = n := by
    clear hw ht
    rcases act_kinds h with ⟨rfl, h1, h2, h3⟩ | ⟨rfl, h3⟩ | ⟨rfl, h3⟩ | rfl
    · have hA' : [wAdd, Lib.itoa i, Lib.itoa d, Lib.itoa n] = x :: ws := hA
      injection hA' with e1 e2
      subst e1 e2
      have p1 := puB_of (l := Lib.itoa i) h1.1 (by omega) rfl
      have p2 := puB_of (l := Lib.itoa d) h2.1 (by omega) rfl
      have p3 := puB_of (l := Lib.itoa n) h3.1 (by omega) rfl
      refine ⟨by simp [p1.1, p2.1, p3.1], by simp [nfOf], by decide, ?_, ?_, ?_⟩
      · show (if wAdd = wAdd then puN (Lib.itoa i) else 0) = i
        rw [if_pos rfl, p1.2]
      · show (if wAdd = wAdd then puN (Lib.itoa d) else 0) = d
        rw [if_pos rfl, p2.2]
      · show (if wAdd = wAdd then puN (Lib.itoa n) else _) = n
        rw [if_pos rfl, p3.2]
    · have hA' : [wStep, Lib.itoa n] = x :: ws := hA
      injection hA' with e1 e2
      subst e1 e2
      obtain ⟨rfl, rfl⟩ := act_zero2 h
      have p3 := puB_of (l := Lib.itoa n) h3.1 (by omega) rfl
      have hne : ¬ wStep = wAdd := by decide
      refine ⟨by simp [p3.1], by simp [nfOf, hne], by decide, ?_, ?_, ?_⟩
      · unfold aI; rw [if_neg hne]
      · unfold aD; rw [if_neg hne]
      · unfold aN; rw [if_neg hne]
        exact p3.2
    · have hA' : [wRes, Lib.itoa n] = x :: ws := hA
      injection hA' with e1 e2
      subst e1 e2
      obtain ⟨rfl, rfl⟩ := act_zero3 h
      have p3 := puB_of (l := Lib.itoa n) h3.1 (by omega) rfl
      have hne : ¬ wRes = wAdd := by decide
      refine ⟨by simp [p3.1], by simp [nfOf, hne], by decide, ?_, ?_, ?_⟩
      · unfold aI; rw [if_neg hne]
      · unfold aD; rw [if_neg hne]
      · unfold aN; rw [if_neg hne]
        exact p3.2
    · have hA' : [wCrash] = x :: ws := hA
      injection hA' with e1 e2
      subst e1 e2
      obtain ⟨rfl, rfl, rfl⟩ := act_zero4 h
      have hne : ¬ wCrash = wAdd := by decide
      refine ⟨rfl, by simp [nfOf], by decide, ?_, ?_, ?_⟩
      · unfold aI; rw [if_neg hne]
      · unfold aD; rw [if_neg hne]
      · unfold aN; rw [if_neg hne]
        exact puN_nil
  obtain ⟨m1, m2, rfl, rfl, rfl, rfl⟩ := hmain
  refine ⟨?_, rfl, rfl, rfl, rfl⟩
  simp only [paB, m1, m2, h, ht, decide_true, Bool.and_self]
theorem paB_cons {x : List UInt8} {ws : List (List UInt8)} (h : paB (x :: ws) = true) : ws.all puB = true ∧ ws.length ≤ nfOf x ∧ actOkB (kdOf x) (aI x ws) (aD x ws) (aN x ws) = true ∧ actTxt (kdOf x) (aI x ws) (aD x ws) (aN x ws) = Lib.join (x :: ws) [32] := by
  simp only [paB, Bool.and_eq_true, decide_eq_true_eq] at h
  exact ⟨h.1.1.1, h.1.1.2, h.1.2, h.2⟩
/-- The value that is read from the words. -/
def paV : List (List UInt8) → Value
  | [] => .agg #[.int .i64 0, .int .i64 0, .int .i64 0, .int .i64 0]
  | x :: ws => if paB (x :: ws) then .agg #[.int .i64 (kdOf x), .int .i64 (aI x ws), .int .i64 (aD x ws), .int .i64 (aN x ws)] else .agg #[.int .i64 0, .int .i64 0, .int .i64 0, .int .i64 0]
theorem paV_no {L : List (List UInt8)} (h : paB L = false) : paV L = .agg #[.int .i64 0, .int .i64 0, .int .i64 0, .int .i64 0] := by
  cases L with
  | nil => rfl
  | cons x ws => simp only [paV]; rw [if_neg (by rw [h]; decide)]
theorem paV_of {k i d n : Int} {L : List (List UInt8)} (h : actOkB k i d n = true) (hw : ∀ y ∈ L, wordB y) (hne : L ≠ []) (ht : actTxt k i d n = Lib.join L [32]) : paB L = true ∧ paV L = .agg #[.int .i64 k, .int .i64 i, .int .i64 d, .int .i64 n] := by
  cases L with
  | nil => exact absurd rfl hne
  | cons x ws =>
    obtain ⟨h1, rfl, rfl, rfl, rfl⟩ := act_read h hw ht
    refine ⟨h1, ?_⟩
    simp only [paV]
    rw [if_pos h1]
/-- The words of an act's text are its own. -/
theorem act_flds {k i d n : Int} (h : actOkB k i d n = true) : flds (actTxt k i d n) = actWs k i d n := by
  rw [actWs_txt h]
  have hw := actWs_words h
  cases hL : actWs k i d n with
  | nil => exact absurd hL (actWs_ne _ _ _ _)
  | cons a u =>
    rw [hL] at hw
    exact flds_join a u (hw a (by simp)) (fun x hx => hw x (by simp [hx]))
theorem act_back {k i d n : Int} (h : actOkB k i d n = true) : paB (flds (actTxt k i d n)) = true ∧ paV (flds (actTxt k i d n)) = .agg #[.int .i64 k, .int .i64 i, .int .i64 d, .int .i64 n] := by
  rw [act_flds h]
  exact paV_of h (actWs_words h) (actWs_ne _ _ _ _) (actWs_txt h)
/-- The acts that the reference tries. -/
def cK (j : Nat) : Int := (j : Int) + 1
def cI (ws : List (List UInt8)) (j : Nat) : Int := if j = 0 then gN ws 0 else 0
def cD (ws : List (List UInt8)) (j : Nat) : Int := if j = 0 then gN ws 1 else 0
def cN (ws : List (List UInt8)) (j : Nat) : Int := if j = 0 then gN ws 2 else if j = 3 then 0 else gN ws 0
theorem cand_none {x : List UInt8} {ws : List (List UInt8)} (h : ∀ j, j < 4 → ¬ (actOkB (cK j) (cI ws j) (cD ws j) (cN ws j) = true ∧ actTxt (cK j) (cI ws j) (cD ws j) (cN ws j) = Lib.join (x :: ws) [32])) : paB (x :: ws) = false := by
  cases hb : paB (x :: ws) with
  | false => rfl
  | true =>
    exfalso
    obtain ⟨m1, m2, m3, m4⟩ := paB_cons hb
    by_cases h1 : x = wAdd
    · subst h1
      refine h 0 (by omega) ⟨?_, ?_⟩
      · simpa [kdOf, aI, aD, aN, cK, cI, cD, cN, wAdd, wStep, wRes, wCrash] using m3
      · simpa [kdOf, aI, aD, aN, cK, cI, cD, cN, wAdd, wStep, wRes, wCrash] using m4
    have eI : aI x ws = 0 := by unfold aI; rw [if_neg h1]
    have eD : aD x ws = 0 := by unfold aD; rw [if_neg h1]
    have eN : aN x ws = gN ws 0 := by unfold aN; rw [if_neg h1]
    rw [eI, eD, eN] at m3 m4
    rcases act_kinds m3 with ⟨e, -⟩ | ⟨e, -⟩ | ⟨e, -⟩ | e
    · exfalso
      unfold kdOf at e
      split at e
      · simp at e
      · split at e
        · simp at e
        · split at e
          · simp at e
          · simp at e
    · rw [e] at m3 m4
      exact h 1 (by omega) ⟨by simpa [cK, cI, cD, cN] using m3, by simpa [cK, cI, cD, cN] using m4⟩
    · rw [e] at m3 m4
      exact h 2 (by omega) ⟨by simpa [cK, cI, cD, cN] using m3, by simpa [cK, cI, cD, cN] using m4⟩
    · rw [e] at m3 m4
      have e0 := (act_zero4 m3).2.2
      rw [e0] at m3 m4
      exact h 3 (by omega) ⟨by simpa [cK, cI, cD, cN] using m3, by simpa [cK, cI, cD, cN] using m4⟩
end Go.Proofs.YtceboblhpglofaaDoor
