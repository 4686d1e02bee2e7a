/- FormatAct, in the program and in the reference. -/
import Derived.Test.YtcdodfekclkonaaDoorDec
import Derived.Test.YtcdodfekclkonaaDoorActOk
import Derived.Deep.RegionHeld3
namespace Go.Proofs.YtcdodfekclkonaaDoor
open Go.RowKit

def actTxt (k i d n : Int) : List UInt8 :=
  if actOkB k i d n = true then
    if k = 1 then [97, 100, 100, 32] ++ Lib.itoa i ++ [32] ++ Lib.itoa d ++ [32] ++ Lib.itoa n
    else if k = 2 then [115, 116, 101, 112, 32] ++ Lib.itoa n
    else if k = 3 then [114, 101, 115, 101, 114, 118, 101, 32] ++ Lib.itoa n
    else [99, 114, 97, 115, 104]
  else []
theorem actTxt_no {k i d n : Int} (h : actOkB k i d n = false) : actTxt k i d n = [] := by
  unfold actTxt
  rw [h]
  rfl
theorem actTxt_add {i d n : Int} (h : actOkB 1 i d n = true) : actTxt 1 i d n = [97, 100, 100, 32] ++ Lib.itoa i ++ [32] ++ Lib.itoa d ++ [32] ++ Lib.itoa n := by
  unfold actTxt
  rw [if_pos h]
  rfl
theorem actTxt_step {i d n : Int} (h : actOkB 2 i d n = true) : actTxt 2 i d n = [115, 116, 101, 112, 32] ++ Lib.itoa n := by
  unfold actTxt
  rw [if_pos h]
  rfl
theorem actTxt_res {i d n : Int} (h : actOkB 3 i d n = true) : actTxt 3 i d n = [114, 101, 115, 101, 114, 118, 101, 32] ++ Lib.itoa n := by
  unfold actTxt
  rw [if_pos h]
  rfl
theorem actTxt_crash {i d n : Int} (h : actOkB 4 i d n = true) : actTxt 4 i d n = [99, 114, 97, 115, 104] := by
  unfold actTxt
  rw [if_pos h]
  rfl
theorem iFormatIntT (n : Int) (w : World) (h0 : 0 ≤ n) (h1 : n ≤ 1000) (ht : Tab w) :
    Calls Tryd.prog 24 #[.int .i64 n] w fun e w' => e = .returned (.string ⟨(Lib.itoa n).toArray⟩) ∧ Below w.heap.size w w' := iFormatInt n w (by omega) (by omega) ht
theorem Tab.later {W : World} {x : Later W} (h : Tab W) : Tab x.val := h.step x.below h
theorem itoa_le {n : Int} (h : 0 ≤ n ∧ n ≤ 1000) : (Lib.itoa n).length ≤ 21 := Lib.itoa_length_le n (by omega) (by omega)
theorem act_kinds {k i d n : Int} (h : actOkB k i d n = true) : k = 1 ∧ (0 ≤ i ∧ i ≤ 1000) ∧ (0 ≤ d ∧ d ≤ 1000) ∧ (0 ≤ n ∧ n ≤ 1000) ∨ k = 2 ∧ (0 ≤ n ∧ n ≤ 1000) ∨ k = 3 ∧ (0 ≤ n ∧ n ≤ 1000) ∨ k = 4 := by
  by_cases h1 : k = 1
  · subst h1
    rw [actOkB_1] at h
    simp only [Bool.and_eq_true, inB_iff] at h
    exact .inl ⟨rfl, h.1.1, h.1.2, h.2⟩
  by_cases h2 : k = 2
  · subst h2
    rw [actOkB_2] at h
    simp only [Bool.and_eq_true, inB_iff] at h
    exact .inr (.inl ⟨rfl, by omega⟩)
  by_cases h3 : k = 3
  · subst h3
    rw [actOkB_3] at h
    simp only [Bool.and_eq_true, inB_iff] at h
    exact .inr (.inr (.inl ⟨rfl, by omega⟩))
  by_cases h4 : k = 4
  · exact .inr (.inr (.inr h4))
  · rw [actOkB_other i d n h1 h2 h3 h4] at h
    cases h
end Go.Proofs.YtcdodfekclkonaaDoor
