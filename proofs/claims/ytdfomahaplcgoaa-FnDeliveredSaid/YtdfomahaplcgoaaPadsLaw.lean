/- Sealing twice; the counts of pads; the tag is a word. No program is named here. -/
import Derived.Test.YtdfomahaplcgoaaPlain
import Derived.Test.YtdfomahaplcgoaaMixLaw
namespace Go.Proofs.Ytdfomahaplcgoaa

theorem wordsB_get {xs : List Int} (h : wordsB xs = true) {i : Nat} {x : Int} (hi : xs[i]? = some x) : isWordB x = true := by
  unfold wordsB at h
  rw [List.all_eq_true] at h
  exact h x (List.mem_of_getElem? hi)
theorem wordsB_of_get {xs : List Int} (h : ∀ (i : Nat) (x : Int), xs[i]? = some x → isWordB x = true) : wordsB xs = true := by
  unfold wordsB
  rw [List.all_eq_true]
  intro x hx
  obtain ⟨i, hi⟩ := List.getElem?_of_mem hx
  exact h i x hi
theorem sealTo_get {k n : Int} {xs : List Int} {j i : Nat} {x : Int} (h : xs[i]? = some x) (hi : i < j) : (sealTo k n xs j)[i]? = some (bits .xor .i64 x (keyedI k n i)) := by
  induction j with
  | zero => omega
  | succ j ih =>
    show (sealTo k n xs j ++ [bits .xor .i64 (xs.getD j 0) (keyedI k n j)])[i]? = _
    by_cases hin : i < j
    · rw [List.getElem?_append_left (by rw [sealTo_length]; omega)]
      exact ih hin
    · obtain rfl : i = j := by omega
      rw [List.getElem?_append_right (by rw [sealTo_length]; omega), sealTo_length, List.getD_eq_getElem?_getD, h]
      simp
theorem xor_twice {a b : Int} (ha : isWordB a = true) (hb : isWordB b = true) : bits .xor .i64 (bits .xor .i64 a b) b = a := by
  have h1 := xor_word ha hb
  have h2 := xor_word h1.2 hb
  rw [h2.1, h1.1]
  have h3 := isWordB_iff.1 ha
  have e : ((a.toNat ^^^ b.toNat : Nat) : Int).toNat = a.toNat ^^^ b.toNat := by omega
  rw [e, Nat.xor_assoc, Nat.xor_self, Nat.xor_zero]
  omega
theorem sealB_small {k n : Int} {xs : List Int} (hk : isWordB k = true) (hn0 : 0 ≤ n) (hn1 : n ≤ 100000) (hw : wordsB xs = true) (hl : xs.length ≤ 40) : sealB k n xs = true := by
  unfold sealB
  rw [hk, hw, inB_iff.2 ⟨hn0, hn1⟩]
  have : ((xs.length : Nat) : Int) ≤ 40 := by omega
  simp [this]
theorem sealL_yes {k n : Int} {xs : List Int} (h : sealB k n xs = true) : sealL k n xs = sealTo k n xs xs.length := by unfold sealL; rw [h]; rfl
theorem sealL_len {k n : Int} {xs : List Int} (h : sealB k n xs = true) : (sealL k n xs).length = xs.length := by rw [sealL_yes h, sealTo_length]
theorem sealL_words {k n : Int} {xs : List Int} (h : sealB k n xs = true) (hw : wordsB xs = true) : wordsB (sealL k n xs) = true := by
  rw [sealL_yes h]
  refine wordsB_of_get fun i x hi => ?_
  have hlt : i < xs.length := by
    have := (List.getElem?_eq_some_iff.1 hi).1
    rwa [sealTo_length] at this
  have hx : xs[i]? = some xs[i] := List.getElem?_eq_getElem hlt
  rw [sealTo_get hx hlt] at hi
  injection hi with hi
  rw [← hi]
  exact (xor_word (wordsB_get hw hx) (keyedI_word _ _ _)).2
theorem sealL_twice {k n : Int} {xs : List Int} (h : sealB k n xs = true) (hw : wordsB xs = true) (h2 : sealB k n (sealL k n xs) = true) : sealL k n (sealL k n xs) = xs := by
  rw [sealL_yes h2, sealL_len h]
  apply List.ext_getElem?
  intro i
  by_cases hlt : i < xs.length
  · have hx : xs[i]? = some xs[i] := List.getElem?_eq_getElem hlt
    have h3 : (sealL k n xs)[i]? = some (bits .xor .i64 xs[i] (keyedI k n i)) := by rw [sealL_yes h]; exact sealTo_get hx hlt
    rw [sealTo_get h3 hlt, xor_twice (wordsB_get hw hx) (keyedI_word _ _ _), hx]
  · rw [List.getElem?_eq_none (by rw [sealTo_length]; omega), List.getElem?_eq_none (by omega)]
theorem countI_one {xs ys : List Int} (hx : wordsB xs = true) (hy : wordsB ys = true) (hl : xs.length = ys.length) (h40 : xs.length ≤ 40) : countI xs ys = 1 := by
  unfold countI
  have h1 : ((xs.length : Nat) : Int) ≤ 40 := by omega
  have h2 : ((ys.length : Nat) : Int) ≤ 40 := by omega
  simp [hx, hy, hl, h2]
theorem countI_zero {xs ys : List Int} (hl : xs.length ≠ ys.length) : countI xs ys = 0 := by
  unfold countI
  have h1 : ((xs.length : Int) != (ys.length : Int)) = true := by simp; omega
  simp [h1]
theorem tagTo_word (k n : Int) (xs : List Int) (j : Nat) : isWordB (tagTo k n xs j) = true := by
  induction j with
  | zero => exact keyedI_word _ _ _
  | succ j ih =>
    by_cases hlt : j < xs.length
    · rw [tagTo_succ (List.getElem?_eq_getElem hlt)]
      exact keyedI_word _ _ _
    · unfold tagTo at *
      rw [List.take_of_length_le (by omega)] at *
      exact ih
theorem tagI_word (k n : Int) (xs : List Int) : isWordB (tagI k n xs) = true := by
  unfold tagI
  split
  · exact tagTo_word _ _ _ _
  · exact isWordB_iff.2 (by omega)
theorem words_set {xs : List Int} {i : Nat} {x : Int} (h : wordsB xs = true) (hx : isWordB x = true) : wordsB (xs.set i x) = true := by
  refine wordsB_of_get fun j y hy => ?_
  rw [List.getElem?_set] at hy
  split at hy
  · split at hy
    · injection hy with hy; rw [← hy]; exact hx
    · cases hy
  · exact wordsB_get h hy
end Go.Proofs.Ytdfomahaplcgoaa
