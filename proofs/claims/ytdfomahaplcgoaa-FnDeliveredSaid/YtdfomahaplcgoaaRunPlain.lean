/- RunFrames, in the program and in the reference. -/
import Derived.Test.YtdfomahaplcgoaaSess2
import Derived.Test.YtdfomahaplcgoaaSess3
import Derived.Test.YtdfomahaplcgoaaIntS
import Derived.Test.YtdfomahaplcgoaaMem
import Derived.Deep.DeepCutAuto
import Derived.Outline
namespace Go.Proofs.Ytdfomahaplcgoaa
open Go.RowKit

/-! plain -/
def frame3 (k : Int) (x : Int) (j : Nat) : List Value := [.int .i64 (j + 1), .int .i64 x, .int .i64 (keyedI k (j + 1) x)]
def framesTo (k : Int) (xs : List Int) : Nat → List Value
  | 0 => []
  | j + 1 => framesTo k xs j ++ frame3 k (xs.getD j 0) j
theorem framesTo_length (k : Int) (xs : List Int) (j : Nat) : (framesTo k xs j).length = j * 3 := by
  induction j with
  | zero => rfl
  | succ j ih => simp [framesTo, ih, frame3]; omega
theorem framesTo_succ {k : Int} {xs : List Int} {j : Nat} {x : Int} (h : xs[j]? = some x) : framesTo k xs (j + 1) = framesTo k xs j ++ frame3 k x j := by
  show framesTo k xs j ++ frame3 k (xs.getD j 0) j = _
  rw [List.getD_eq_getElem?_getD, h]
  rfl
theorem framesTo_get {k : Int} {xs : List Int} {n i : Nat} {x : Int} (h : xs[i]? = some x) (hi : i < n) (f : Nat) (hf : f < 3) : (framesTo k xs n)[i * 3 + f]? = (frame3 k x i)[f]? := by
  induction n with
  | zero => omega
  | succ n ih =>
    show (framesTo k xs n ++ frame3 k (xs.getD n 0) n)[i * 3 + f]? = _
    by_cases hin : i < n
    · rw [List.getElem?_append_left (by rw [framesTo_length]; omega)]
      exact ih hin
    · obtain rfl : i = n := by omega
      rw [List.getElem?_append_right (by rw [framesTo_length]; omega), framesTo_length, List.getD_eq_getElem?_getD, h]
      have e : i * 3 + f - i * 3 = f := by omega
      rw [e]
      rfl
def gotStep (n : Nat) (g : Nat) (o : Int) : Nat := if o = g ∧ g < n then g + 1 else g
def gotTo (n : Nat) (ys : List Int) (j : Nat) : Nat := (ys.take j).foldl (gotStep n) 0
theorem gotTo_zero (n : Nat) (ys : List Int) : gotTo n ys 0 = 0 := rfl
theorem gotTo_succ {n : Nat} {ys : List Int} {j : Nat} {o : Int} (h : ys[j]? = some o) : gotTo n ys (j + 1) = gotStep n (gotTo n ys j) o := by
  unfold gotTo
  rw [take_snoc h, List.foldl_append]
  rfl
theorem gotStep_le {n g : Nat} {o : Int} (h : g ≤ n) : gotStep n g o ≤ n := by
  unfold gotStep
  split <;> omega
theorem gotTo_le (n : Nat) (ys : List Int) (j : Nat) : gotTo n ys j ≤ n := by
  unfold gotTo
  have : ∀ (l : List Int) (g : Nat), g ≤ n → l.foldl (gotStep n) g ≤ n := by
    intro l
    induction l with
    | nil => intro g h; exact h
    | cons o l ih => intro g h; exact ih _ (gotStep_le h)
  exact this _ _ (Nat.zero_le _)
def runB (k : Int) (xs ys : List Int) : Bool := isWordB k && decide (xs.length ≤ 200) && decide (ys.length ≤ 200) && wordsB xs
def runL (k : Int) (xs ys : List Int) : List Int := if runB k xs ys then xs.take (gotTo xs.length ys ys.length) else []
theorem infoFrame : (Try.prog.info? 31).map (fun i => (i.zero, i.size, i.bytes)) = some (some (.agg #[.int .i64 0, .int .i64 0, .int .i64 0]), 3, 24) := by kernel_rfl
theorem sendB_word {k x : Int} {j : Nat} (hk : isWordB k = true) (hj : j ≤ 200) : sendB k j 0 x = isWordB x := by
  unfold sendB sessOkB
  have e1 : inB (j : Int) 0 1000000 = true := inB_iff.2 (by omega)
  have e2 : inB (0 : Int) 0 1000000 = true := inB_iff.2 (by omega)
  have e3 : ((j : Int) == 1000000) = false := by simp; omega
  rw [hk, e1, e2, e3]
  simp
theorem recvB_frame {k x : Int} {i g : Nat} (hk : isWordB k = true) (hx : isWordB x = true) (hg : g ≤ 200) : recvB k 0 g (i + 1) x (keyedI k (i + 1) x) = decide (i = g) := by
  unfold recvB sessOkB
  have e1 : inB (g : Int) 0 1000000 = true := inB_iff.2 (by omega)
  have e2 : inB (0 : Int) 0 1000000 = true := inB_iff.2 (by omega)
  have e3 : ((g : Int) == 1000000) = false := by simp; omega
  rw [hk, e1, e2, e3, hx]
  by_cases h : i = g
  · subst h; simp
  · have : ((i : Int) + 1 != (g : Int) + 1) = true := by simp; omega
    simp [h, this]
theorem three_one (a b c : Int) : ∀ u ∈ [Value.int .i64 a, .int .i64 b, .int .i64 c], u.oneCell' = true := by
  intro u hu
  simp at hu
  rcases hu with rfl | rfl | rfl <;> rfl
end Go.Proofs.Ytdfomahaplcgoaa
