/- Plain functions on integers (words, the keyed function, the sessions and vaults) and their laws. No program is named here. -/
import Derived.WalkKit
import Derived.Laws.BitsAllLaws
import Derived.Laws.BitsLemmas
namespace Go.Proofs.Ytihbaieiempjeaa
open Go.RowKit

def inB (n lo hi : Int) : Bool := decide (lo ≤ n ∧ n ≤ hi)
theorem inB_iff {n lo hi : Int} : inB n lo hi = true ↔ lo ≤ n ∧ n ≤ hi := by simp [inB]
theorem inB_no {n lo hi : Int} : inB n lo hi = false ↔ ¬ (lo ≤ n ∧ n ≤ hi) := by simp [inB]
def isWordB (n : Int) : Bool := inB n 0 4294967295
theorem isWordB_iff {n : Int} : isWordB n = true ↔ 0 ≤ n ∧ n ≤ 4294967295 := inB_iff
theorem isWordB_no {n : Int} : isWordB n = false ↔ ¬ (0 ≤ n ∧ n ≤ 4294967295) := inB_no

/-! ### Bits of numbers that are not negative -/
theorem ofInt_nat (a : Nat) (ha : a < 9223372036854775808) : (BitVec.ofInt 64 (a : Int)).toNat = a := by
  rw [BitVec.ofInt_natCast, BitVec.toNat_ofNat]; exact Nat.mod_eq_of_lt (by omega)
theorem xor_nat (a b : Nat) (ha : a < 9223372036854775808) (hb : b < 9223372036854775808) : bits .xor .i64 (a : Int) (b : Int) = ((a ^^^ b : Nat) : Int) := by
  have hx : a ^^^ b < 2 ^ 63 := Nat.xor_lt_two_pow (by omega) (by omega)
  show IntKind.i64.wrap ((BitVec.ofInt 64 (a : Int) ^^^ BitVec.ofInt 64 (b : Int)).toNat : Int) = _
  rw [BitVec.toNat_xor, ofInt_nat a ha, ofInt_nat b hb, IntKind.wrap_i64]
  omega
theorem and_nat (a b : Nat) (ha : a < 9223372036854775808) (hb : b < 9223372036854775808) : bits .and .i64 (a : Int) (b : Int) = ((a &&& b : Nat) : Int) := by
  have hx : a &&& b < 2 ^ 63 := Nat.and_lt_two_pow _ (by omega)
  show IntKind.i64.wrap ((BitVec.ofInt 64 (a : Int) &&& BitVec.ofInt 64 (b : Int)).toNat : Int) = _
  rw [BitVec.toNat_and, ofInt_nat a ha, ofInt_nat b hb, IntKind.wrap_i64]
  omega
theorem or_nat (a b : Nat) (ha : a < 9223372036854775808) (hb : b < 9223372036854775808) : bits .or .i64 (a : Int) (b : Int) = ((a ||| b : Nat) : Int) := by
  have hx : a ||| b < 2 ^ 63 := Nat.or_lt_two_pow (by omega) (by omega)
  show IntKind.i64.wrap ((BitVec.ofInt 64 (a : Int) ||| BitVec.ofInt 64 (b : Int)).toNat : Int) = _
  rw [BitVec.toNat_or, ofInt_nat a ha, ofInt_nat b hb, IntKind.wrap_i64]
  omega

/-! ### Mix -/
def mixS (x : Nat) : Nat := (x ^^^ x / 65536) * 73244475 % 4294967296
def mixN (x : Nat) : Nat := mixS (mixS x) ^^^ mixS (mixS x) / 65536
def mixI (n : Int) : Int := if isWordB n then (mixN n.toNat : Int) else 0
theorem mixS_lt (x : Nat) : mixS x < 4294967296 := by unfold mixS; omega
theorem xor_lt32 {a b : Nat} (ha : a < 4294967296) (hb : b < 4294967296) : a ^^^ b < 4294967296 := by
  have h : a ^^^ b < 2 ^ 32 := Nat.xor_lt_two_pow (by omega) (by omega)
  omega
theorem mixN_lt (x : Nat) : mixN x < 4294967296 := by
  unfold mixN
  have := mixS_lt (mixS x)
  exact xor_lt32 this (by omega)
theorem and_mask (a : Nat) : a &&& 4294967295 = a % 4294967296 := Nat.and_two_pow_sub_one_eq_mod a 32
theorem mixS_spell (x : Nat) (hx : x < 4294967296) :
    bits .and .i64 (wrap64 (bits .xor .i64 (x : Int) ((x : Int) / 65536) * 73244475)) 4294967295 = (mixS x : Int) := by
  have e1 : ((x : Int) / 65536) = ((x / 65536 : Nat) : Int) := by omega
  have hl : x ^^^ x / 65536 < 4294967296 := xor_lt32 hx (by omega)
  rw [e1, xor_nat x (x / 65536) (by omega) (by omega)]
  unfold mixS
  generalize x ^^^ x / 65536 = y at *
  have e2 : wrap64 ((y : Int) * 73244475) = ((y * 73244475 : Nat) : Int) := by
    rw [IntWalk.wrap64_in _ (by omega)]
    omega
  rw [e2, show (4294967295 : Int) = ((4294967295 : Nat) : Int) from rfl, and_nat _ _ (by omega) (by omega), and_mask]
/-- The walk's own spelling of Mix at a word. -/
theorem mix_spell (n : Int) (h0 : 0 ≤ n) (h1 : n ≤ 4294967295) (a b : Int)
    (ha : a = bits .and .i64 (wrap64 (bits .xor .i64 n (n / 65536) * 73244475)) 4294967295)
    (hb : b = bits .and .i64 (wrap64 (bits .xor .i64 a (a / 65536) * 73244475)) 4294967295) :
    bits .xor .i64 b (b / 65536) = mixI n := by
  obtain ⟨x, rfl⟩ := Int.eq_ofNat_of_zero_le h0
  rw [mixS_spell x (by omega)] at ha
  subst ha
  rw [mixS_spell _ (mixS_lt _)] at hb
  subst hb
  have hl := mixS_lt (mixS x)
  have e1 : ((mixS (mixS x) : Nat) : Int) / 65536 = ((mixS (mixS x) / 65536 : Nat) : Int) := by omega
  rw [e1, xor_nat _ _ (by omega) (by omega)]
  unfold mixI
  rw [if_pos (isWordB_iff.2 ⟨h0, h1⟩)]
  rfl
theorem mixI_no {n : Int} (h : isWordB n = false) : mixI n = 0 := by unfold mixI; rw [h]; rfl
theorem mixI_word (n : Int) : isWordB (mixI n) = true := by
  unfold mixI
  split
  · have := mixN_lt n.toNat
    exact isWordB_iff.2 (by omega)
  · exact isWordB_iff.2 (by omega)
theorem mixI_range (n : Int) : 0 ≤ mixI n ∧ mixI n ≤ 4294967295 := isWordB_iff.1 (mixI_word n)

/-! ### Keyed -/
def keyedI (k a b : Int) : Int :=
  if isWordB k && isWordB a && isWordB b then mixI (bits .xor .i64 (mixI (bits .xor .i64 (mixI k) a)) b) else 0
theorem keyedI_word (k a b : Int) : isWordB (keyedI k a b) = true := by
  unfold keyedI
  split
  · exact mixI_word _
  · exact isWordB_iff.2 (by omega)
theorem keyedI_range (k a b : Int) : 0 ≤ keyedI k a b ∧ keyedI k a b ≤ 4294967295 := isWordB_iff.1 (keyedI_word k a b)

/-! ### Sessions, vaults, acts -/
def sessOkB (k s g : Int) : Bool := isWordB k && inB s 0 1000000 && inB g 0 1000000
def vaultOkB (k n : Int) : Bool := isWordB k && inB n 0 100000
def sendB (k s g b : Int) : Bool := sessOkB k s g && isWordB b && !(s == 1000000)
def recvB (k s g q b t : Int) : Bool := sessOkB k s g && !(g == 1000000) && !(q != g + 1) && isWordB b && !(t != keyedI k q b)
def resumeB (k s g n : Int) : Bool := sessOkB k s g && inB n 0 s
def actOkB (k i d n : Int) : Bool :=
  if k = 1 then inB i 0 1000 && inB d 0 1000 && inB n 0 1000
  else if k = 2 ∨ k = 3 then i == 0 && d == 0 && inB n 0 400
  else k == 4 && i == 0 && d == 0 && n == 0
/-- One number or another, by a test: the walk does not look behind the name. -/
def pick (b : Bool) (x y : Int) : Int := if b then x else y
@[simp] theorem pick_yes (x y : Int) : pick true x y = x := rfl
@[simp] theorem pick_no (x y : Int) : pick false x y = y := rfl

/-! ### Lists of words, sealing -/
def wordsB (xs : List Int) : Bool := xs.all isWordB
theorem take_snoc {xs : List Int} {k : Nat} {x : Int} (h : xs[k]? = some x) : xs.take (k + 1) = xs.take k ++ [x] := by
  rw [List.take_add_one, h]
  rfl
theorem wordsB_nil : wordsB [] = true := rfl
theorem wordsB_snoc {xs : List Int} {k : Nat} {x : Int} (h : xs[k]? = some x) (hw : wordsB (xs.take k) = true) (hx : isWordB x = true) : wordsB (xs.take (k + 1)) = true := by
  rw [take_snoc h]
  unfold wordsB at *
  simp [hw, hx, List.all_append]
theorem wordsB_no {xs : List Int} {k : Nat} {x : Int} (h : xs[k]? = some x) (hx : isWordB x = false) : wordsB xs = false := by
  unfold wordsB
  rw [List.all_eq_false]
  exact ⟨x, List.mem_of_getElem? h, by simp [hx]⟩
def sealB (k n : Int) (xs : List Int) : Bool := isWordB k && inB n 0 100000 && (wordsB xs && decide ((xs.length : Int) ≤ 40))
def tagTo (k n : Int) (xs : List Int) (j : Nat) : Int := (xs.take j).foldl (fun r x => keyedI k r x) (keyedI k n 888)
theorem tagTo_zero (k n : Int) (xs : List Int) : tagTo k n xs 0 = keyedI k n 888 := rfl
theorem tagTo_succ {k n : Int} {xs : List Int} {j : Nat} {x : Int} (h : xs[j]? = some x) : tagTo k n xs (j + 1) = keyedI k (tagTo k n xs j) x := by
  unfold tagTo
  rw [take_snoc h, List.foldl_append]
  rfl
def tagI (k n : Int) (xs : List Int) : Int := if sealB k n xs then tagTo k n xs xs.length else 0
def sealTo (k n : Int) (xs : List Int) : Nat → List Int
  | 0 => []
  | j + 1 => sealTo k n xs j ++ [bits .xor .i64 (xs.getD j 0) (keyedI k n j)]
theorem sealTo_length (k n : Int) (xs : List Int) (j : Nat) : (sealTo k n xs j).length = j := by
  induction j with
  | zero => rfl
  | succ j ih => simp [sealTo, ih]
theorem sealTo_succ {k n : Int} {xs : List Int} {j : Nat} {x : Int} (h : xs[j]? = some x) : sealTo k n xs (j + 1) = sealTo k n xs j ++ [bits .xor .i64 x (keyedI k n j)] := by
  show sealTo k n xs j ++ [bits .xor .i64 (xs.getD j 0) (keyedI k n j)] = _
  rw [List.getD_eq_getElem?_getD, h]
  rfl
def sealL (k n : Int) (xs : List Int) : List Int := if sealB k n xs then sealTo k n xs xs.length else []
def partyTo (p : Int) : Nat → List Int
  | 0 => []
  | j + 1 => partyTo p j ++ [16 * p + j]
theorem partyTo_length (p : Int) (j : Nat) : (partyTo p j).length = j := by
  induction j with
  | zero => rfl
  | succ j ih => simp [partyTo, ih]
def partyL (p : Int) : List Int := if inB p 0 4 then partyTo p 16 else []
theorem partyL_length (p : Int) : (partyL p).length ≤ 16 := by
  unfold partyL
  split
  · rw [partyTo_length]; exact Nat.le_refl _
  · simp
def countI (xs ys : List Int) : Int := pick (!((xs.length : Int) != (ys.length : Int)) && (wordsB xs && decide ((xs.length : Int) ≤ 40)) && (wordsB ys && decide ((ys.length : Int) ≤ 40))) 1 0
def marks (k : Int) : Nat → List Int
  | 0 => []
  | j + 1 => marks k j ++ [k + j]
theorem marks_length (k : Int) (j : Nat) : (marks k j).length = j := by
  induction j with
  | zero => rfl
  | succ j ih => simp [marks, ih]
theorem marks_get (k : Int) (n j : Nat) (h : j < n) : (marks k n)[j]? = some (k + j) := by
  induction n with
  | zero => omega
  | succ n ih =>
    show (marks k n ++ [k + n])[j]? = _
    by_cases hj : j < n
    · rw [List.getElem?_append_left (by rw [marks_length]; exact hj)]
      exact ih hj
    · obtain rfl : j = n := by omega
      rw [List.getElem?_append_right (by rw [marks_length]; omega), marks_length]
      simp
end Go.Proofs.Ytihbaieiempjeaa
