/- Decimal numerals: FormatInt, in the program (by the library's own contract) and in the reference. -/
import Derived.Test.YtcdodfekclkonaaDoorBase
import Derived.Test.YtcdodfekclkonaaDoorPlain
import Derived.Test.YtcdodfekclkonaaDoorMem
import Derived.Test.YtcdodfekclkonaaDoorItoa
import Derived.Lib.ItoaLen
namespace Go.Proofs.YtcdodfekclkonaaDoor
open Go.RowKit

/-- The table of powers as the library's text lays it. -/
def Tab (w : World) : Prop := Lib.TabIs Tryd.prog w "internal/strconv.uint64pow10" .u64 Lib.pow10Tab
theorem Tab.below {w w' : World} {b : Nat} (h : Tab w) (hb : Below b w w') (hg : ∀ g, Tryd.prog.globalNamed "internal/strconv.uint64pow10" = some g → g < b) : Tab w' := by
  unfold Tab Lib.TabIs World.var? at h ⊢
  rcases hq : Tryd.prog.globalNamed "internal/strconv.uint64pow10" with _ | g
  · rw [hq] at h
    simp at h
  · rw [hq] at h
    simp only [Option.bind_some] at h ⊢
    rw [hb.block g (hg g hq)]
    exact h
theorem Tab.lt {w : World} (h : Tab w) : ∀ g, Tryd.prog.globalNamed "internal/strconv.uint64pow10" = some g → g < w.heap.size := by
  intro g hq
  unfold Tab Lib.TabIs World.var? at h
  rw [hq] at h
  simp only [Option.bind_some] at h
  rcases Nat.lt_or_ge g w.heap.size with h' | h'
  · exact h'
  · rw [Array.getElem?_eq_none h'] at h; cases h
theorem Tab.step {w0 w w' : World} (h : Tab w) (hb : Below w0.heap.size w w') (h0 : Tab w0) : Tab w' := h.below hb h0.lt
theorem grow_below (w : World) (k : Nat) (os : Array Obj) : Below w.heap.size w (Sort.grow (w.drewN k) os) :=
  ⟨rfl, rfl, rfl, by simp [Sort.grow], fun i hi => by simp [Sort.grow]; rw [Array.getElem?_append_left (by simpa using hi)]⟩
/-- A text. -/
def txt (l : List UInt8) : Value := .string ⟨l.toArray⟩
/-- Two texts put together. -/
theorem add_txt {x y t : List UInt8} (h : t = x ++ y) (hl : t.length ≤ 1000000000000) (W : World) : (Op.stringOp .add ⟨x.toArray⟩ ⟨y.toArray⟩).run Tryd.prog W = .ok (.string ⟨t.toArray⟩) W := by
  rw [run_string_add_sum W _ _ (by simp [ByteArray.size]; rw [h, List.length_append] at hl; omega), ByteArray.mk_append_mk, h]
theorem iFormatInt (n : Int) (w : World) (h0 : -9223372036854775808 ≤ n) (h1 : n ≤ 9223372036854775807) (ht : Tab w) :
    Calls Tryd.prog 24 #[.int .i64 n] w fun e w' => e = .returned (txt (Lib.itoa n)) ∧ Below w.heap.size w w' := by
  go_enter Tryd.func24, Tryd.ntmps24
  go_wp2_with fail
  refine (Tryd.strconv_Itoa n h0 h1 _ ht).mono ?_
  rintro e w' ⟨rfl, k, os, rfl⟩
  go_wp2
  go_ret
  exact ⟨rfl, grow_below w k os⟩
def restD (k : Nat) (l : List UInt8) : List UInt8 := if k = 0 then l else Lib.decDigits k ++ l
theorem restD_step {k : Nat} {l : List UInt8} (h : k ≠ 0) : restD (k / 10) (UInt8.ofNat (48 + k % 10) :: l) = restD k l := by
  unfold restD
  rw [if_neg h]
  by_cases h10 : k < 10
  · rw [if_pos (by omega), Lib.decDigits_one h10, show k % 10 = k by omega]
    rfl
  · rw [if_neg (by omega), Lib.decDigits.eq_1 k, dif_neg h10]
    simp
theorem restD_zero (l : List UInt8) : restD 0 l = l := rfl
theorem restD_start {k : Nat} (h : k ≠ 0) : restD k [] = Lib.decDigits k := by
  unfold restD
  rw [if_neg h, List.append_nil]
theorem restD_length (k : Nat) (l : List UInt8) : l.length ≤ (restD k l).length := by
  unfold restD
  split <;> simp
theorem tmod_abs (a : Int) : (a.tmod 10).natAbs = a.natAbs % 10 := Int.natAbs_tmod a 10
theorem tdiv_abs (a : Int) : (a.tdiv 10).natAbs = a.natAbs / 10 := by rw [Int.natAbs_tdiv]; rfl
theorem itoa_abs {n : Int} (_h : n ≠ 0) : Lib.itoa n = if n < 0 then 45 :: Lib.decDigits n.natAbs else Lib.decDigits n.natAbs := by
  unfold Lib.itoa
  split
  · rfl
  · rw [show n.toNat = n.natAbs by omega]
end Go.Proofs.YtcdodfekclkonaaDoor
