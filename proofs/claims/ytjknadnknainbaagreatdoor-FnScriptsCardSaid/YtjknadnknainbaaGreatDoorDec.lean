/- Decimal numerals: FormatInt, in the program (by the library's own contract) and in the reference. -/
import Derived.Test.YtjknadnknainbaaGreatDoorBase
import Derived.Test.YtjknadnknainbaaGreatDoorPlain
import Derived.Test.YtjknadnknainbaaGreatDoorMem
import Derived.Test.YtjknadnknainbaaGreatDoorItoa
import Derived.Lib.ItoaLen
namespace Go.Proofs.YtjknadnknainbaaGreatDoor
open Go.RowKit

/-- The table of powers as the library's text lays it. -/
def Tab (w : World) : Prop := Lib.TabIs Tryz.prog w "internal/strconv.uint64pow10" .u64 Lib.pow10Tab
theorem Tab.below {w w' : World} {b : Nat} (h : Tab w) (hb : Below b w w') (hg : ∀ g, Tryz.prog.globalNamed "internal/strconv.uint64pow10" = some g → g < b) : Tab w' := by
  unfold Tab Lib.TabIs World.var? at h ⊢
  rcases hq : Tryz.prog.globalNamed "internal/strconv.uint64pow10" with _ | g
  · rw [hq] at h
    simp at h
  · rw [hq] at h
    simp only [Option.bind_some] at h ⊢
    rw [hb.block g (hg g hq)]
    exact h
theorem Tab.lt {w : World} (h : Tab w) : ∀ g, Tryz.prog.globalNamed "internal/strconv.uint64pow10" = some g → g < w.heap.size := by
  intro g hq
  unfold Tab Lib.TabIs World.var? at h
  rw [hq] at h
  simp only [Option.bind_some] at h
  rcases Nat.lt_or_ge g w.heap.size with h' | h'
  · exact h'
  · rw [Array.getElem?_eq_none h'] at h; cases h
theorem Tab.step {w0 w w' : World} (h : Tab w) (hb : Below w0.heap.size w w') (h0 : Tab w0) : Tab w' := h.below hb h0.lt
theorem grow_below (w : World) (k : Nat) (os : Array Obj) : Below w.heap.size w (Sort.grow (w.drewN k) os) :=
  ⟨rfl, rfl, rfl, by simp [Sort.grow], fun i hi => by simp [Sort.grow]; rw [Array.getElem?_append_left (by simpa using hi)]⟩
/-- A text. -/
def txt (l : List UInt8) : Value := .string ⟨l.toArray⟩
/-- Two texts put together. -/
theorem add_txt {x y t : List UInt8} (h : t = x ++ y) (hl : t.length ≤ 1000000000000) (W : World) : (Op.stringOp .add ⟨x.toArray⟩ ⟨y.toArray⟩).run Tryz.prog W = .ok (.string ⟨t.toArray⟩) W := by
  rw [run_string_add_sum W _ _ (by simp [ByteArray.size]; rw [h, List.length_append] at hl; omega), ByteArray.mk_append_mk, h]
theorem iFormatInt (n : Int) (w : World) (h0 : -9223372036854775808 ≤ n) (h1 : n ≤ 9223372036854775807) (ht : Tab w) :
    Calls Tryz.prog 26 #[.int .i64 n] w fun e w' => e = .returned (txt (Lib.itoa n)) ∧ Below w.heap.size w w' := by
  go_enter Tryz.func26, Tryz.ntmps26
  go_wp2_with fail
  refine (Tryz.strconv_Itoa n h0 h1 _ ht).mono ?_
  rintro e w' ⟨rfl, k, os, rfl⟩
  go_wp2
  go_ret
  exact ⟨rfl, grow_below w k os⟩
theorem sFigure (d : Int) (w : World) (h0 : 0 ≤ d) (h1 : d < 10) : Calls Tryz.prog 30 #[.int .i64 d] w fun e w' => e = .returned (.int .u8 (48 + d)) ∧ w = w' := by
  have t : d < 10 := h1
  have hw : IntKind.i64.wrap (48 + d) = 48 + d := IntWalk.i64_in _ (by omega)
  have hw8 : IntKind.u8.wrap (48 + d) = 48 + d := by rw [IntKind.wrap_u8]; omega
  go_enter Tryz.func30, Tryz.ntmps30
  go_wp2
  go_ret
  exact ⟨rfl, rfl⟩
def restD (k : Nat) (l : List UInt8) : List UInt8 := if k = 0 then l else Lib.decDigits k ++ l
theorem restD_step {k : Nat} {l : List UInt8} (h : k ≠ 0) : restD (k / 10) (UInt8.ofNat (48 + k % 10) :: l) = restD k l := by
  unfold restD
  rw [if_neg h]
  by_cases h10 : k < 10
  · rw [if_pos (by omega), Lib.decDigits_one h10, show k % 10 = k by omega]
    rfl
  · rw [if_neg (by omega), Lib.decDigits.eq_1 k, dif_neg h10]
    simp
theorem restD_zero (l : List UInt8) : restD 0 l = l := rfl
theorem restD_start {k : Nat} (h : k ≠ 0) : restD k [] = Lib.decDigits k := by
  unfold restD
  rw [if_neg h, List.append_nil]
theorem restD_length (k : Nat) (l : List UInt8) : l.length ≤ (restD k l).length := by
  unfold restD
  split <;> simp
theorem tmod_abs (a : Int) : (a.tmod 10).natAbs = a.natAbs % 10 := Int.natAbs_tmod a 10
theorem tdiv_abs (a : Int) : (a.tdiv 10).natAbs = a.natAbs / 10 := by rw [Int.natAbs_tdiv]; rfl
theorem itoa_abs {n : Int} (_h : n ≠ 0) : Lib.itoa n = if n < 0 then 45 :: Lib.decDigits n.natAbs else Lib.decDigits n.natAbs := by
  unfold Lib.itoa
  split
  · rfl
  · rw [show n.toNat = n.natAbs by omega]
set_option linter.unusedVariables false in
set_option maxRecDepth 100000 in
set_option maxHeartbeats 1600000 in
theorem sFormatInt (n : Int) (w : World) (h0 : -9223372036854775808 ≤ n) (h1 : n ≤ 9223372036854775807) :
    Calls Tryz.prog 10 #[.int .i64 n] w fun e w' => e = .returned (txt (Lib.itoa n)) ∧ Below w.heap.size w w' := by
  by_cases hz : n = 0
  · subst hz
    have e : Lib.itoa 0 = [48] := by unfold Lib.itoa; rw [if_neg (by omega)]; exact Lib.decDigits_one (by omega)
    go_enter Tryz.func10, Tryz.ntmps10
    go_wp2
    go_ret
    exact ⟨by rw [e]; rfl, Below.refl _ _⟩
  have hit := hid (itoa_abs hz)
  have hlen := Lib.itoa_length_le n h0 h1
  have hdl : (Lib.decDigits n.natAbs).length ≤ 21 := by
    rw [hit.out] at hlen
    split at hlen
    · simp at hlen; omega
    · exact hlen
  have hz1 : (n == 0) = false := by simpa using hz
  go_enter Tryz.func10, Tryz.ntmps10
  go_wp2_with fail
  go_loopw [0, 4, 5] (fun x s d wr => ∃ (a : Int) (l : List UInt8), x = .int .i64 a ∧ s = .string ⟨l.toArray⟩ ∧ (-9223372036854775808 ≤ a ∧ a ≤ 9223372036854775807) ∧ restD a.natAbs l = Lib.decDigits n.natAbs ∧ Below w.heap.size w wr) (fun x _ _ _ => (intOf x).natAbs)
  case atStart => exact ⟨n, [], rfl, rfl, ⟨h0, h1⟩, restD_start (by omega), Below.refl _ _⟩
  case round =>
    obtain ⟨a, l, rfl, rfl, ⟨ha0, ha1⟩, hr, hb⟩ := hrel
    have hll := restD_length a.natAbs l
    rw [hr] at hll
    have HR := hid hr
    have HB := hid hb
    clear hr hb
    by_cases hza : a = 0
    · subst hza
      have HL := hid (show l = Lib.decDigits n.natAbs from HR.out)
      by_cases hng : n < 0
      · have HN := hid hng
        go_wp2
        go_ret
        exact ⟨by rw [hit.out, if_pos (by have := HN.out; omega), ← HL.out]; exact congrArg (fun x => Ending.returned (.string x)) (ByteArray.mk_append_mk [45] l), HB.out⟩
      · have HN := hid hng
        go_wp2
        go_ret
        exact ⟨by rw [hit.out, if_neg (by have := HN.out; omega), ← HL.out]; rfl, HB.out⟩
    · have hza1 : (a == 0) = false := by simpa using hza
      have hm := tmod_abs a
      have hd := tdiv_abs a
      obtain ⟨r, hr⟩ : ∃ r, a.tmod 10 = r := ⟨_, rfl⟩
      obtain ⟨q, hq⟩ : ∃ q, a.tdiv 10 = q := ⟨_, rfl⟩
      rw [hr] at hm
      rw [hq] at hd
      have hwr : IntKind.i64.wrap r = r := IntWalk.i64_in _ (by omega)
      have hwq : IntKind.i64.wrap q = q := IntWalk.i64_in _ (by omega)
      have hwn : IntKind.i64.wrap (-r) = -r := IntWalk.i64_in _ (by omega)
      have hd1 : r.natAbs < 10 := by omega
      obtain ⟨k, hk⟩ : ∃ k, k = a.natAbs := ⟨_, rfl⟩
      rw [← hk] at HR hm hd
      have hk0 : k ≠ 0 := by omega
      have qrange : -9223372036854775808 ≤ q ∧ q ≤ 9223372036854775807 := by omega
      obtain ⟨f, hf0, hf1, hf⟩ : ∃ f : Int, 0 ≤ f ∧ f < 10 ∧ (if r < 0 then -r else r) = f := ⟨_, by split <;> omega, by split <;> omega, rfl⟩
      have hfm : f = (k % 10 : Nat) := by split at hf <;> omega
      have HF := hid hfm
      obtain ⟨u, hu⟩ : ∃ u, u = UInt8.ofNat (48 + k % 10) := ⟨_, rfl⟩
      have HU := hid hu
      have hu1 : (u.toNat : Int) = 48 + f := by rw [hu, hfm]; simp; omega
      have HU1 := hid hu1
      have HK := hid hk
      have HD := hid hd
      clear hu hu1 hk hd
      have hcv : ∀ (W : World), (convert 22 9 (.slice (some ⟨W.heap.size, 0, none⟩) 1 1)).run Tryz.prog (W.alloc (.cells #[.int .u8 (48 + f)] 5)) = .ok (.string ⟨[u].toArray⟩) (W.alloc (.cells #[.int .u8 (48 + f)] 5)) := fun W =>
        run_convert_bytes_back _ _ _ 5 _ 1 [u] Tryz.underlying22 Tryz.underlying5 Tryz.underlying9 (fun j hj => by
          have hj0 : j = 0 := by simpa using hj
          subst hj0
          rw [one_new W (.int .u8 (48 + f)) 5 0 (.int .u8 (48 + f)) rfl]
          show some (Value.int .u8 (48 + f)) = some (.int .u8 (u.toNat : Int))
          rw [HU1.out])
      have HRL := hid (show restD q.natAbs (u :: l) = Lib.decDigits n.natAbs by rw [HD.out, HU.out, restD_step hk0]; exact HR.out)
      have HM := hid (show q.natAbs < a.natAbs by have := HD.out; have := HK.out; omega)
      clear hm hfm HR
      by_cases hneg : r < 0
      · obtain rfl : -r = f := by rw [← hf, if_pos hneg]
        clear hf
        go_wp2_with (go_at_call 30; refine (sFigure _ _ hf0 hf1).mono ?_; rintro e w' ⟨rfl, rfl⟩)
        go_roundw
        case rel => exact ⟨q, u :: l, rfl, congrArg Value.string (ByteArray.mk_append_mk [u] l), qrange, HRL.out, HB.out.alloc HB.out.size _⟩
        case measure => exact HM.out
      · obtain rfl : r = f := by rw [← hf, if_neg hneg]
        clear hf
        go_wp2_with (go_at_call 30; refine (sFigure _ _ hf0 hf1).mono ?_; rintro e w' ⟨rfl, rfl⟩)
        go_roundw
        case rel => exact ⟨q, u :: l, rfl, congrArg Value.string (ByteArray.mk_append_mk [u] l), qrange, HRL.out, HB.out.alloc HB.out.size _⟩
        case measure => exact HM.out
end Go.Proofs.YtjknadnknainbaaGreatDoor
