/- The lines of a schedule's report. No program is named here, but for the ranges of the numerals. -/
import Derived.Test.YtjknadnknainbaaGreatDoorFmtAct
import Derived.Test.YtjknadnknainbaaGreatDoorSched
import Derived.Test.YtjknadnknainbaaGreatDoorGrow4
namespace Go.Proofs.YtjknadnknainbaaGreatDoor
open Go.RowKit

def linePool (z n b : Int) : List UInt8 := [112, 111, 111, 108, 32] ++ Lib.itoa n ++ [47] ++ Lib.itoa b ++ [47] ++ Lib.itoa z
def lineJob (j : Jb) : List UInt8 := [106, 111, 98, 32] ++ Lib.itoa j.i ++ [32, 100, 111, 110, 101, 32] ++ Lib.itoa j.d ++ [32, 108, 101, 102, 116, 32] ++ Lib.itoa j.l
def lineTickets (n : Nat) : List UInt8 := [116, 105, 99, 107, 101, 116, 115, 32] ++ Lib.itoa (n : Int)
def failTo (fs : List Int) : Nat → List UInt8
  | 0 => [102, 97, 105, 108, 101, 100]
  | k + 1 => failTo fs k ++ [32] ++ Lib.itoa (fs.getD k 0)
theorem failTo_succ {fs : List Int} {k : Nat} {x : Int} (h : fs[k]? = some x) : failTo fs (k + 1) = failTo fs k ++ [32] ++ Lib.itoa x := by
  rw [failTo, List.getD_eq_getElem?_getD, h]
  rfl
def in64 (x : Int) : Prop := -9223372036854775808 ≤ x ∧ x ≤ 9223372036854775807
theorem failTo_length {fs : List Int} (h : ∀ x ∈ fs, in64 x) : ∀ k, (failTo fs k).length ≤ 6 + 22 * k
  | 0 => by simp [failTo]
  | k + 1 => by
    have h0 := failTo_length h k
    have h1 : (Lib.itoa (fs.getD k 0)).length ≤ 21 := by
      rw [List.getD_eq_getElem?_getD]
      cases hx : fs[k]? with
      | none => exact Lib.itoa_length_le 0 (by omega) (by omega)
      | some x => exact Lib.itoa_length_le x (h x (List.mem_of_getElem? hx)).1 (h x (List.mem_of_getElem? hx)).2
    rw [failTo, List.length_append, List.length_append, List.length_singleton]
    omega
noncomputable def schedTxt (S : SV) : List (List UInt8) := if schedOkB S = true then linePool S.z S.n S.b :: (S.js.map lineJob ++ [lineTickets S.ts.length, failTo S.fs S.fs.length]) else []
/-- Texts as cells. -/
def strs (ls : List (List UInt8)) : List Value := ls.map txt
theorem strs_length (ls : List (List UInt8)) : (strs ls).length = ls.length := by simp [strs]
theorem strs_snoc (ls : List (List UInt8)) (l : List UInt8) : strs (ls ++ [l]) = strs ls ++ [txt l] := by simp [strs]
theorem strs_get {ls : List (List UInt8)} {k : Nat} {l : List UInt8} (h : ls[k]? = some l) : (strs ls)[k]? = some (txt l) := by simp [strs, h]
theorem txt_one (l : List UInt8) : ∀ u ∈ [txt l], u.oneCell' = true := by
  intro u hu
  simp at hu
  subst hu
  rfl
/-- The lines ahead of the tickets, by the number of jobs that are told. -/
def linesTo (S : SV) (k : Nat) : List (List UInt8) := linePool S.z S.n S.b :: (S.js.take k).map lineJob
theorem linesTo_zero (S : SV) : linesTo S 0 = [linePool S.z S.n S.b] := rfl
theorem linesTo_succ {S : SV} {k : Nat} {j : Jb} (h : S.js[k]? = some j) : linesTo S (k + 1) = linesTo S k ++ [lineJob j] := by
  unfold linesTo
  rw [List.take_add_one, h]
  simp
theorem linesTo_length {S : SV} {k : Nat} (h : k ≤ S.js.length) : (linesTo S k).length = 1 + k := by
  unfold linesTo
  simp
  omega
theorem schedTxt_yes {S : SV} (h : schedOkB S = true) : schedTxt S = linesTo S S.js.length ++ [lineTickets S.ts.length] ++ [failTo S.fs S.fs.length] := by
  unfold schedTxt linesTo
  rw [if_pos h, List.take_length]
  simp
theorem schedTxt_no {S : SV} (h : schedOkB S = false) : schedTxt S = [] := by
  unfold schedTxt
  rw [h]
  rfl
theorem jb_range {j : Jb} (h : jbIn j = true) : (1 ≤ j.i ∧ j.i ≤ 1000) ∧ (1 ≤ j.l ∧ j.l ≤ 20) ∧ (0 ≤ j.d ∧ j.d ≤ 20) := by
  unfold jbIn at h
  simp only [Bool.and_eq_true, inB_iff] at h
  exact ⟨h.1.1.1, h.1.2, h.2⟩
/-- A numeral as a Go string, for a contract. -/
theorem str_add (x y : List UInt8) : (ByteArray.mk x.toArray ++ ByteArray.mk y.toArray) = ByteArray.mk (x ++ y).toArray := ByteArray.mk_append_mk x y
theorem infoStr : (Tryz.prog.info? 9).map (fun i => (i.zero, i.size, i.bytes)) = some (some (.string ⟨#[]⟩), 1, 16) := by kernel_rfl
theorem own_cap' {w : World} {base e size n c : Nat} {A : Option Addr} {xs : List Value} (h : w.ownsRow base e size (.slice A n c) n xs) : n ≤ c := by
  rcases h.2 with ⟨hv, rfl⟩ | ⟨g, cap, cur, hv, _, _, hle, _⟩
  · omega
  · cases hv
    exact hle
theorem row_news {w : World} {base e g n c : Nat} {xs : List Value} (h : w.ownsRow base e 1 (.slice (some ⟨g, 0, none⟩) n c) n xs) : ∀ (j : Nat) (u : Value), xs[j]? = some u → w.cell? ((⟨g, 0, none⟩ : Addr).add j) = some u := fun j u hu => by
  have hlt : j < n := by
    have := (List.getElem?_eq_some_iff.1 hu).1
    have := h.1
    omega
  have e : (⟨g, 0, none⟩ : Addr).add j = ⟨g, j, none⟩ := by simp [Addr.add]; omega
  rw [e, h.cellAt j (by omega), hu]
theorem str_two (a b : ByteArray) : ∀ u ∈ [Value.string a, .string b], u.oneCell' = true := by
  intro u hu
  simp at hu
  rcases hu with rfl | rfl <;> rfl
/-- A literal of one element. -/
theorem grow_lit1 {P : Program} {t e base : Nat} {w : World} {o : Oper} {a : Act} {x : Operand} {v : Value} (ho : o.op = Op.buildSlice t 1 #[(0, x)]) (hv : a.eval x = v)
    (hr : ∀ w : World, (Instr.buildSlice t 1 #[(0, v)]).run P w = .ok (.slice (some ⟨w.heap.size, 0, none⟩) 1 1) (w.alloc (.cells #[v] e))) (hb : base ≤ w.heap.size) :
    growUpon P Grows (RowOf base e 1 1 [v]) w ((execOp a.eval o).run P w) := by
  simp [execOp, ho, growUpon, hr, hv, Result.andThen]
  exact ⟨(Below.refl _ _).alloc (Nat.le_refl _) _, _, _, rfl, own_lit #[v] 1 rfl hb (by decide) rfl⟩
theorem litStr (b : ByteArray) (w : World) : (Instr.buildSlice 31 1 #[(0, .string b)]).run Tryz.prog w = .ok (.slice (some ⟨w.heap.size, 0, none⟩) 1 1) (w.alloc (.cells #[.string b] 9)) := by
  simp [go_sem]
end Go.Proofs.YtjknadnknainbaaGreatDoor
