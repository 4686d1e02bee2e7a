/- A full adder: in the program and in the reference. -/
import Derived.Test.YtihbaieiempjeaaGate
namespace Go.Proofs.Ytihbaieiempjeaa
open Go.RowKit

set_option linter.unusedVariables false in
theorem iFull {lo bp : Nat} {gs : List Gt} {O : Value} {n : Nat} (x y c : Int) (w : World) (h : Bld TI w lo bp gs O) (hn : gs.length = n) (hs : n ≤ 90000) :
    Calls Try.prog 123 #[.pointer (some ⟨bp, 0, none⟩), .int .i64 x, .int .i64 y, .int .i64 c] w fun e w' => e = .returned (.tuple #[.int .i64 ((n + 2 : Nat) : Int), .int .i64 ((n + 4 : Nat) : Int)]) ∧ Bld TI w' lo bp (fullG gs x y c) O ∧ Stay TI lo w w' := by
  subst hn
  have H0 := hid h
  clear h
  go_enter Try.func123, Try.ntmps123
  go_wp2_with fail
  refine (iGate (n := gs.length + 0) _ _ _ _ H0.out (by simp) (by omega)).mono ?_
  rintro e w1 ⟨rfl, h, t⟩
  have H1 := hid h
  have T1 := hid t
  clear h t
  go_wp2_with fail
  refine (iGate (n := gs.length + 1) _ _ _ _ H1.out (by simp) (by omega)).mono ?_
  rintro e w2 ⟨rfl, h, t⟩
  have H2 := hid h
  have T2 := hid (T1.out.trans t)
  clear h t
  go_wp2_with fail
  refine (iGate (n := gs.length + 2) _ _ _ _ H2.out (by simp) (by omega)).mono ?_
  rintro e w3 ⟨rfl, h, t⟩
  have H3 := hid h
  have T3 := hid (T2.out.trans t)
  clear h t
  go_wp2_with fail
  refine (iGate (n := gs.length + 3) _ _ _ _ H3.out (by simp) (by omega)).mono ?_
  rintro e w4 ⟨rfl, h, t⟩
  have H4 := hid h
  have T4 := hid (T3.out.trans t)
  clear h t
  go_wp2_with fail
  refine (iGate (n := gs.length + 4) _ _ _ _ H4.out (by simp) (by omega)).mono ?_
  rintro e w5 ⟨rfl, h, t⟩
  have H5 := hid h
  have T5 := hid (T4.out.trans t)
  clear h t
  go_wp2
  go_returns
  refine ⟨rfl, ?_, T5.out⟩
  have h := H5.out
  simp only [List.append_assoc, List.cons_append, List.nil_append] at h
  exact h
set_option linter.unusedVariables false in
theorem sFull {lo bp : Nat} {gs : List Gt} {O : Value} {n : Nat} (x y c : Int) (w : World) (h : Bld TS w lo bp gs O) (hn : gs.length = n) (hs : n ≤ 90000) :
    Calls Try.prog 97 #[.pointer (some ⟨bp, 0, none⟩), .int .i64 x, .int .i64 y, .int .i64 c] w fun e w' => e = .returned (.tuple #[.int .i64 ((n + 2 : Nat) : Int), .int .i64 ((n + 4 : Nat) : Int)]) ∧ Bld TS w' lo bp (fullG gs x y c) O ∧ Stay TS lo w w' := by
  subst hn
  have H0 := hid h
  clear h
  go_enter Try.func97, Try.ntmps97
  go_wp2_with fail
  refine (sGate (n := gs.length + 0) _ _ _ _ H0.out (by simp) (by omega)).mono ?_
  rintro e w1 ⟨rfl, h, t⟩
  have H1 := hid h
  have T1 := hid t
  clear h t
  go_wp2_with fail
  refine (sGate (n := gs.length + 1) _ _ _ _ H1.out (by simp) (by omega)).mono ?_
  rintro e w2 ⟨rfl, h, t⟩
  have H2 := hid h
  have T2 := hid (T1.out.trans t)
  clear h t
  go_wp2_with fail
  refine (sGate (n := gs.length + 2) _ _ _ _ H2.out (by simp) (by omega)).mono ?_
  rintro e w3 ⟨rfl, h, t⟩
  have H3 := hid h
  have T3 := hid (T2.out.trans t)
  clear h t
  go_wp2_with fail
  refine (sGate (n := gs.length + 3) _ _ _ _ H3.out (by simp) (by omega)).mono ?_
  rintro e w4 ⟨rfl, h, t⟩
  have H4 := hid h
  have T4 := hid (T3.out.trans t)
  clear h t
  go_wp2_with fail
  refine (sGate (n := gs.length + 4) _ _ _ _ H4.out (by simp) (by omega)).mono ?_
  rintro e w5 ⟨rfl, h, t⟩
  have H5 := hid h
  have T5 := hid (T4.out.trans t)
  clear h t
  go_wp2
  go_returns
  refine ⟨rfl, ?_, T5.out⟩
  have h := H5.out
  simp only [List.append_assoc, List.cons_append, List.nil_append] at h
  exact h
end Go.Proofs.Ytihbaieiempjeaa
