/- A gate, a full adder: in the program and in the reference. -/
import Derived.Test.YtihbaieiempjeaaBld
namespace Go.Proofs.Ytihbaieiempjeaa
open Go.RowKit

abbrev TI : Nat := 125
abbrev TS : Nat := 27
set_option linter.unusedVariables false in
theorem iGate {lo bp : Nat} {gs : List Gt} {O : Value} {n : Nat} (k x y : Int) (w : World) (h : Bld TI w lo bp gs O) (hn : gs.length = n) (hs : n ≤ 100000) :
    Calls Try.prog 106 #[.pointer (some ⟨bp, 0, none⟩), .int .i64 k, .int .i64 x, .int .i64 y] w fun e w' => e = .returned (.int .i64 (n : Int)) ∧ Bld TI w' lo bp (gs ++ [⟨k, x, y⟩]) O ∧ Stay TI lo w w' := by
  subst hn
  obtain ⟨A, c, hb, hl, ho⟩ := h
  have cell_b := hb.cell
  have froz_b := hb.frozen
  have lt_b := hb.lt
  have H := hid (And.intro hb ho)
  clear hb ho
  go_enter Try.func106, Try.ntmps106
  go_wp2_with (at_builtin; refine wpList_appi rfl _ _ 24 rfl lo TG (.agg #[.int .i64 0, .int .i64 0, .int .i64 0]) 3 24 Try.underlying24 infoGt rfl (by decide) _ gs.length _ rfl (H.out.2.alloc _) ⟨w.heap.size, 0, none⟩ 1 1 _ rfl rfl (many_new _ [_, _, _] _) (int3_one _ _ _) (by omega) (by decide) (by simp; omega) ?_)
  intro A' c' w1 h1 h2 _
  have h2 := grown_alloc h2
  obtain ⟨hb1, hB, hS⟩ := bld_put (T := TI) (g := ⟨k, x, y⟩) (by decide) H.out.1 hl H.out.2 h1 h2
  have HR := hid (And.intro hB hS)
  have cell_b1 := hb1.cell
  have froz_b1 := hb1.frozen
  have lt_b1 := hb1.lt
  have hw : IntKind.i64.wrap ((gs.length + 1 : Nat) - 1 : Int) = (gs.length : Int) := by rw [IntWalk.i64_in _ (by omega)]; omega
  clear h1 h2 hb1 hB hS cell_b froz_b lt_b H
  go_wp2
  go_ret
  exact ⟨by first | rfl | simp, HR.out.1, HR.out.2⟩
set_option linter.unusedVariables false in
theorem sGate {lo bp : Nat} {gs : List Gt} {O : Value} {n : Nat} (k x y : Int) (w : World) (h : Bld TS w lo bp gs O) (hn : gs.length = n) (hs : n ≤ 100000) :
    Calls Try.prog 68 #[.pointer (some ⟨bp, 0, none⟩), .int .i64 k, .int .i64 x, .int .i64 y] w fun e w' => e = .returned (.int .i64 (n : Int)) ∧ Bld TS w' lo bp (gs ++ [⟨k, x, y⟩]) O ∧ Stay TS lo w w' := by
  subst hn
  obtain ⟨A, c, hb, hl, ho⟩ := h
  have cell_b := hb.cell
  have froz_b := hb.frozen
  have lt_b := hb.lt
  have H := hid (And.intro hb ho)
  clear hb ho
  go_enter Try.func68, Try.ntmps68
  go_wp2_with (at_builtin; refine wpList_appi rfl _ _ 24 rfl lo TG (.agg #[.int .i64 0, .int .i64 0, .int .i64 0]) 3 24 Try.underlying24 infoGt rfl (by decide) _ gs.length _ rfl (H.out.2.alloc _) ⟨w.heap.size, 0, none⟩ 1 1 _ rfl rfl (many_new _ [_, _, _] _) (int3_one _ _ _) (by omega) (by decide) (by simp; omega) ?_)
  intro A' c' w1 h1 h2 _
  have h2 := grown_alloc h2
  obtain ⟨hb1, hB, hS⟩ := bld_put (T := TS) (g := ⟨k, x, y⟩) (by decide) H.out.1 hl H.out.2 h1 h2
  have HR := hid (And.intro hB hS)
  have cell_b1 := hb1.cell
  have froz_b1 := hb1.frozen
  have lt_b1 := hb1.lt
  have hw : IntKind.i64.wrap ((gs.length + 1 : Nat) - 1 : Int) = (gs.length : Int) := by rw [IntWalk.i64_in _ (by omega)]; omega
  clear h1 h2 hb1 hB hS cell_b froz_b lt_b H
  go_wp2
  go_ret
  exact ⟨by first | rfl | simp, HR.out.1, HR.out.2⟩
end Go.Proofs.Ytihbaieiempjeaa
