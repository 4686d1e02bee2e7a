/- Statements, in the program. -/
import Derived.Test.YtihbaieiempjeaaBy
import Derived.Test.YtihbaieiempjeaaPg
import Derived.Test.YtihbaieiempjeaaWord
import Derived.Test.YtihbaieiempjeaaLab
namespace Go.Proofs.Ytihbaieiempjeaa
open Go.RowKit

theorem stmtB_1 (d a b c n : Int) : stmtB ⟨1, d, a, b, c, n⟩ = (regB d && (a == 0 && (b == 0 && (c == 0 && inB n 0 15)))) := rfl
theorem stmtB_2 (d a b c n : Int) : stmtB ⟨2, d, a, b, c, n⟩ = (regB d && (inB a 0 4 && (b == 0 && (c == 0 && inB n 0 3)))) := rfl
theorem stmtB_3 {o : Int} (d a b c n : Int) (h : inB o 3 9 = true) : stmtB ⟨o, d, a, b, c, n⟩ = (regB d && (regB a && (regB b && (c == 0 && n == 0)))) := by
  have h1 := inB_iff.1 h
  unfold stmtB
  dsimp only
  rw [if_neg (by omega), if_neg (by omega), if_pos h]
theorem stmtB_10 (d a b c n : Int) : stmtB ⟨10, d, a, b, c, n⟩ = (regB d && (regB a && (regB b && (regB c && n == 0)))) := rfl
theorem stmtB_11 (d a b c n : Int) : stmtB ⟨11, d, a, b, c, n⟩ = (d == 0 && (regB a && (b == 0 && (c == 0 && n == 0)))) := rfl
theorem stmtB_12 (d a b c n : Int) : stmtB ⟨12, d, a, b, c, n⟩ = (d == 0 && (a == 0 && (b == 0 && (c == 0 && inB n 1 8)))) := rfl
theorem stmtB_13 {o : Int} (d a b c n : Int) (h1 : o ≠ 1) (h2 : o ≠ 2) (h3 : inB o 3 9 = false) (h10 : o ≠ 10) (h11 : o ≠ 11) (h12 : o ≠ 12) :
    stmtB ⟨o, d, a, b, c, n⟩ = (o == 13 && (d == 0 && (a == 0 && (b == 0 && (c == 0 && n == 0))))) := by
  unfold stmtB
  dsimp only
  rw [if_neg h1, if_neg h2, if_neg (by rw [h3]; simp), if_neg h10, if_neg h11, if_neg h12]
theorem all_no {p : Int → Bool} {xs : List Int} {k : Nat} {x : Int} (h : xs[k]? = some x) (hx : p x = false) : xs.all p = false := by
  rw [List.all_eq_false]
  exact ⟨x, List.mem_of_getElem? h, by simp [hx]⟩
theorem all_snoc {p : Int → Bool} {xs : List Int} {k : Nat} {x : Int} (h : xs[k]? = some x) (ha : (xs.take k).all p = true) (hx : p x = true) : (xs.take (k + 1)).all p = true := by
  rw [take_snoc h, List.all_append, ha]
  simp [hx]
set_option linter.unusedVariables false in
theorem iIsReg (A : Option Addr) (c : Nat) (xs : List Int) (w : World) (hc : Cells w w.heap.size A (ints xs)) (hn : xs.length ≤ 1000000000) :
    Calls Try.prog 66 #[.slice A xs.length c] w fun e w' => e = .returned (.bool (xs.all regB)) ∧ w = w' := by
  go_enter Try.func66, Try.ntmps66
  go_wp2
  go_loop [4, 7] (fun _ i => ∃ j : Nat, j ≤ xs.length ∧ i = .int .i64 j ∧ (xs.take j).all regB = true) (fun _ i => xs.length - (intOf i).toNat)
  case atStart => exact ⟨0, Nat.zero_le _, rfl, rfl⟩
  case round =>
    obtain ⟨j, hj, rfl, hall⟩ := hrel
    by_cases hlt : j < xs.length
    · obtain ⟨x, hx1⟩ : ∃ x, xs[j]? = some x := ⟨_, List.getElem?_eq_getElem hlt⟩
      obtain ⟨b, off, rfl, hB, hcl⟩ := hc (by rw [ints_length]; omega)
      have hcell : w.cell? ⟨b, off + j, none⟩ = some (.int .i64 x) := hcl j _ (ints_get hx1)
      have HW := hid (fun w => iWithin x 0 7 w)
      cases hr : regB x
      · have HN := hid (all_no hx1 hr)
        have hin : inB x 0 7 = false := hr
        rw [hin] at HW
        clear hcl hc hx1 hall hr hin
        go_wp2_with (go_at_call 55; refine (HW.out _).mono ?_; rintro e w' ⟨rfl, rfl⟩)
        go_ret
        exact ⟨by rw [HN.out]; rfl, rfl⟩
      · have HA := hid (all_snoc hx1 hall hr)
        have hin : inB x 0 7 = true := hr
        rw [hin] at HW
        clear hcl hc hx1 hall hr hin
        go_wp2_with (go_at_call 55; refine (HW.out _).mono ?_; rintro e w' ⟨rfl, rfl⟩)
        go_round
        case rel => exact ⟨j + 1, by omega, by go_num, HA.out⟩
        case measure => simp [intOf]; omega
    · obtain rfl : j = xs.length := by omega
      rw [List.take_length] at hall
      have HA := hid hall
      clear hall
      go_wp2
      go_ret
      exact ⟨by rw [HA.out]; rfl, rfl⟩
theorem cells_blk {w : World} {b t : Nat} {xs : List Int} (h : Blk w b t (ints xs).toArray) : Cells w w.heap.size (some ⟨b, 0, none⟩) (ints xs) := fun _ =>
  ⟨b, 0, rfl, h.lt, fun i v hv => by
    rw [Nat.zero_add, h.cell i]
    simpa using hv⟩
theorem iReg1 (a : Int) (c b : Nat) (w : World) (h : Blk w b 3 #[.int .i64 a]) :
    Calls Try.prog 66 #[.slice (some ⟨b, 0, none⟩) 1 c] w fun e w' => e = .returned (.bool (regB a)) ∧ w = w' := by
  have h := iIsReg (some ⟨b, 0, none⟩) c [a] w (cells_blk h) (by simp)
  simpa using h
theorem iReg3 (x y z : Int) (c b : Nat) (w : World) (h : Blk w b 3 #[.int .i64 x, .int .i64 y, .int .i64 z]) :
    Calls Try.prog 66 #[.slice (some ⟨b, 0, none⟩) 3 c] w fun e w' => e = .returned (.bool (regB x && (regB y && regB z))) ∧ w = w' := by
  have h := iIsReg (some ⟨b, 0, none⟩) c [x, y, z] w (cells_blk h) (by simp)
  simpa using h
theorem iReg4 (x y z u : Int) (c b : Nat) (w : World) (h : Blk w b 3 #[.int .i64 x, .int .i64 y, .int .i64 z, .int .i64 u]) :
    Calls Try.prog 66 #[.slice (some ⟨b, 0, none⟩) 4 c] w fun e w' => e = .returned (.bool (regB x && (regB y && (regB z && regB u)))) ∧ w = w' := by
  have h := iIsReg (some ⟨b, 0, none⟩) c [x, y, z, u] w (cells_blk h) (by simp)
  simpa using h
theorem iIsBinary (o : Int) (w : World) : Calls Try.prog 67 #[.int .i64 o] w fun e w' => e = .returned (.bool (inB o 3 9)) ∧ w = w' := by
  go_enter Try.func67, Try.ntmps67
  go_wp2_with (go_at_call 55; refine (iWithin _ _ _ _).mono ?_; rintro e w' ⟨rfl, rfl⟩)
  go_ret
  exact ⟨rfl, rfl⟩
set_option maxRecDepth 100000 in
set_option maxHeartbeats 3200000 in
theorem iStmtOk (o d a b c n : Int) (w : World) :
    Calls Try.prog 39 #[.agg #[.int .i64 o, .int .i64 d, .int .i64 a, .int .i64 b, .int .i64 c, .int .i64 n]] w fun e w' => e = .returned (.bool (stmtB ⟨o, d, a, b, c, n⟩)) ∧ Below w.heap.size w w' := by
  by_cases h1 : o = 1
  · subst h1
    cases h1 : (a == 0); rotate_left
    cases h2 : (b == 0); rotate_left
    cases h3 : (c == 0); rotate_left
    cases h4 : regB d
    all_goals
      go_enter Try.func39, Try.ntmps39
      go_wp2_with (first | (go_at_call 66; refine (iReg1 d _ _ _ (by exact blkcBy)).mono ?_; rintro e w' ⟨rfl, rfl⟩) | (go_at_call 55; refine (iWithin _ _ _ _).mono ?_; rintro e w' ⟨rfl, rfl⟩))
      go_ret
      refine ⟨ret_bool (by rw [stmtB_1]; simp [*]), ?_⟩
      exact belBy
  by_cases h2 : o = 2
  · subst h2
    cases h1 : (b == 0); rotate_left
    cases h2 : (c == 0); rotate_left
    cases h3 : regB d; rotate_left
    cases h4 : inB a 0 4
    all_goals
      go_enter Try.func39, Try.ntmps39
      go_wp2_with (first | (go_at_call 66; refine (iReg1 d _ _ _ (by exact blkcBy)).mono ?_; rintro e w' ⟨rfl, rfl⟩) | (go_at_call 55; refine (iWithin _ _ _ _).mono ?_; rintro e w' ⟨rfl, rfl⟩))
      go_ret
      refine ⟨ret_bool (by rw [stmtB_2]; simp [*]), ?_⟩
      exact belBy
  cases h3 : inB o 3 9; rotate_left
  · have HS := hid (stmtB_3 d a b c n h3)
    have e1 : (o == 1) = false := by simpa using h1
    have e2 : (o == 2) = false := by simpa using h2
    have HB := hid (fun w => iIsBinary o w)
    rw [h3] at HB
    clear h1 h2 h3
    cases h1 : (c == 0); rotate_left
    cases h2 : (n == 0)
    all_goals
      go_enter Try.func39, Try.ntmps39
      go_wp2_with (first | (go_at_call 66; refine (iReg3 d a b _ _ _ (by exact blkcBy)).mono ?_; rintro e w' ⟨rfl, rfl⟩) | (go_at_call 67; refine (HB.out _).mono ?_; rintro e w' ⟨rfl, rfl⟩))
      go_ret
      refine ⟨ret_bool (by rw [HS.out]; simp [*]), ?_⟩
      exact belBy
  have HB := hid (fun w => iIsBinary o w)
  rw [h3] at HB
  by_cases h10 : o = 10
  · subst h10
    cases h1 : (n == 0)
    all_goals
      go_enter Try.func39, Try.ntmps39
      go_wp2_with (first | (go_at_call 66; refine (iReg4 d a b c _ _ _ (by exact blkcBy)).mono ?_; rintro e w' ⟨rfl, rfl⟩) | (go_at_call 67; refine (HB.out _).mono ?_; rintro e w' ⟨rfl, rfl⟩))
      go_ret
      refine ⟨ret_bool (by rw [stmtB_10]; simp [*]), ?_⟩
      exact belBy
  by_cases h11 : o = 11
  · subst h11
    cases h1 : (d == 0); rotate_left
    cases h2 : (b == 0); rotate_left
    cases h3 : (c == 0); rotate_left
    cases h4 : (n == 0)
    all_goals
      go_enter Try.func39, Try.ntmps39
      go_wp2_with (first | (go_at_call 66; refine (iReg1 a _ _ _ (by exact blkcBy)).mono ?_; rintro e w' ⟨rfl, rfl⟩) | (go_at_call 67; refine (HB.out _).mono ?_; rintro e w' ⟨rfl, rfl⟩))
      go_ret
      refine ⟨ret_bool (by rw [stmtB_11]; simp [*]), ?_⟩
      exact belBy
  by_cases h12 : o = 12
  · subst h12
    cases h1 : (d == 0); rotate_left
    cases h2 : (a == 0); rotate_left
    cases h3 : (b == 0); rotate_left
    cases h4 : (c == 0)
    all_goals
      go_enter Try.func39, Try.ntmps39
      go_wp2_with (first | (go_at_call 67; refine (HB.out _).mono ?_; rintro e w' ⟨rfl, rfl⟩) | (go_at_call 55; refine (iWithin _ _ _ _).mono ?_; rintro e w' ⟨rfl, rfl⟩))
      go_ret
      refine ⟨ret_bool (by rw [stmtB_12]; simp [*]), ?_⟩
      exact belBy
  have HS := hid (stmtB_13 d a b c n h1 h2 h3 h10 h11 h12)
  have e1 : (o == 1) = false := by simpa using h1
  have e2 : (o == 2) = false := by simpa using h2
  have e3 : (o == 10) = false := by simpa using h10
  have e4 : (o == 11) = false := by simpa using h11
  have e5 : (o == 12) = false := by simpa using h12
  clear h1 h2 h3 h10 h11 h12
  cases h1 : (o == 13); rotate_left
  cases h2 : (d == 0); rotate_left
  cases h3 : (a == 0); rotate_left
  cases h4 : (b == 0); rotate_left
  cases h5 : (c == 0); rotate_left
  cases h6 : (n == 0)
  all_goals
    go_enter Try.func39, Try.ntmps39
    go_wp2_with (go_at_call 67; refine (HB.out _).mono ?_; rintro e w' ⟨rfl, rfl⟩)
    go_ret
    refine ⟨ret_bool (by rw [HS.out]; simp [*]), ?_⟩
    exact belBy
end Go.Proofs.Ytihbaieiempjeaa
