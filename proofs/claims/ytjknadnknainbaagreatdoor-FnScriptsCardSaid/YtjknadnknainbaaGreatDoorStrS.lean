/- Rows of strings, as the laws write, read and compare them. -/
import Derived.Test.YtjknadnknainbaaGreatDoorSchedTxt
namespace Go.Proofs.YtjknadnknainbaaGreatDoor
open Go.RowKit

/-- The text that marks a place. -/
def mkT (k : Int) : List UInt8 := 109 :: Lib.decDigits k.toNat
def mkTs (k : Int) (n : Nat) : List (List UInt8) := (List.range n).map fun (j : Nat) => mkT (k + (j : Int))
theorem mkTs_length (k : Int) (n : Nat) : (mkTs k n).length = n := by simp [mkTs]
theorem mkTs_get (k : Int) (n j : Nat) (h : j < n) : (mkTs k n)[j]? = some (mkT (k + j)) := by simp [mkTs, h]
/-- The first j places written over. -/
def putTo (ys vs : List Value) (j : Nat) : List Value := ys.take j ++ vs.drop j
theorem putTo_zero (ys vs : List Value) : putTo ys vs 0 = vs := by simp [putTo]
theorem putTo_all {ys vs : List Value} (h : vs.length = ys.length) : putTo ys vs ys.length = ys := by
  unfold putTo
  rw [List.take_length, List.drop_of_length_le (by omega), List.append_nil]
theorem putTo_set {ys vs : List Value} {j : Nat} {y : Value} (hy : ys[j]? = some y) (h : vs.length = ys.length) : (putTo ys vs j).set j y = putTo ys vs (j + 1) := by
  have hj : j < ys.length := (List.getElem?_eq_some_iff.1 hy).1
  unfold putTo
  rw [List.take_add_one, hy]
  have hl : (ys.take j).length = j := by simp; omega
  have hd : vs.drop j = vs[j]'(by omega) :: vs.drop (j + 1) := List.drop_eq_getElem_cons (by omega)
  rw [hd, List.set_append_right _ _ (by omega), hl, Nat.sub_self, List.set_cons_zero]
  simp
theorem restD_mark {k : Nat} (h : k ≠ 0) : restD k [] = Lib.decDigits k := restD_start h
set_option linter.unusedVariables false in
set_option maxHeartbeats 1600000 in
theorem markText_any (k : Int) (w : World) (h0 : 1 ≤ k) (h1 : k ≤ 1000000000000) :
    Calls Tryz.prog 34 #[.int .i64 k] w fun e w' => e = .returned (.string ⟨(mkT k).toArray⟩) ∧ Below w.heap.size w w' := by
  have hdl : (Lib.decDigits k.toNat).length ≤ 21 := by
    have h := Lib.itoa_length_le k (by omega) (by omega)
    unfold Lib.itoa at h
    rwa [if_neg (by omega)] at h
  go_enter Tryz.func34, Tryz.ntmps34
  go_wp2_with fail
  go_loopw [0, 3] (fun x s wr => ∃ (a : Nat) (l : List UInt8), x = .int .i64 a ∧ s = .string ⟨l.toArray⟩ ∧ a ≤ 1000000000000 ∧ restD a l = Lib.decDigits k.toNat ∧ Below w.heap.size w wr) (fun x _ _ => (intOf x).natAbs)
  case atStart => exact ⟨k.toNat, [], by rw [Int.toNat_of_nonneg (by omega)], rfl, by omega, restD_start (by omega), Below.refl _ _⟩
  case round =>
    obtain ⟨a, l, rfl, rfl, ha1, hr, hb⟩ := hrel
    have hll := restD_length a l
    rw [hr] at hll
    have HR := hid hr
    have HB := hid hb
    clear hr hb
    by_cases hza : a = 0
    · subst hza
      have HL := hid (show l = Lib.decDigits k.toNat from HR.out)
      go_wp2
      go_ret
      exact ⟨by unfold mkT; rw [← HL.out]; exact congrArg (fun x => Ending.returned (.string x)) (ByteArray.mk_append_mk [109] l), HB.out⟩
    · have hp : (0 : Int) < (a : Int) := by omega
      have hm : ((a : Int).tmod 10) = ((a % 10 : Nat) : Int) := by rw [Int.tmod_eq_emod_of_nonneg (by omega)]; omega
      have hd : ((a : Int).tdiv 10) = ((a / 10 : Nat) : Int) := by rw [Int.tdiv_eq_ediv_of_nonneg (by omega)]; omega
      obtain ⟨f, hf⟩ : ∃ f : Int, f = ((a % 10 : Nat) : Int) := ⟨_, rfl⟩
      obtain ⟨q, hq⟩ : ∃ q : Nat, q = a / 10 := ⟨_, rfl⟩
      rw [← hf] at hm
      rw [← hq] at hd
      obtain ⟨u, hu⟩ : ∃ u, u = UInt8.ofNat (48 + a % 10) := ⟨_, rfl⟩
      have hf0 : 0 ≤ f := by omega
      have hf1 : f < 10 := by omega
      have hu1 : (u.toNat : Int) = 48 + f := by rw [hu, hf]; simp; omega
      have HU1 := hid hu1
      have HRL := hid (show restD q (u :: l) = Lib.decDigits k.toNat by rw [hq, hu, restD_step hza]; exact HR.out)
      have hq1 : q < a := by omega
      have hqb : q ≤ 1000000000000 := by omega
      have HM := hid hq1
      clear hu hu1 hf hq HR
      have hw1 : IntKind.i64.wrap f = f := IntWalk.i64_in _ (by omega)
      have hw2 : IntKind.i64.wrap (48 + f) = 48 + f := IntWalk.i64_in _ (by omega)
      have hw3 : IntKind.u8.wrap (48 + f) = 48 + f := by rw [IntKind.wrap_u8]; omega
      have hw4 : IntKind.i64.wrap (q : Int) = q := IntWalk.i64_in _ (by omega)
      have hcv : ∀ (W : World), (convert 22 9 (.slice (some ⟨W.heap.size, 0, none⟩) 1 1)).run Tryz.prog (W.alloc (.cells #[.int .u8 (48 + f)] 5)) = .ok (.string ⟨[u].toArray⟩) (W.alloc (.cells #[.int .u8 (48 + f)] 5)) := fun W =>
        run_convert_bytes_back _ _ _ 5 _ 1 [u] Tryz.underlying22 Tryz.underlying5 Tryz.underlying9 (fun j hj => by
          have hj0 : j = 0 := by simpa using hj
          subst hj0
          rw [one_new W (.int .u8 (48 + f)) 5 0 (.int .u8 (48 + f)) rfl]
          show some (Value.int .u8 (48 + f)) = some (.int .u8 (u.toNat : Int))
          rw [HU1.out])
      go_wp2
      go_roundw
      case rel => exact ⟨q, u :: l, rfl, congrArg Value.string (ByteArray.mk_append_mk [u] l), hqb, HRL.out, HB.out.alloc HB.out.size _⟩
      case measure => simp [intOf]; exact HM.out
theorem eqStringS_same (A B : Option Addr) (c d n : Nat) (ls : List (List UInt8)) (w : World) (hl : ls.length = n) (ha : Cells w w.heap.size A (strs ls)) (hc : Cells w w.heap.size B (strs ls)) (hn : n ≤ 1000000000) :
    Calls Tryz.prog 14 #[.slice A n c, .slice B n d] w fun e w' => e = .returned (.bool true) ∧ Below w.heap.size w w' := by
  go_enter Tryz.func14, Tryz.ntmps14
  go_wp2
  go_loopw [5] (fun i wr => ∃ k : Nat, k ≤ n ∧ i = .int .i64 k ∧ Below w.heap.size w wr) (fun i _ => n - (intOf i).toNat)
  case atStart => exact ⟨0, Nat.zero_le _, rfl, Below.refl _ _⟩
  case round =>
    obtain ⟨k, hk, rfl, hb⟩ := hrel
    by_cases hlt : k < n
    · obtain ⟨x, hx⟩ : ∃ x, ls[k]? = some x := ⟨_, List.getElem?_eq_getElem (by omega)⟩
      obtain ⟨b, off, rfl, hB, hcl⟩ := ha (by rw [strs_length]; omega)
      obtain ⟨b', off', rfl, hB', hcl'⟩ := hc (by rw [strs_length]; omega)
      have hcell : wr.cell? ⟨b, off + k, none⟩ = some (.string ⟨x.toArray⟩) := (hb.cell (p := ⟨b, off + k, none⟩) hB).trans (hcl k _ (strs_get hx))
      have hcell' : wr.cell? ⟨b', off' + k, none⟩ = some (.string ⟨x.toArray⟩) := (hb.cell (p := ⟨b', off' + k, none⟩) hB').trans (hcl' k _ (strs_get hx))
      have HB := hid hb
      have hlt' : (k : Int) < (n : Int) := by omega
      clear hcl hcl' ha hc hb hx
      go_wp2
      go_quiet (fail)
      go_wp2
      go_roundw
      case rel => exact ⟨k + 1, by omega, by go_num, ⟨HB.out.os, HB.out.tape, HB.out.output, HB.out.size, HB.out.block⟩⟩
      case measure => simp [intOf]; omega
    · obtain rfl : k = n := by omega
      go_wp2
      go_ret
      exact ⟨rfl, hb⟩
theorem heldStringS_any (A : Option Addr) (c n : Nat) (k : Int) (w : World) (ha : Cells w w.heap.size A (strs (mkTs k n))) (hn : n ≤ 1000000000) (h0 : 1 ≤ k) (h1 : k ≤ 10000000000) :
    Calls Tryz.prog 16 #[.slice A n c, .int .i64 k] w fun e w' => e = .returned (.int .i64 (k + n)) ∧ Below w.heap.size w w' := by
  go_enter Tryz.func16, Tryz.ntmps16
  go_wp2
  go_loopw [1, 5] (fun q i wr => ∃ j : Nat, j ≤ n ∧ i = .int .i64 j ∧ q = .int .i64 (k + j) ∧ Below w.heap.size w wr) (fun _ i _ => n - (intOf i).toNat)
  case atStart => exact ⟨0, Nat.zero_le _, rfl, by simp, Below.refl _ _⟩
  case round =>
    obtain ⟨j, hj, rfl, rfl, hb⟩ := hrel
    by_cases hlt : j < n
    · obtain ⟨b, off, rfl, hB, hcl⟩ := ha (by rw [strs_length, mkTs_length]; omega)
      have hcell : wr.cell? ⟨b, off + j, none⟩ = some (.string ⟨(mkT (k + j)).toArray⟩) := (hb.cell (p := ⟨b, off + j, none⟩) hB).trans (hcl j _ (strs_get (mkTs_get k n j hlt)))
      have hlt' : (j : Int) < (n : Int) := by omega
      have zb := hb.size
      have HB := hid hb
      obtain ⟨y, hy⟩ : ∃ y, y = k + (j : Int) := ⟨_, rfl⟩
      obtain ⟨m, hm⟩ : ∃ m, m = mkT (k + (j : Int)) := ⟨_, rfl⟩
      have HC := hid (fun w => markText_any (k + j) w (by omega) (by omega))
      rw [← hm] at hcell HC
      rw [← hy] at HC
      rw [← hy]
      have HY := hid hy
      have hyb : 1 ≤ y ∧ y ≤ 1000000000000 := by omega
      clear hcl ha hb hm hy
      go_wp2_with fail
      have q0 := fun (x : Later wr) => (x.below.cell (p := ⟨b, off + j, none⟩) (Nat.lt_of_lt_of_le hB zb)).trans hcell
      refine wp_region_later (by kernel_rfl) (by kernel_rfl) ?_
      repeat (go_big_quiet_step ((go_at_call 34; exact Calls.later (HC.out _))))
      refine wpQuiet_nil ?_
      rintro _ ⟨⟨w1, hb1⟩, rfl⟩
      try dsimp only
      clear q0 hcell
      go_wp2
      go_roundw
      case rel => exact ⟨j + 1, by omega, by go_num, by have := HY.out; go_num, HB.out.trans (hb1.mono zb)⟩
      case measure => simp [intOf]; omega
    · obtain rfl : j = n := by omega
      go_wp2
      go_ret
      exact ⟨rfl, hb⟩
theorem markStringS_any (base : Nat) (A : Option Addr) (c n : Nat) (vs : List Value) (k : Int) (w : World) (hown : w.ownsRow base 9 1 (.slice A n c) n vs) (hn : n ≤ 1000000000) (h0 : 1 ≤ k) (h1 : k ≤ 10000000000) :
    Calls Tryz.prog 15 #[.slice A n c, .int .i64 k] w fun e w' => e = .returned (.int .i64 (k + n)) ∧
      w'.ownsRow base 9 1 (.slice A n c) n (strs (mkTs k n)) ∧ w.grownBy w' (Value.slice A n c).ownBlock := by
  have hlen : vs.length = n := by simpa using hown.1
  rcases hown.2 with ⟨hv, rfl⟩ | ⟨g, cap, cur, hv, _⟩
  · injection hv with hA _ hcc
    subst hA hcc
    have HO := hid hown
    clear hown
    go_enter Tryz.func15, Tryz.ntmps15
    go_wp2
    refine wp_loop_rounds 1 ?_
    rw [rounds_succ]
    go_wp2
    go_ret
    exact ⟨by simp, by simpa [mkTs, strs] using World.ownsRow_nil _ _ _ _, World.grownBy.refl _ _⟩
  · injection hv with hA _ hcc
    subst hA hcc
    have hel : (strs (mkTs k n)).length = n := by rw [strs_length, mkTs_length]
    go_enter Tryz.func15, Tryz.ntmps15
    go_wp2
    go_loopw [1, 5] (fun q i wr => ∃ j : Nat, j ≤ n ∧ i = .int .i64 j ∧ q = .int .i64 (k + j) ∧ wr.ownsRow base 9 1 (.slice (some ⟨g, 0, none⟩) n c) n (putTo (strs (mkTs k n)) vs j) ∧ w.grownBy wr (some g)) (fun _ i _ => n - (intOf i).toNat)
    case atStart => exact ⟨0, Nat.zero_le _, rfl, by simp, by rw [putTo_zero]; exact hown, World.grownBy.refl _ _⟩
    case round =>
      obtain ⟨j, hj, rfl, rfl, how, hg⟩ := hrel
      by_cases hlt : j < n
      · have hlt' : (j : Int) < (n : Int) := by omega
        obtain ⟨y, hy⟩ : ∃ y, y = k + (j : Int) := ⟨_, rfl⟩
        have hget : (strs (mkTs k n))[j]? = some (.string ⟨(mkT (k + (j : Int))).toArray⟩) := strs_get (mkTs_get k n j hlt)
        obtain ⟨m, hm⟩ : ∃ m, m = mkT (k + (j : Int)) := ⟨_, rfl⟩
        have HC := hid (fun w => markText_any (k + j) w (by omega) (by omega))
        rw [← hm] at hget HC
        rw [← hy] at HC
        rw [← hy]
        have HY := hid hy
        have HGT := hid hget
        have HOW := hid how
        have HG := hid hg
        have hyb : 1 ≤ y ∧ y ≤ 1000000000000 := by omega
        clear hm hy hget how hg hown
        go_wp2_with fail
        refine (HC.out _).mono ?_
        rintro e w1 ⟨rfl, hb1⟩
        have how1 := own_below HOW.out hb1
        have hg1 := grown_below HG.out hb1
        have hold : ∃ u, w1.cell? ⟨g, j, none⟩ = some u := by
          rw [how1.cellAt j (by omega)]
          have := how1.1
          exact ⟨_, List.getElem?_eq_getElem (by omega)⟩
        obtain ⟨u, hu⟩ := hold
        have hfr := how1.frozenAt j
        have hst := how1.stored j (.string ⟨m.toArray⟩)
        rw [putTo_set HGT.out (by rw [hel]; exact hlen)] at hst
        have hst2 : w.grownBy (w1.setCell ⟨g, j, none⟩ (.string ⟨m.toArray⟩)) (some g) :=
          ⟨hst.2.os.trans hg1.os, hst.2.tape.trans hg1.tape, hst.2.output.trans hg1.output, Nat.le_trans hg1.size hst.2.size, fun i hi hne => (hst.2.block i (Nat.lt_of_lt_of_le hi hg1.size) hne).trans (hg1.block i hi hne)⟩
        have HS := hid hst
        have HG2 := hid hst2
        clear hst hst2 how1 hg1 hb1
        go_wp2
        go_roundw
        case rel => exact ⟨j + 1, by omega, by go_num, by have := HY.out; go_num, HS.out.1, HG2.out⟩
        case measure => simp [intOf]; omega
      · obtain rfl : j = n := by omega
        have hall := putTo_all (ys := strs (mkTs k j)) (vs := vs) (by rw [hel]; exact hlen)
        rw [hel] at hall
        rw [hall] at how
        go_wp2
        go_ret
        exact ⟨rfl, how, hg⟩
end Go.Proofs.YtjknadnknainbaaGreatDoor
