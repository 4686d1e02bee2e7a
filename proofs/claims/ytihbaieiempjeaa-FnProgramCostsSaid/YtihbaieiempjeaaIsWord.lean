/- Whether wires are words of a circuit, in the program. -/
import Derived.Test.YtihbaieiempjeaaBy
import Derived.Test.YtihbaieiempjeaaCopyC
namespace Go.Proofs.Ytihbaieiempjeaa
open Go.RowKit

theorem circ_yes {gs : List Gt} (h : gatesB 0 gs = true) (hl : gs.length ≤ 5900) : circB gs [] = true := by
  unfold circB
  rw [h, decide_eq_true (by omega)]
  rfl
/-- A slice of words: each of four wires of a circuit of n gates. -/
def WordsOk (w : World) (n : Nat) (vals : List Value) : Prop := ∀ (j : Nat) (v : Value), vals[j]? = some v → ∃ b off c xs, v = Value.slice (some ⟨b, off, none⟩) 4 c ∧ Wd w (some ⟨b, off, none⟩) xs ∧ wordB4 n xs = true
theorem wordB4_at {n : Nat} {xs : List Int} (h : wordB4 n xs = true) : xs.length = 4 ∧ ∀ {i : Nat} {x : Int}, xs[i]? = some x → inB x 0 ((n : Int) - 1) = true := by
  unfold wordB4 at h
  rw [Bool.and_eq_true, decide_eq_true_eq] at h
  refine ⟨h.1, fun {i x} hx => ?_⟩
  exact List.all_eq_true.1 h.2 x (List.mem_of_getElem? hx)
set_option linter.unusedVariables false in
set_option maxRecDepth 100000 in
set_option maxHeartbeats 3200000 in
theorem iIsWordOf (G O W : Option Addr) (cg co cw nw : Nat) (gs : List Gt) (vals : List Value) (w : World) (hg : Cells w w.heap.size G (ints (flatG gs))) (hok : gatesB 0 gs = true) (hl : gs.length ≤ 5900) (hv : vals.length = nw) (hc : Cells w w.heap.size W vals) (hw : WordsOk w gs.length vals) (hn : nw ≤ 1000) :
    Calls Try.prog 104 #[.agg #[.slice G gs.length cg, .slice O 0 co], .slice W nw cw] w fun e w' => e = .returned (.bool true) ∧ Below w.heap.size w w' := by
  have HG := hid hg
  have HC := hid hc
  have HW := hid hw
  have HCO := hid (fun w hg => iCircOk G O cg co gs [] w hg Cells.nil_ (by omega) (by simp))
  rw [circ_yes hok hl] at HCO
  clear hg hc hw
  go_enter Try.func104, Try.ntmps104
  have b_0 := (Below.refl w.heap.size w)
  have s_0 := b_0.size
  go_upto_region 1 with fail
  refine wp_forget1 (w0 := w) (B := w.heap.size) (b0 := w.heap.size) (t0 := 27) (c0 := #[.slice G gs.length cg, .slice O 0 co]) ?_ ?_ ?_
  (focus exact blkcBy)
  (focus (exact belBy))
  intro w1 x_1 hX1
  have sX1 := hX1.size
  have x_lt := x_1.lt
  have b_1 := b_0.trans (hX1.mono (by omega))
  clear b_0 hX1
  have cell_x := x_1.cell
  have froz_x := x_1.frozen
  have lt_x := x_1.lt
  have X1 := hid x_1
  have B1 := hid b_1
  clear x_1 b_1 froz_x lt_x cell_x
  go_wp2
  go_loopw [6, 8, 11, 17] (fun _ _ i _ wr => ∃ (j : Nat), j ≤ nw ∧ i = .int .i64 j ∧ Blk wr w.heap.size 27 #[.slice G gs.length cg, .slice O 0 co] ∧ Below w.heap.size w wr) (fun _ _ i _ _ => nw - (intOf i).toNat)
  case atStart => exact ⟨0, Nat.zero_le _, rfl, X1.out, B1.out⟩
  case round =>
    obtain ⟨j, hj, rfl, hx, hb⟩ := hrel
    have zb := hb.size
    have HX := hid hx
    have HB := hid hb
    by_cases hlt : j < nw
    · obtain ⟨v, hq⟩ : ∃ s, vals[j]? = some s := ⟨_, List.getElem?_eq_getElem (by omega)⟩
      obtain ⟨bw, ow, rfl, hB, hcl⟩ := HC.out (by omega)
      obtain ⟨b, off, c, xs, rfl, hxs, hwx⟩ := HW.out j v hq
      have d0 : wr.cell? ⟨bw, ow + j, none⟩ = some (.slice (some ⟨b, off, none⟩) 4 c) := (hb.cell (p := ⟨bw, ow + j, none⟩) hB).trans (hcl j _ hq)
      have hlt' : (j : Int) < (nw : Int) := by omega
      obtain ⟨hx4, hxw⟩ := wordB4_at hwx
      have HXS := hid hxs
      have HXW := hid (fun (i : Nat) (x : Int) (h : xs[i]? = some x) => hxw h)
      clear hcl hq hx hb hwx hxw hxs
      go_wp2
      clear d0
      go_loopw [8, 17] (fun _ i wx => ∃ (k : Nat), k ≤ 4 ∧ i = .int .i64 k ∧ Blk wx w.heap.size 27 #[.slice G gs.length cg, .slice O 0 co] ∧ Below w.heap.size w wx) (fun _ i _ => 4 - (intOf i).toNat)
      case atStart => exact ⟨0, Nat.zero_le _, rfl, HX.out, HB.out⟩
      case round =>
        obtain ⟨k, hk, rfl, hx, hb⟩ := hrel
        have cell_x := hx.cell
        have lt_x := hx.lt
        have HX2 := hid hx
        have HB2 := hid hb
        by_cases hlk : k < 4
        · obtain ⟨x, hq⟩ : ∃ s, xs[k]? = some s := ⟨_, List.getElem?_eq_getElem (by omega)⟩
          have d0 : wr.cell? ⟨b, off + k, none⟩ = some (.int .i64 x) := (hb.cell (p := ⟨b, off + k, none⟩) HXS.out.lt).trans (HXS.out.cell hq)
          have hlk' : (k : Int) < 4 := by omega
          have hwr : IntKind.i64.wrap ((gs.length : Int) - 1) = (gs.length : Int) - 1 := IntWalk.i64_in _ (by omega)
          have HI := hid (fun w => iWithin x 0 ((gs.length : Int) - 1) w)
          rw [HXW.out k x hq] at HI
          clear hq hx hb
          go_wp2_with (go_at_call 55; refine (HI.out _).mono ?_; rintro e w' ⟨rfl, rfl⟩)
          go_roundw
          case rel => exact ⟨k + 1, by omega, by go_num, HX2.out, HB2.out⟩
          case measure => simp [intOf]; omega
        · obtain rfl : k = 4 := by omega
          clear hx hb cell_x lt_x
          go_wp2
          go_roundw
          case rel => exact ⟨j + 1, by omega, by go_num, HX2.out, HB2.out⟩
          case measure => simp [intOf]; omega
    · obtain rfl : j = nw := by omega
      have cell_x := hx.cell
      have lt_x := hx.lt
      have hl' : (gs.length : Int) ≤ 5900 := by omega
      clear hx hb cell_x lt_x
      have hx := HX.out
      have hb := HB.out
      have b_40 := hb
      have s_40 := b_40.size
      have x_40 := hx
      clear hx
      have x_lt := x_40.lt
      have cell_x := x_40.cell
      have froz_x := x_40.frozen
      have lt_x := x_40.lt
      go_wp2_with fail
      refine calls_forget0 (W := wr) ?_ ?_
      (focus (exact belBy))
      intro X41 hX41
      have sX41 := hX41.size
      refine (HCO.out _ ((HG.out.below (b_40.trans (hX41.mono (by omega)))).more (by have := hX41.size; omega))).mono ?_
      rintro e w41 ⟨rfl, hb41⟩
      have s41 := hb41.size
      have hT41 := hX41.trans (hb41.mono sX41)
      have b_41 := b_40.trans (hT41.mono (by omega))
      have x_41 := Blk.past hT41 x_40
      clear x_40 b_40 cell_x froz_x lt_x hX41 hT41 hb41
      have cell_x := x_41.cell
      have froz_x := x_41.frozen
      have lt_x := x_41.lt
      have HB41 := hid b_41
      clear b_41 x_41
      go_wp2
      go_ret
      exact ⟨rfl, HB41.out⟩
end Go.Proofs.Ytihbaieiempjeaa
