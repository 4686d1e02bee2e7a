/- Whether circuits are valid: in the program and in the reference. -/
import Derived.Test.YtihbaieiempjeaaBy
import Derived.Test.YtihbaieiempjeaaGates
namespace Go.Proofs.Ytihbaieiempjeaa
open Go.RowKit

theorem gt_cells {w wr : World} {B : Nat} {A : Option Addr} {L : List Gt} (h : Cells w B A (ints (flatG L))) (hb : Below B w wr) {j : Nat} {k x y : Int} (hj : L[j]? = some ⟨k, x, y⟩) :
    ∃ b off, A = some ⟨b, off, none⟩ ∧ b < B ∧ wr.cell? ⟨b, off + j * 3, none⟩ = some (.int .i64 k) ∧ wr.cell? ⟨b, off + j * 3 + 1, none⟩ = some (.int .i64 x) ∧ wr.cell? ⟨b, off + j * 3 + 2, none⟩ = some (.int .i64 y) := by
  have hl := (List.getElem?_eq_some_iff.1 hj).1
  obtain ⟨b, off, rfl, hB, hc⟩ := h (by rw [ints_length, flatG_length]; omega)
  have g := fun (t : Nat) (v : Int) (hx : (threeG ⟨k, x, y⟩)[t]? = some v) => (hb.cell (p := ⟨b, off + (j * 3 + t), none⟩) hB).trans (hc (j * 3 + t) _ (ints_get (flatG_at hj t v hx)))
  exact ⟨b, off, rfl, hB, g 0 _ rfl, g 1 _ rfl, g 2 _ rfl⟩
theorem int_cells {w wr : World} {B : Nat} {A : Option Addr} {L : List Int} (h : Cells w B A (ints L)) (hb : Below B w wr) {j : Nat} {x : Int} (hj : L[j]? = some x) :
    ∃ b off, A = some ⟨b, off, none⟩ ∧ b < B ∧ wr.cell? ⟨b, off + j, none⟩ = some (.int .i64 x) := by
  have hl := (List.getElem?_eq_some_iff.1 hj).1
  obtain ⟨b, off, rfl, hB, hc⟩ := h (by rw [ints_length]; omega)
  exact ⟨b, off, rfl, hB, (hb.cell (p := ⟨b, off + j, none⟩) hB).trans (hc j _ (ints_get hj))⟩
theorem gates_at {L : List Gt} {j : Nat} {g : Gt} (h : L[j]? = some g) : gatesB j (L.drop j) = (gateB g j && gatesB (j + 1) (L.drop (j + 1))) := by
  rw [drop_st h, gatesB]
theorem outs_at {n : Nat} {L : List Int} {j : Nat} {x : Int} (h : L[j]? = some x) : outsB n (L.drop j) = (wireB n x && outsB n (L.drop (j + 1))) := by
  rw [drop_st h]
  rfl
theorem circ_g {gs : List Gt} {os : List Int} (h : gatesB 0 gs = false) : circB gs os = false := by unfold circB; rw [h, Bool.false_and, Bool.and_false]
theorem circ_o {gs : List Gt} {os : List Int} (h : outsB gs.length os = false) : circB gs os = false := by unfold circB; rw [h, Bool.and_false, Bool.and_false]
set_option linter.unusedVariables false in
set_option maxRecDepth 100000 in
set_option maxHeartbeats 3200000 in
theorem iCircOk (G O : Option Addr) (cg co : Nat) (gs : List Gt) (os : List Int) (w : World) (hg : Cells w w.heap.size G (ints (flatG gs))) (ho : Cells w w.heap.size O (ints os)) (hn : gs.length ≤ 1000000) (hm : os.length ≤ 1000000) :
    Calls Try.prog 28 #[.agg #[.slice G gs.length cg, .slice O os.length co]] w fun e w' => e = .returned (.bool (circB gs os)) ∧ Below w.heap.size w w' := by
  by_cases h6 : 6000 < gs.length
  · have h6' : (6000 : Int) < (gs.length : Int) := by omega
    have HP := hid (show circB gs os = false by unfold circB; rw [decide_eq_false (by omega)]; rfl)
    clear hg ho
    go_enter Try.func28, Try.ntmps28
    go_wp2
    go_ret
    exact ⟨by rw [HP.out]; rfl, by exact belBy⟩
  have h6' : ¬ (6000 : Int) < (gs.length : Int) := by omega
  have HG := hid hg
  have HO := hid ho
  clear hg ho
  go_enter Try.func28, Try.ntmps28
  have b_0 := (Below.refl w.heap.size w)
  have s_0 := b_0.size
  go_upto_region 1 with fail
  refine wp_forget1 (w0 := w) (B := w.heap.size) (b0 := w.heap.size) (t0 := 27) (c0 := #[.slice G gs.length cg, .slice O os.length co]) ?_ ?_ ?_
  (focus exact blkcBy)
  (focus (exact belBy))
  intro w1 x_1 hX1
  have sX1 := hX1.size
  have x_lt := x_1.lt
  have b_1 := b_0.trans (hX1.mono (by omega))
  clear b_0 hX1
  have cell_x := x_1.cell
  have froz_x := x_1.frozen
  have lt_x := x_1.lt
  have X1 := hid x_1
  have B1 := hid b_1
  clear x_1 b_1 froz_x lt_x
  go_wp2
  clear cell_x
  go_loopw [3, 4, 14] (fun _ _ i wr => ∃ (j : Nat), j ≤ gs.length ∧ i = .int .i64 j ∧ gatesB 0 gs = gatesB j (gs.drop j) ∧ Blk wr w.heap.size 27 #[.slice G gs.length cg, .slice O os.length co] ∧ Below w.heap.size w wr) (fun _ _ i _ => gs.length - (intOf i).toNat)
  case atStart => exact ⟨0, Nat.zero_le _, rfl, rfl, X1.out, B1.out⟩
  case round =>
    obtain ⟨j, hj, rfl, hsc, hx, hb⟩ := hrel
    have zb := hb.size
    by_cases hlt : j < gs.length
    · obtain ⟨⟨k, a, e⟩, hq⟩ : ∃ s, gs[j]? = some s := ⟨_, List.getElem?_eq_getElem hlt⟩
      obtain ⟨b, off, rfl, hB, d0, d1, d2⟩ := gt_cells HG.out hb hq
      have hs2 := gates_at hq
      have hlt' : (j : Int) < (gs.length : Int) := by omega
      have HS := hid (fun w => iGateOk k a e j w)
      obtain ⟨v, hv⟩ : ∃ v, gateB ⟨k, a, e⟩ (j : Int) = v := ⟨_, rfl⟩
      rw [hv] at HS hs2
      have HSC := hid (hsc.trans hs2)
      clear hq hsc hs2 hv
      have b_30 := hb
      have s_30 := b_30.size
      have x_30 := hx
      clear hx
      have x_lt := x_30.lt
      have cell_x := x_30.cell
      have froz_x := x_30.frozen
      have lt_x := x_30.lt
      go_upto_region 6 with fail
      refine wp_forget1 (w0 := wr) (B := wr.heap.size) (b0 := wr.heap.size) (t0 := 70) (c0 := #[.int .i64 k, .int .i64 a, .int .i64 e]) ?_ ?_ ?_
      (focus exact blkcBy)
      (focus (exact belBy))
      intro w31 y_31 hX31
      have sX31 := hX31.size
      have y_lt := y_31.lt
      have b_31 := b_30.trans (hX31.mono (by omega))
      have x_31 := Blk.past hX31 x_30
      clear x_30 b_30 cell_x froz_x lt_x hX31
      have cell_x := x_31.cell
      have froz_x := x_31.frozen
      have lt_x := x_31.lt
      have cell_y := y_31.cell
      have froz_y := y_31.frozen
      have lt_y := y_31.lt
      go_wp2_with fail
      refine calls_forget0 (W := w31) ?_ ?_
      (focus (exact belBy))
      intro X32 hX32
      have sX32 := hX32.size
      refine (HS.out _).mono ?_
      rintro e w32 ⟨rfl, hb32⟩
      have s32 := hb32.size
      have hT32 := hX32.trans (hb32.mono sX32)
      have b_32 := b_31.trans (hT32.mono (by omega))
      have x_32 := Blk.past hT32 x_31
      have y_32 := Blk.past hT32 y_31
      clear x_31 y_31 b_31 cell_x froz_x lt_x cell_y froz_y lt_y hX32 hT32 hb32
      have cell_x := x_32.cell
      have froz_x := x_32.frozen
      have lt_x := x_32.lt
      have cell_y := y_32.cell
      have froz_y := y_32.frozen
      have lt_y := y_32.lt
      have HB := hid b_32
      have HX := hid x_32
      clear b_32 x_32 y_32 d0 d1 d2
      cases v
      · have HP := hid (circ_g (os := os) (HSC.out.trans (Bool.false_and _)))
        go_wp2
        go_ret
        exact ⟨by rw [HP.out]; rfl, HB.out⟩
      · go_wp2
        go_roundw
        case rel => exact ⟨j + 1, by omega, by go_num, HSC.out.trans (Bool.true_and _), HX.out, HB.out⟩
        case measure => simp [intOf]; omega
    · obtain rfl : j = gs.length := by omega
      rw [List.drop_length] at hsc
      have HGG := hid hsc
      have HX := hid hx
      have HB := hid hb
      have cell_x := hx.cell
      have lt_x := hx.lt
      clear hsc hx hb X1 B1
      go_wp2
      clear cell_x lt_x
      go_loopw [6, 27] (fun _ i wx => ∃ (j : Nat), j ≤ os.length ∧ i = .int .i64 j ∧ outsB gs.length os = outsB gs.length (os.drop j) ∧ Blk wx w.heap.size 27 #[.slice G gs.length cg, .slice O os.length co] ∧ Below w.heap.size w wx) (fun _ i _ => os.length - (intOf i).toNat)
      case atStart => exact ⟨0, Nat.zero_le _, rfl, rfl, HX.out, HB.out⟩
      case round =>
        obtain ⟨j, hj, rfl, hsc, hx, hb⟩ := hrel
        have cell_x := hx.cell
        have lt_x := hx.lt
        have HX := hid hx
        by_cases hlt : j < os.length
        · obtain ⟨x, hq⟩ : ∃ s, os[j]? = some s := ⟨_, List.getElem?_eq_getElem hlt⟩
          obtain ⟨b, off, rfl, hB, d0⟩ := int_cells HO.out hb hq
          have hs2 := outs_at (n := gs.length) hq
          have hlt' : (j : Int) < (os.length : Int) := by omega
          have HS := hid (fun w => iWithin x 0 ((gs.length : Int) - 1) w)
          have hw : IntKind.i64.wrap ((gs.length : Int) - 1) = (gs.length : Int) - 1 := IntWalk.i64_in _ (by omega)
          obtain ⟨v, hv⟩ : ∃ v, inB x 0 ((gs.length : Int) - 1) = v := ⟨_, rfl⟩
          have hv2 : wireB gs.length x = v := hv
          rw [hv] at HS
          rw [hv2] at hs2
          have HSC := hid (hsc.trans hs2)
          have HB := hid hb
          clear hq hsc hs2 hv hv2 hx hb
          cases v
          · have HP := hid (circ_o (HSC.out.trans (Bool.false_and _)))
            go_wp2_with (go_at_call 55; refine (HS.out _).mono ?_; rintro e w' ⟨rfl, rfl⟩)
            go_ret
            exact ⟨by rw [HP.out]; rfl, HB.out⟩
          · go_wp2_with (go_at_call 55; refine (HS.out _).mono ?_; rintro e w' ⟨rfl, rfl⟩)
            go_roundw
            case rel => exact ⟨j + 1, by omega, by go_num, HSC.out.trans (Bool.true_and _), HX.out, HB.out⟩
            case measure => simp [intOf]; omega
        · obtain rfl : j = os.length := by omega
          rw [List.drop_length] at hsc
          have HP := hid (show circB gs os = true by unfold circB; rw [HGG.out, hsc, decide_eq_true (by omega)]; rfl)
          have HB := hid hb
          clear hsc hx hb
          go_wp2
          go_ret
          exact ⟨by rw [HP.out]; rfl, HB.out⟩
set_option linter.unusedVariables false in
set_option maxRecDepth 100000 in
set_option maxHeartbeats 3200000 in
theorem sCircOk (G O : Option Addr) (cg co : Nat) (gs : List Gt) (os : List Int) (w : World) (hg : Cells w w.heap.size G (ints (flatG gs))) (ho : Cells w w.heap.size O (ints os)) (hn : gs.length ≤ 1000000) (hm : os.length ≤ 1000000) :
    Calls Try.prog 30 #[.agg #[.slice G gs.length cg, .slice O os.length co]] w fun e w' => e = .returned (.bool (circB gs os)) ∧ Below w.heap.size w w' := by
  have HG := hid hg
  have HO := hid ho
  clear hg ho
  go_enter Try.func30, Try.ntmps30
  have b_0 := (Below.refl w.heap.size w)
  have s_0 := b_0.size
  go_upto_region 1 with fail
  refine wp_forget1 (w0 := w) (B := w.heap.size) (b0 := w.heap.size) (t0 := 27) (c0 := #[.slice G gs.length cg, .slice O os.length co]) ?_ ?_ ?_
  (focus exact blkcBy)
  (focus (exact belBy))
  intro w1 x_1 hX1
  have sX1 := hX1.size
  have x_lt := x_1.lt
  have b_1 := b_0.trans (hX1.mono (by omega))
  clear b_0 hX1
  have cell_x := x_1.cell
  have froz_x := x_1.frozen
  have lt_x := x_1.lt
  have X1 := hid x_1
  have B1 := hid b_1
  clear x_1 b_1 froz_x lt_x
  go_wp2
  clear cell_x
  go_loopw [3] (fun i wr => ∃ (j : Nat), j ≤ gs.length ∧ i = .int .i64 j ∧ gatesB 0 gs = gatesB j (gs.drop j) ∧ Blk wr w.heap.size 27 #[.slice G gs.length cg, .slice O os.length co] ∧ Below w.heap.size w wr) (fun i _ => gs.length - (intOf i).toNat)
  case atStart => exact ⟨0, Nat.zero_le _, rfl, rfl, X1.out, B1.out⟩
  case round =>
    obtain ⟨j, hj, rfl, hsc, hx, hb⟩ := hrel
    have zb := hb.size
    by_cases hlt : j < gs.length
    · obtain ⟨⟨k, a, e⟩, hq⟩ : ∃ s, gs[j]? = some s := ⟨_, List.getElem?_eq_getElem hlt⟩
      obtain ⟨b, off, rfl, hB, d0, d1, d2⟩ := gt_cells HG.out hb hq
      have hs2 := gates_at hq
      have hlt' : (j : Int) < (gs.length : Int) := by omega
      have HS := hid (fun w => sGateOk k a e j w)
      obtain ⟨v, hv⟩ : ∃ v, gateB ⟨k, a, e⟩ (j : Int) = v := ⟨_, rfl⟩
      rw [hv] at HS hs2
      have HSC := hid (hsc.trans hs2)
      clear hq hsc hs2 hv
      have b_30 := hb
      have s_30 := b_30.size
      have x_30 := hx
      clear hx
      have x_lt := x_30.lt
      have cell_x := x_30.cell
      have froz_x := x_30.frozen
      have lt_x := x_30.lt
      go_wp2_with fail
      refine calls_forget0 (W := wr) ?_ ?_
      (focus (exact belBy))
      intro X31 hX31
      have sX31 := hX31.size
      refine (HS.out _).mono ?_
      rintro e w31 ⟨rfl, hb31⟩
      have s31 := hb31.size
      have hT31 := hX31.trans (hb31.mono sX31)
      have b_31 := b_30.trans (hT31.mono (by omega))
      have x_31 := Blk.past hT31 x_30
      clear x_30 b_30 cell_x froz_x lt_x hX31 hT31 hb31
      have cell_x := x_31.cell
      have froz_x := x_31.frozen
      have lt_x := x_31.lt
      have HB := hid b_31
      have HX := hid x_31
      clear b_31 x_31 d0 d1 d2
      cases v
      · have HP := hid (circ_g (os := os) (HSC.out.trans (Bool.false_and _)))
        go_wp2
        go_ret
        exact ⟨by rw [HP.out]; rfl, HB.out⟩
      · go_wp2
        go_roundw
        case rel => exact ⟨j + 1, by omega, by go_num, HSC.out.trans (Bool.true_and _), HX.out, HB.out⟩
        case measure => simp [intOf]; omega
    · obtain rfl : j = gs.length := by omega
      rw [List.drop_length] at hsc
      have HGG := hid hsc
      have HX := hid hx
      have HB := hid hb
      have cell_x := hx.cell
      have lt_x := hx.lt
      clear hsc hx hb X1 B1
      go_wp2
      clear cell_x lt_x
      go_loopw [4] (fun i wx => ∃ (j : Nat), j ≤ os.length ∧ i = .int .i64 j ∧ outsB gs.length os = outsB gs.length (os.drop j) ∧ Blk wx w.heap.size 27 #[.slice G gs.length cg, .slice O os.length co] ∧ Below w.heap.size w wx) (fun i _ => os.length - (intOf i).toNat)
      case atStart => exact ⟨0, Nat.zero_le _, rfl, rfl, HX.out, HB.out⟩
      case round =>
        obtain ⟨j, hj, rfl, hsc, hx, hb⟩ := hrel
        have cell_x := hx.cell
        have lt_x := hx.lt
        have HX := hid hx
        by_cases hlt : j < os.length
        · obtain ⟨x, hq⟩ : ∃ s, os[j]? = some s := ⟨_, List.getElem?_eq_getElem hlt⟩
          obtain ⟨b, off, rfl, hB, d0⟩ := int_cells HO.out hb hq
          have hs2 := outs_at (n := gs.length) hq
          have hlt' : (j : Int) < (os.length : Int) := by omega
          have HS := hid (fun w => sWithin x 0 ((gs.length : Int) - 1) w)
          have hw : IntKind.i64.wrap ((gs.length : Int) - 1) = (gs.length : Int) - 1 := IntWalk.i64_in _ (by omega)
          obtain ⟨v, hv⟩ : ∃ v, inB x 0 ((gs.length : Int) - 1) = v := ⟨_, rfl⟩
          have hv2 : wireB gs.length x = v := hv
          rw [hv] at HS
          rw [hv2] at hs2
          have HSC := hid (hsc.trans hs2)
          have HB := hid hb
          clear hq hsc hs2 hv hv2 hx hb
          have zb := HB.out.size
          have hbz : b < wr.heap.size := by omega
          have q0 := fun (x : Later wr) (o : Nat) => (HX.out.below x.below HX.out.lt).cell o
          have q1 := fun (x : Later wr) => (x.below.cell (p := ⟨b, off + j, none⟩) hbz).trans d0
          go_wp2_with fail
          refine wp_region_later (by kernel_rfl) (by kernel_rfl) ?_
          repeat (go_big_quiet_step ((go_at_call 57; exact Calls.later_same (HS.out _))))
          refine wpQuiet_nil ?_
          rintro _ ⟨⟨w1, hb1⟩, rfl⟩
          try dsimp only
          have HX1 := hid (HX.out.below hb1 HX.out.lt)
          have HB1 := hid (HB.out.trans (hb1.mono zb))
          clear q0 q1 hb1
          cases v
          · have HP := hid (circ_o (HSC.out.trans (Bool.false_and _)))
            go_wp2
            go_ret
            exact ⟨by rw [HP.out]; rfl, HB1.out⟩
          · go_wp2
            go_roundw
            case rel => exact ⟨j + 1, by omega, by go_num, HSC.out.trans (Bool.true_and _), HX1.out, HB1.out⟩
            case measure => simp [intOf]; omega
        · obtain rfl : j = os.length := by omega
          rw [List.drop_length] at hsc
          have HP := hid (show circB gs os = decide (gs.length ≤ 6000) by unfold circB; rw [HGG.out, hsc]; simp [gatesB, outsB])
          have HB := hid hb
          clear hsc hx hb
          by_cases h6 : gs.length ≤ 6000
          · have h6' : (gs.length : Int) ≤ 6000 := by omega
            go_wp2
            go_ret
            exact ⟨by rw [HP.out, decide_eq_true h6]; rfl, HB.out⟩
          · have h6' : ¬ (gs.length : Int) ≤ 6000 := by omega
            go_wp2
            go_ret
            exact ⟨by rw [HP.out, decide_eq_false h6]; rfl, HB.out⟩
end Go.Proofs.Ytihbaieiempjeaa
