/- Running a script of drawn acts gives their numbers and the report (FnScripts): the tied card. No conditions. -/
import Derived.Test.YtjknadnknainbaaGreatDoorMem
import Derived.Test.YtjknadnknainbaaGreatDoorScrI
import Derived.Test.YtjknadnknainbaaGreatDoorScrT
import Derived.Test.YtjknadnknainbaaGreatDoorStrS
import Derived.Test.YtjknadnknainbaaGreatDoorEnvOf
set_option linter.unusedVariables false
namespace Go.Proofs.YtjknadnknainbaaGreatDoor
open Go.RowKit Go.ChangeShapes Go.WideShapes Go.ChangeAt

namespace scripts
theorem getD_of {xs : List Int} {k : Nat} {x : Int} (h : xs[k]? = some x) : xs.getD k 0 = x := by
  rw [List.getD_eq_getElem?_getD, h]
  rfl
theorem big_no (A : Option Addr) (n c : Nat) (w : World) (hn : n ≤ 9223372036854775807) (h : (n : Int) ≤ 1048576) : Calls Tryz.prog 5 #[.slice A n c] w fun e w' => e = .returned (.bool false) ∧ w = w' := by
  refine (big_any A n c w hn).mono fun e w' ⟨he, hw⟩ => ⟨?_, hw⟩
  rw [he, decide_eq_false (by omega)]
theorem text_step (xs : List Int) (n : Nat) {x0 x1 x2 x3 : Int} (f0 : xs.getD (n * 4) 0 = x0) (f1 : xs.getD (n * 4 + 1) 0 = x1) (f2 : xs.getD (n * 4 + 2) 0 = x2) (f3 : xs.getD (n * 4 + 3) 0 = x3) :
    textTo xs (n + 1) = textTo xs n ++ actTxt x0 x1 x2 x3 ++ [10] := by
  subst f0 f1 f2 f3
  rfl
/-- RunScript on the text of drawn acts; with a word behind it. -/
theorem run_yes (z : Int) (t : List UInt8) (w : World) (R : List (List UInt8)) (N : Nat) (hl : t.length ≤ 20000) (hok : scOk z t = true) (hr : scRes z t = R) (hn : R.length = N) (he : Env w) :
    Calls Tryz.prog 8 #[.int .i64 z, .string ⟨t.toArray⟩] w fun e w' => ∃ A c, e = .returned (.tuple #[.slice A N c, .bool true]) ∧ w'.ownsRow w.heap.size 9 1 (.slice A N c) N (strs R) ∧ Below w.heap.size w w' := by
  have h := iRunScript z t w (by omega) he
  unfold GivesSc at h
  rw [hok, hr, hn] at h
  exact h
theorem run_no (z : Int) (t : List UInt8) (w : World) (hl : t.length ≤ 20000) (hok : scOk z t = false) (he : Env w) :
    Calls Tryz.prog 8 #[.int .i64 z, .string ⟨t.toArray⟩] w fun e w' => ∃ A n c, e = .returned (.tuple #[.slice A n c, .bool false]) ∧ Below w.heap.size w w' := by
  have h := iRunScript z t w (by omega) he
  unfold GivesSc at h
  rw [hok] at h
  refine h.mono ?_
  rintro e w' ⟨A, c, rfl, _, hb⟩
  exact ⟨A, _, c, rfl, hb⟩
theorem same_at (A B : Option Addr) (c d n : Nat) (xs : List (List UInt8)) (w : World) (hn : xs.length = n) (ha : Cells w w.heap.size A (strs xs)) (hc : Cells w w.heap.size B (strs xs)) (hn2 : n ≤ 1000000000) :
    Calls Tryz.prog 11 #[.slice A n c, .slice B n d] w fun e w' => e = .returned (.bool true) ∧ Below w.heap.size w w' := by
  go_enter Tryz.func11, Tryz.ntmps11
  go_wp2
  go_loopw [5] (fun i wr => ∃ k : Nat, k ≤ n ∧ i = .int .i64 k ∧ Below w.heap.size w wr) (fun i _ => n - (intOf i).toNat)
  case atStart => exact ⟨0, Nat.zero_le _, rfl, Below.refl _ _⟩
  case round =>
    obtain ⟨k, hk, rfl, hb⟩ := hrel
    by_cases hlt : k < n
    · have hp : 0 < (strs xs).length := by rw [strs_length]; omega
      obtain ⟨b, off, rfl, hB, hcl⟩ := ha hp
      obtain ⟨b', off', rfl, hB', hcl'⟩ := hc hp
      obtain ⟨x, hx⟩ : ∃ x, xs[k]? = some x := ⟨_, List.getElem?_eq_getElem (by omega)⟩
      have hcell : wr.cell? ⟨b, off + k, none⟩ = some (.string ⟨x.toArray⟩) := (hb.cell (p := ⟨b, off + k, none⟩) hB).trans (hcl k _ (strs_get hx))
      have hcell' : wr.cell? ⟨b', off' + k, none⟩ = some (.string ⟨x.toArray⟩) := (hb.cell (p := ⟨b', off' + k, none⟩) hB').trans (hcl' k _ (strs_get hx))
      have HB := hid hb
      have hlt' : (k : Int) < (n : Int) := by omega
      clear hcl hcl' ha hc hb hx
      go_wp2
      go_quiet (fail)
      go_wp2
      go_roundw
      case rel => exact ⟨k + 1, by omega, by go_num, ⟨HB.out.os, HB.out.tape, HB.out.output, HB.out.size, HB.out.block⟩⟩
      case measure => simp [intOf]; omega
    · obtain rfl : k = n := by omega
      go_wp2
      go_ret
      exact ⟨rfl, hb⟩
set_option maxRecDepth 100000 in
set_option maxHeartbeats 6400000 in
theorem walk (A : Option Addr) (c : Nat) (bs : List Int) (w : World) (hb : Bytes w w.heap.size A bs) (henv : Env w) :
    Calls Tryz.prog 3 #[.slice A bs.length c] w fun e w' => e = .returned (.bool true) ∧ Below w.heap.size w w' := by
  have hl := hb.len
  have HB := hid hb
  have HT := hid henv
  clear hb henv
  by_cases h1 : (1048576 : Int) < (bs.length : Int)
  · go_enter Tryz.func3, Tryz.ntmps3
    go_wp2_with (go_at_call 5; refine (big_any _ _ _ _ hl).mono ?_; rintro e w' ⟨rfl, rfl⟩)
    go_ret
    exact ⟨rfl, Below.refl _ _⟩
  have H1 := hid (show (bs.length : Int) ≤ 1048576 by omega)
  clear h1
  go_enter Tryz.func3, Tryz.ntmps3
  go_wp2_with fail
  refine (big_no _ _ _ _ hl H1.out).mono ?_
  rintro e w' ⟨rfl, rfl⟩
  go_wp2_with fail
  refine (drawActs_any _ _ _ _ HB.out).mono ?_
  rintro e w1 ⟨z, n, xs, Aa, ca, ⟨hz, hn, hxl, hok⟩, rfl, hro, hb1⟩
  have s1 := hb1.size
  have hcap := own_cap' hro
  have HRO := hid hro
  have HB1 := hid hb1
  have HOKA := hid hok
  clear hro hb1 hok
  go_wp2_with fail
  go_loopw [5, 6, 7, 8] (fun tx i _ _ wx => ∃ j : Nat, j ≤ n ∧ i = .int .i64 j ∧ tx = .string ⟨(textTo xs j).toArray⟩ ∧ wx.ownsRow w.heap.size 30 4 (.slice Aa n ca) n (ints xs) ∧ Below w.heap.size w wx) (fun _ i _ _ _ => n - (intOf i).toNat)
  case atStart => exact ⟨0, Nat.zero_le _, rfl, rfl, HRO.out, HB1.out⟩
  case round =>
    obtain ⟨j, hj, rfl, rfl, hda, hb⟩ := hrel
    have zr := hb.size
    have htl := text_len j (fun i hi => HOKA.out i (by omega))
    by_cases hlt : j < n
    · obtain ⟨x0, f0⟩ : ∃ x, xs[j * 4]? = some x := ⟨_, List.getElem?_eq_getElem (by omega)⟩
      obtain ⟨x1, f1⟩ : ∃ x, xs[j * 4 + 1]? = some x := ⟨_, List.getElem?_eq_getElem (by omega)⟩
      obtain ⟨x2, f2⟩ : ∃ x, xs[j * 4 + 2]? = some x := ⟨_, List.getElem?_eq_getElem (by omega)⟩
      obtain ⟨x3, f3⟩ : ∃ x, xs[j * 4 + 3]? = some x := ⟨_, List.getElem?_eq_getElem (by omega)⟩
      obtain ⟨ga, rfl, hga0, hga, _⟩ := own_at hda (by omega)
      have hd0 := (hda.cellAt (j * 4) (by omega)).trans (ints_get f0)
      have hd1 := (hda.cellAt (j * 4 + 1) (by omega)).trans (ints_get f1)
      have hd2 := (hda.cellAt (j * 4 + 2) (by omega)).trans (ints_get f2)
      have hd3 := (hda.cellAt (j * 4 + 3) (by omega)).trans (ints_get f3)
      have lga : ga < wr.heap.size := by omega
      have hlt' : (j : Int) < (n : Int) := by omega
      have hdr := (HOKA.out j hlt).1
      rw [getD_of f0, getD_of f1, getD_of f2, getD_of f3] at hdr
      have hal := (act_len hdr).1
      have HFA := hid (fun w ht => sFormatAct x0 x1 x2 x3 w ht)
      rw [hdr] at HFA
      have HTX := hid (text_step xs j (getD_of f0) (getD_of f1) (getD_of f2) (getD_of f3))
      obtain ⟨T, hT⟩ : ∃ T, actTxt x0 x1 x2 x3 = T := ⟨_, rfl⟩
      obtain ⟨U, hU⟩ : ∃ U, textTo xs j = U := ⟨_, rfl⟩
      rw [hT] at HFA HTX hal
      rw [hU] at HTX htl
      rw [hU]
      clear f0 f1 f2 f3 hdr hT hU
      have b_30 := hb
      have s_30 := b_30.size
      have ra_in := own_in hda
      have ra_30 := hda
      clear hda
      have a0_30 := hd0
      clear hd0
      have lt_a0 : ga < wr.heap.size := by omega
      have a1_30 := hd1
      clear hd1
      have lt_a1 : ga < wr.heap.size := by omega
      have a2_30 := hd2
      clear hd2
      have lt_a2 : ga < wr.heap.size := by omega
      have a3_30 := hd3
      clear hd3
      have lt_a3 : ga < wr.heap.size := by omega
      go_wp2_with fail
      refine calls_forget0 (W := wr) ?_ ?_
      (focus (exact belBy))
      intro X31 hX31
      have sX31 := hX31.size
      refine (HFA.out _ ((HT.out.step (b_30.trans (hX31.mono (by omega))) HT.out)).tab).mono ?_
      rintro e w31 ⟨rfl, hb31⟩
      have s31 := hb31.size
      have hT31 := hX31.trans (hb31.mono sX31)
      have b_31 := b_30.trans (hT31.mono (by omega))
      have ra_31 := own_below ra_30 hT31
      have a0_31 := cell_kept a0_30 hT31 (by dsimp only; omega)
      have a1_31 := cell_kept a1_30 hT31 (by dsimp only; omega)
      have a2_31 := cell_kept a2_30 hT31 (by dsimp only; omega)
      have a3_31 := cell_kept a3_30 hT31 (by dsimp only; omega)
      clear ra_30 a0_30 a1_30 a2_30 a3_30 b_30 lt_a0 lt_a1 lt_a2 lt_a3 hX31 hT31 hb31
      have lt_a0 : ga < w31.heap.size := (by omega)
      have lt_a1 : ga < w31.heap.size := (by omega)
      have lt_a2 : ga < w31.heap.size := (by omega)
      have lt_a3 : ga < w31.heap.size := (by omega)
      have P1 := hid ra_31
      have P2 := hid b_31
      clear ra_31 b_31 a0_31 a1_31 a2_31 a3_31
      go_wp2
      go_roundw
      case rel => exact ⟨j + 1, by omega, by go_num, (by rw [HTX.out]; exact congrArg Value.string (by simp only [str_add])), P1.out, P2.out⟩
      case measure => simp [intOf]; omega
    · obtain rfl : j = n := by omega
      have htold := script_told hz hn hxl HOKA.out
      obtain ⟨hok, hres, hbad⟩ := htold
      have hzz : inB z 1 1000 = true := inB_iff.2 ⟨by omega, by omega⟩
      have HOKS := hid (okS_to hzz xs j)
      have HRUN := hid (fun A c w hc => sRunActs z A c j xs w hc hxl)
      have hr : raB z j = true := by unfold raB; rw [hzz, decide_eq_true (by omega)]; rfl
      have hlen := codesTo_length z xs j
      have HC64 := hid (codes64 z xs j)
      have HF64 := hid (fs64 z xs j)
      have hst := stTo_len z xs j
      unfold scTxt at hres
      unfold raS raL at HRUN
      rw [if_pos hr, if_pos hr] at HRUN
      unfold GivesRun at HRUN
      obtain ⟨S, hS⟩ : ∃ S, stTo z xs j = S := ⟨_, rfl⟩
      obtain ⟨C, hC⟩ : ∃ C, codesTo z xs j = C := ⟨_, rfl⟩
      rw [hS] at HOKS HF64 hres HRUN hst
      rw [hC] at HC64 hres HRUN hlen
      rw [hlen] at HRUN
      have hsk := schedOkB_yes HOKS.out.1
      have hTL := schedTxt_length hsk
      have HFM := hid (fun J T F cj ct cf w h ht => sFmtYes S hsk J T F cj ct cf w h (by omega) HF64.out ht)
      have hj16 : S.js.length ≤ 16 := HOKS.out.1.2.1
      obtain ⟨R, hR⟩ : ∃ R, C.map Lib.itoa ++ schedTxt S = R := ⟨_, rfl⟩
      have hRL : R.length = j + (S.js.length + 3) := by rw [← hR, List.length_append, List.length_map, hlen, hTL]
      have HRL := hid hRL
      have HR := hid hR
      have HTL := hid hTL
      have HCL := hid hlen
      rw [hR] at hres
      have HYES := hid (fun w he => run_yes z (textTo xs j) w R _ (by omega) hok hres hRL he)
      have HNO := hid (fun w he => run_no z (textTo xs j ++ wNo) w (by simp [wNo]; omega) hbad he)
      obtain ⟨U, hU⟩ : ∃ U, textTo xs j = U := ⟨_, rfl⟩
      rw [hU] at HYES HNO htl
      rw [hU]
      obtain ⟨N, hN⟩ : ∃ N, j + (S.js.length + 3) = N := ⟨_, rfl⟩
      rw [hN] at HYES HRL
      have HN := hid hN
      clear hok hres hbad hS hC hlen hst hsk hTL hR hRL hU hr hzz hN
      have b_50 := hb
      have s_50 := b_50.size
      have ra_in := own_in hda
      have ra_50 := hda
      clear hda
      go_wp2_with fail
      refine calls_forget0 (W := wr) ?_ ?_
      (focus (exact belBy))
      intro X51 hX51
      have sX51 := hX51.size
      refine (HYES.out _ (HT.out.step (b_50.trans (hX51.mono (by omega))) HT.out)).mono ?_
      rintro e w51 ⟨Au, cu, rfl, u_51, hb51⟩
      have s51 := hb51.size
      have hT51 := hX51.trans (hb51.mono sX51)
      have b_51 := b_50.trans (hT51.mono (by omega))
      have ra_51 := own_below ra_50 hT51
      have u_in := own_in u_51
      clear ra_50 b_50 hX51 hT51 hb51
      go_wp2_with fail
      refine calls_forget0 (W := w51) ?_ ?_
      (focus (exact belBy))
      intro X52 hX52
      have sX52 := hX52.size
      refine (HRUN.out _ _ _ (Cells.of_own (own_below ra_51 hX52))).mono ?_
      rintro e w52 ⟨J, cj, T, tc, F, cf, G, cg, hne, rfl, rj_52, rt_52, rf_52, rc_52, hb52⟩
      have s52 := hb52.size
      have hT52 := hX52.trans (hb52.mono sX52)
      have b_52 := b_51.trans (hT52.mono (by omega))
      have ra_52 := own_below ra_51 hT52
      have u_52 := own_below u_51 hT52
      have rj_in := own_in rj_52
      have rt_in := own_in rt_52
      have rf_in := own_in rf_52
      have rc_in := own_in rc_52
      clear ra_51 u_51 b_51 hX52 hT52 hb52
      clear hne
      clear ra_52
      go_upto_region 12 with fail
      refine wp_forget1 (w0 := w52) (B := w52.heap.size) (b0 := w52.heap.size) (t0 := 40) (c0 := #[.int .i64 S.z, .int .i64 S.n, .int .i64 S.b, .slice J S.js.length cj, .slice T S.ts.length tc, .slice F S.fs.length cf]) ?_ ?_ ?_
      (focus exact blkcBy)
      (focus (exact belBy))
      intro w53 s_53 hX53
      have sX53 := hX53.size
      have s_lt := s_53.lt
      have b_53 := b_52.trans (hX53.mono (by omega))
      have u_53 := own_below u_52 hX53
      have rj_53 := own_below rj_52 hX53
      have rt_53 := own_below rt_52 hX53
      have rf_53 := own_below rf_52 hX53
      have rc_53 := own_below rc_52 hX53
      clear u_52 rj_52 rt_52 rf_52 rc_52 b_52 hX53
      have cell_s := s_53.cell
      have froz_s := s_53.frozen
      have lt_s := s_53.lt
      have K1 := hid rj_53
      have K2 := hid rt_53
      have K3 := hid rf_53
      have K4 := hid rc_53
      have K5 := hid s_53
      have K6 := hid b_53
      have K7 := hid u_53
      clear rj_53 rt_53 rf_53 rc_53 s_53 b_53 u_53 cell_s froz_s lt_s
      go_wp2_with fail
      go_loopw [13, 14] (fun o i wr => ∃ (k : Nat) (A : Option Addr) (c : Nat), k ≤ j ∧ i = .int .i64 k ∧ o = .slice A k c ∧ wr.ownsRow w53.heap.size 9 1 (.slice A k c) k (strs ((C.map Lib.itoa).take k)) ∧ Below w53.heap.size w53 wr) (fun _ i _ => j - (intOf i).toNat)
      case atStart => exact ⟨0, some ⟨w53.heap.size, 0, none⟩, 0, Nat.zero_le _, rfl, rfl, own_lit (size := 1) #[] 0 rfl (Nat.le_refl _) (Nat.zero_le _) rfl, (Below.refl _ _).alloc (Nat.le_refl _) _⟩
      case round =>
        obtain ⟨k, A, c, hk, rfl, rfl, hown, hbw⟩ := hrel
        have zb := hbw.size
        have hb := K6.out.trans (hbw.mono K6.out.size)
        by_cases hlt : k < j
        · obtain ⟨x, hx⟩ : ∃ x, C[k]? = some x := ⟨_, List.getElem?_eq_getElem (by rw [HCL.out]; exact hlt)⟩
          have hlt' : (k : Int) < (j : Int) := by omega
          have H64 := hid (HC64.out x (List.mem_of_getElem? hx))
          obtain ⟨g, rfl, _, hg1, _⟩ := own_at K4.out (by omega)
          have d0 := ((own_below K4.out hbw).cellAt k (by omega)).trans (ints_get hx)
          have HS := hid (show strs ((C.map Lib.itoa).take (k + 1)) = strs ((C.map Lib.itoa).take k) ++ [txt (Lib.itoa x)] by rw [List.take_add_one, List.getElem?_map, hx, ← strs_snoc]; rfl)
          have HT := hid (HT.out.step K6.out HT.out)
          clear hx hb
          have b_60 := hbw
          have s_60 := b_60.size
          have o_in := own_in hown
          have o_60 := hown
          clear hown
          have q_60 := d0
          clear d0
          have lt_q : g < wr.heap.size := by omega
          go_wp2_with fail
          refine calls_forget0 (W := wr) ?_ ?_
          (focus (exact belBy))
          intro X61 hX61
          have sX61 := hX61.size
          refine (sFormatIntW x _ H64.out ((HT.out.step (b_60.trans (hX61.mono (by omega))) HT.out)).tab).mono ?_
          rintro e w61 ⟨rfl, hb61⟩
          have s61 := hb61.size
          have hT61 := hX61.trans (hb61.mono sX61)
          have b_61 := b_60.trans (hT61.mono (by omega))
          have o_61 := own_below o_60 hT61
          have q_61 := cell_kept q_60 hT61 (by dsimp only; omega)
          clear o_60 q_60 b_60 lt_q hX61 hT61 hb61
          have lt_q : g < w61.heap.size := (by omega)
          go_wp2_with (at_builtin; refine wpList_appi rfl _ _ 31 rfl w53.heap.size 9 (.string ⟨#[]⟩) 1 16 Tryz.underlying31 infoStr rfl (by decide) _ k _ rfl (o_61.alloc _) ⟨w61.heap.size, 0, none⟩ 1 1 _ rfl rfl (one_new _ _ _) (txt_one _) (by omega) (by decide) (by simp; omega) ?_)
          intro A_o c_o w62 o_62 hg62 li62
          have hg62 := grown_alloc hg62
          try simp only [World.size_alloc] at li62
          have s62 := hg62.size
          have b_62 := gr_below hg62 b_61 (by omega) (fun q hq => by have h1 := o_in q hq; omega)
          have q_62 := gr_cell hg62 q_61 (by dsimp only; omega) (fun q hq => by have h1 := o_in q hq; dsimp only; omega)
          have o_ix := own_in o_62
          clear o_61 q_61 b_61 lt_q hg62 li62 o_in
          have o_in := o_ix
          clear o_ix
          have lt_q : g < w62.heap.size := (by omega)
          have P1 := hid (show World.ownsRow _ w53.heap.size 9 1 (.slice A_o (k + 1) c_o) (k + 1) (strs ((C.map Lib.itoa).take (k + 1))) by rw [HS.out]; exact o_62)
          have P2 := hid b_62
          clear o_62 b_62 q_62 lt_q
          go_wp2
          go_roundw
          case rel => exact ⟨k + 1, A_o, c_o, by omega, by go_num, rfl, P1.out, P2.out⟩
          case measure => simp [intOf]; omega
        · obtain rfl : k = j := by omega
          have hTk : (C.map Lib.itoa).take k = C.map Lib.itoa := List.take_of_length_le (by rw [List.length_map, HCL.out]; omega)
          rw [hTk] at hown
          have r1 := own_below K1.out hbw
          have r2 := own_below K2.out hbw
          have r3 := own_below K3.out hbw
          have r5 := Blk.past hbw K5.out
          have r7 := own_below K7.out hbw
          have r7_in : ∀ q, (Value.slice Au N cu).ownBlock = some q → q < w53.heap.size := fun q hq => (own_in K7.out q hq).2
          have lo := own_lo hown
          have hnn : (ByteArray.mk U.toArray) ++ ⟨#[110, 111, 116, 104, 105, 110, 103]⟩ = ⟨(U ++ wNo).toArray⟩ := str_add U wNo
          rw [← hnn] at HNO
          clear hbw hTk hnn
          have b_70 := hb
          have s_70 := b_70.size
          have o_in := own_in hown
          have o_70 := hown
          clear hown
          have rj_in := own_in r1
          have rj_70 := r1
          clear r1
          have rt_in := own_in r2
          have rt_70 := r2
          clear r2
          have rf_in := own_in r3
          have rf_70 := r3
          clear r3
          have u_in := own_in r7
          have u_70 := r7
          clear r7
          have s_70 := r5
          clear r5
          have s_lt := s_70.lt
          have cell_s := s_70.cell
          have froz_s := s_70.frozen
          have lt_s := s_70.lt
          go_wp2_with fail
          refine calls_forget0 (W := wr) ?_ ?_
          (focus (exact belBy))
          intro X71 hX71
          have sX71 := hX71.size
          refine (HNO.out _ (HT.out.step (b_70.trans (hX71.mono (by omega))) HT.out)).mono ?_
          rintro e w71 ⟨An, nn, cn, rfl, hb71⟩
          have s71 := hb71.size
          have hT71 := hX71.trans (hb71.mono sX71)
          have b_71 := b_70.trans (hT71.mono (by omega))
          have o_71 := own_below o_70 hT71
          have rj_71 := own_below rj_70 hT71
          have rt_71 := own_below rt_70 hT71
          have rf_71 := own_below rf_70 hT71
          have u_71 := own_below u_70 hT71
          have s_71 := Blk.past hT71 s_70
          clear o_70 rj_70 rt_70 rf_70 u_70 s_70 b_70 cell_s froz_s lt_s hX71 hT71 hb71
          have cell_s := s_71.cell
          have froz_s := s_71.frozen
          have lt_s := s_71.lt
          go_wp2_with fail
          refine calls_forget0 (W := w71) ?_ ?_
          (focus (exact belBy))
          intro X72 hX72
          have sX72 := hX72.size
          refine (HFM.out _ _ _ _ _ _ _ ⟨own_weak (own_below rj_71 hX72) (Nat.zero_le _), own_weak (own_below rt_71 hX72) (Nat.zero_le _), own_weak (own_below rf_71 hX72) (Nat.zero_le _)⟩ ((HT.out.step (b_71.trans (hX72.mono (by omega))) HT.out)).tab).mono ?_
          rintro e w72 ⟨Af, cf2, rfl, f_72, hb72⟩
          have s72 := hb72.size
          have hT72 := hX72.trans (hb72.mono sX72)
          have b_72 := b_71.trans (hT72.mono (by omega))
          have o_72 := own_below o_71 hT72
          have rj_72 := own_below rj_71 hT72
          have rt_72 := own_below rt_71 hT72
          have rf_72 := own_below rf_71 hT72
          have u_72 := own_below u_71 hT72
          have s_72 := Blk.past hT72 s_71
          have f_in := own_in f_72
          clear o_71 rj_71 rt_71 rf_71 u_71 s_71 b_71 cell_s froz_s lt_s hX72 hT72 hb72
          have cell_s := s_72.cell
          have froz_s := s_72.frozen
          have lt_s := s_72.lt
          have U1 := hid o_72
          have U2 := hid f_72
          have U3 := hid b_72
          have U4 := hid u_72
          clear o_72 f_72 b_72 u_72 rj_72 rt_72 rf_72 s_72 cell_s froz_s lt_s
          obtain ⟨g, rfl, _, hg1, _⟩ := own_at U2.out (by omega)
          have H7 := hid (row_news U2.out)
          have hui := own_in U4.out
          go_wp2_with (at_builtin; refine wpList_unguard (by rfl) ?_; go_loud (refine wpList_appi rfl _ _ 31 rfl w53.heap.size 9 (.string ⟨#[]⟩) 1 16 Tryz.underlying31 infoStr rfl (by decide) _ k _ rfl U1.out ⟨g, 0, none⟩ (S.js.length + 3) cf2 (strs (schedTxt S)) rfl (by rw [strs_length, HTL.out, Nat.mul_one]) H7.out (strs_one _) (by omega) (by decide) (by have := U3.out.size; omega) ?_))
          intro A73 c73 w73 ho73 hg73 li73
          have s0 := U3.out.size
          have HB73 := hid (gr_below hg73 U3.out (by omega) (fun q hq => by have h1 := lo q hq; omega))
          have HO73 := hid (show w73.ownsRow w53.heap.size 9 1 (.slice A73 N c73) N (strs R) by rw [← HN.out, ← HR.out, show strs (C.map Lib.itoa ++ schedTxt S) = strs (C.map Lib.itoa) ++ strs (schedTxt S) from List.map_append]; exact ho73)
          have HU73 := hid (gr_own hg73 U4.out (fun q p hq hp => by have h1 := lo q hq; have h2 := r7_in p hp; omega))
          rw [HN.out]
          clear hg73 li73 ho73 lo hui
          go_wp2_with fail
          refine (same_at _ _ _ _ _ R _ HRL.out (Cells.of_own HU73.out) (Cells.of_own HO73.out) (by have := HN.out; omega)).mono ?_
          rintro e w' ⟨rfl, hb9⟩
          go_wp2
          go_ret
          exact ⟨rfl, HB73.out.trans (hb9.mono HB73.out.size)⟩
set_option maxRecDepth 100000 in
theorem lifted (os : Os) (started : os.Started) (H : Type) (enc : TypeId × Value → H) :
    ReturnsInHanded {} Tryz.checked os 3 .any (fun w args => (Rows.fnScriptsSpec.pre enc Tryz.prog Tryz.f3 [] false w args ∧ laidMetH Tryz.prog Rows.fnScriptsRow.laid w) ∧ sizedMet enc Tryz.prog Tryz.f3 (OpenSpec.ofChange Rows.fnScriptsSpec) false w args)
      (Rows.fnScriptsSpec.post enc Tryz.prog Tryz.f3 false true false false) := by
  refine returns_laid_shaped (C := Tryz.checked) (X := fun w _ => laidMetH Tryz.prog Rows.fnScriptsRow.laid w) (fun _ _ _ hh h => h.of_heap hh) own started (by kernel_rfl) Tryz.func3
    (ChangeSpec.witness_shaped (enc := enc) (C := Tryz.checked) (os := os) (X := fun w _ => laidMetH Tryz.prog Rows.fnScriptsRow.laid w) false (World.laidAll Tryz.prog os Rows.fnScriptsRow.laid) #[.slice none 0 0] 8 (World.laidAll_os _ _ _) (World.shaped_of_ZipB (by kernel_rfl) (by kernel_rfl)) (by kernel_rfl) (by kernel_rfl) (by kernel_rfl)
      (by rw [MakeChecks.laidMetH_plain _ _ _ (by kernel_rfl)]; exact laidMet_laidAll _ (by kernel_rfl) (by kernel_rfl))) ?_
  intro W base args ds gs before hval0 hW hLaid hShaped
  have hval : ∀ (j : Nat) t v, Tryz.f3.params[j]? = some t → args[j]? = some v → Value.okWide Tryz.prog W .any base t v := hval0
  have hW' := hW
  obtain ⟨p, q, hA0, hV, rfl, _, _⟩ := hW
  have hA : DataW.TrodAll enc Tryz.prog W 0 (fun _ => true) true Tryz.f3.params.toList args.toList ds p := hA0
  rw [Tryz.params3] at hA hval
  obtain ⟨v0, vs0, d0, ds0, p0, q0, hargs, rfl, rfl, h0, r0⟩ := trodAll_cons hA
  obtain ⟨rfl, rfl, rfl⟩ := trodAll_nil r0
  obtain rfl : args = #[v0] := by cases args; simp_all
  obtain ⟨rfl, rfl⟩ := trodVars_none hV
  obtain ⟨A0, c0, xs0, rfl, hb0⟩ := view_bytes Tryz.underlying22 Tryz.underlying5 (by kernel_rfl) (hval 0 22 v0 rfl rfl) h0 (fun x hx => hW'.lt x (by simp [hx]))
  refine (walk A0 c0 xs0 W hb0 (env_of hLaid hShaped)).mono fun e W' ⟨he, hb⟩ => ?_
  subst he
  exact ⟨_, rfl, law_post rfl (by kernel_rfl) (by kernel_rfl) rfl Tryz.underlying4 hW' rfl rfl rfl hb⟩
theorem closed : joinedFacts Tryz.prog 3 Tryz.f3 Rows.fnScriptsSpec Rows.fnScriptsRow = true := by
  unfold joinedFacts
  rw [makeIs, mayIs, finalsIs]
  kernel_rfl
theorem over : Rows.fnScriptsRow.holds Tryz.pinned (OpenSpec.ofChange Rows.fnScriptsSpec) :=
  OpenClaim.holds_of_wide 3 Tryz.f3 rfl rfl rfl rfl rfl rfl rfl ⟨rfl, rfl, rfl, rfl, rfl⟩ rfl rfl rfl rfl rfl (by kernel_rfl) Tryz.func3 closed
    (of_decide_eq_true (by kernel_rfl)) (by unfold Func.isWrapper; first | (rw [if_pos (by decide +kernel)]; kernel_rfl) | (rw [if_neg (by decide +kernel)]; exact ⟨rfl, rfl⟩))
    (fun os started H enc _ => lifted os started H enc)
theorem proved : Rows.FnScriptsCardSaid :=
  Claim7.holds_tied_plain_at .later [] [.data, .data, .data, .data, .sentinel, .sentinel, .pinned] true Rows.fnScriptsCard.stood.harness true
    over (fun _ h => by cases h) (by kernel_rfl) (fun _ h => by cases h) fnScripts_row_tie rfl ⟨rfl, rfl⟩ (by kernel_rfl) rfl
    (fun f fn hf hfn => by
      obtain rfl : f = 3 := Option.some.inj ((show Tryz.prog.funcNamed Rows.fnScriptsRow.func = some 3 by kernel_rfl).symm.trans hf) |>.symm
      obtain rfl : fn = Tryz.f3 := (Option.some.inj (Tryz.func3.symm.trans hfn)).symm
      exact ⟨by kernel_rfl, fun j t ht => by
        rw [Tryz.params3] at ht
        have hm := Array.mem_of_getElem? ht
        simp at hm
        rcases hm with rfl <;> exact (show Tryz.prog.wantsStandIn _ = false by kernel_rfl)⟩)
    (by kernel_rfl)
#print axioms proved

end scripts
end Go.Proofs.YtjknadnknainbaaGreatDoor
