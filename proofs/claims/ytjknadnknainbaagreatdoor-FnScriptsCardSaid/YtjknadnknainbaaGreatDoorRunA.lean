import Derived.Test.YtjknadnknainbaaGreatDoorStepIF
import Derived.Test.YtjknadnknainbaaGreatDoorStepIA
import Derived.Test.YtjknadnknainbaaGreatDoorStepIB
import Derived.Test.YtjknadnknainbaaGreatDoorStepIC
import Derived.Test.YtjknadnknainbaaGreatDoorStepID
import Derived.Test.YtjknadnknainbaaGreatDoorStepSA
import Derived.Test.YtjknadnknainbaaGreatDoorStepSB
import Derived.Test.YtjknadnknainbaaGreatDoorStepSC
import Derived.Test.YtjknadnknainbaaGreatDoorStepSD
import Derived.Test.YtjknadnknainbaaGreatDoorStepSF
import Derived.Test.YtjknadnknainbaaGreatDoorMem
import Derived.Deep.DeepCutAuto
/- The step of a schedule, in the program. -/
namespace Go.Proofs.YtjknadnknainbaaGreatDoor
open Go.RowKit

theorem iSchedStepL (S : SV) (J T F : Option Addr) (cj tcp cf : Nat) (w : World) (h : w.ownsRow 0 64 4 (.slice J S.js.length cj) S.js.length (ints (flatJ S.js)) ∧ w.ownsRow 0 88 2 (.slice T S.ts.length tcp) S.ts.length (ints (flatT S.ts)) ∧ w.ownsRow 0 3 1 (.slice F S.fs.length cf) S.fs.length (ints S.fs)) (b1 : S.js.length ≤ 100000000) (b2 : S.ts.length ≤ 100000000) (b3 : S.fs.length ≤ 100000000) :
    Calls Tryz.prog 86 #[.agg #[.int .i64 S.z, .int .i64 S.n, .int .i64 S.b, .slice J S.js.length cj, .slice T S.ts.length tcp, .slice F S.fs.length cf]] w fun e w' => ∃ J' cj' T' tcp' F' cf', e = .returned (.tuple #[.agg #[.int .i64 ((stepR S).z), .int .i64 ((stepR S).n), .int .i64 ((stepR S).b), .slice J' ((stepR S).js.length) cj', .slice T' ((stepR S).ts.length) tcp', .slice F' ((stepR S).fs.length) cf'], .int .i64 (stepI S), .bool (stepB S)]) ∧
      w'.ownsRow w.heap.size 64 4 (.slice J' ((stepR S).js).length cj') ((stepR S).js).length (ints (flatJ ((stepR S).js))) ∧ w'.ownsRow w.heap.size 88 2 (.slice T' ((stepR S).ts).length tcp') ((stepR S).ts).length (ints (flatT ((stepR S).ts))) ∧ w'.ownsRow w.heap.size 3 1 (.slice F' ((stepR S).fs).length cf') ((stepR S).fs).length (ints ((stepR S).fs)) ∧ Below w.heap.size w w' := by
  cases hy : stepB S
  · rw [stepR_no hy, stepI_no hy]
    exact iStepNo S hy J T F cj tcp cf w h b1 b2 b3
  · rw [stepR_yes hy, stepI_yes hy]
    cases hf : failsB S
    · by_cases hs : 0 < S.n + (job S).n - S.b <;> by_cases hl : (job S).l = 1
      · exact iStepIA S hy ⟨hf, hs, hl⟩ J T F cj tcp cf w h b3
      · exact iStepIB S hy ⟨hf, hs, hl⟩ J T F cj tcp cf w h b3
      · exact iStepIC S hy ⟨hf, hs, hl⟩ J T F cj tcp cf w h b3
      · exact iStepID S hy ⟨hf, hs, hl⟩ J T F cj tcp cf w h b3
    · exact iStepIF S hy hf J T F cj tcp cf w h b3
end Go.Proofs.YtjknadnknainbaaGreatDoor
/- The step of the reference on a schedule of one's own. -/
namespace Go.Proofs.YtjknadnknainbaaGreatDoor
open Go.RowKit

theorem sStep (S : SV) (hS : schedOk S) (hj0 : 0 < S.js.length) (ht0 : S.ts.length < 1000) (hf0 : S.fs.length ≤ 100000000) (J T F : Option Addr) (cj tcp cf o : Nat) (w wr : World) (hb : Below w.heap.size w wr) (ho : w.heap.size ≤ o)
    (kb : Blk wr o 40 #[.int .i64 S.z, .int .i64 S.n, .int .i64 S.b, .slice J S.js.length cj, .slice T S.ts.length tcp, .slice F S.fs.length cf])
    (h1 : wr.ownsRow w.heap.size 64 4 (.slice J S.js.length cj) S.js.length (ints (flatJ S.js))) (h2 : wr.ownsRow w.heap.size 88 2 (.slice T S.ts.length tcp) S.ts.length (ints (flatT S.ts)))
    (h3 : wr.ownsRow w.heap.size 3 1 (.slice F S.fs.length cf) S.fs.length (ints S.fs)) :
    Calls Tryz.prog 75 #[.pointer (some ⟨o, 0, none⟩)] wr fun e w' => e = .returned (.int .i64 (job S).i) ∧ ∃ J' cj' T' tcp' F' cf',
      Blk w' o 40 #[.int .i64 (stepS S).z, .int .i64 (stepS S).n, .int .i64 (stepS S).b, .slice J' (stepS S).js.length cj', .slice T' (stepS S).ts.length tcp', .slice F' (stepS S).fs.length cf'] ∧
      w'.ownsRow w.heap.size 64 4 (.slice J' ((stepS S).js).length cj') ((stepS S).js).length (ints (flatJ ((stepS S).js))) ∧ w'.ownsRow w.heap.size 88 2 (.slice T' ((stepS S).ts).length tcp') ((stepS S).ts).length (ints (flatT ((stepS S).ts))) ∧ w'.ownsRow w.heap.size 3 1 (.slice F' ((stepS S).fs).length cf') ((stepS S).fs).length (ints ((stepS S).fs)) ∧ Below w.heap.size w w' := by
  cases hf : failsB S
  · by_cases hs : 0 < S.n + (job S).n - S.b <;> by_cases hl : (job S).l = 1
    · exact sStepSA S ⟨hf, hs, hl⟩ hS hj0 ht0 hf0 J T F cj tcp cf o w wr hb ho kb h1 h2 h3
    · exact sStepSB S ⟨hf, hs, hl⟩ hS hj0 ht0 hf0 J T F cj tcp cf o w wr hb ho kb h1 h2 h3
    · exact sStepSC S ⟨hf, hs, hl⟩ hS hj0 ht0 hf0 J T F cj tcp cf o w wr hb ho kb h1 h2 h3
    · exact sStepSD S ⟨hf, hs, hl⟩ hS hj0 ht0 hf0 J T F cj tcp cf o w wr hb ho kb h1 h2 h3
  · exact sStepSF S hf hS hj0 ht0 hf0 J T F cj tcp cf o w wr hb ho kb h1 h2 h3
end Go.Proofs.YtjknadnknainbaaGreatDoor
/- The run of a schedule: the step of the reference, the run of the program and of the reference, the laws of the plain model. -/
namespace Go.Proofs.YtjknadnknainbaaGreatDoor
open Go.RowKit

theorem below_ghost {w X w2 w3 : World} (h3 : Below X.heap.size X w3) (h2 : Below X.heap.size X w2) (hb : Below w.heap.size w w2) (hX : w.heap.size ≤ X.heap.size) : Below w.heap.size w w3 :=
  ⟨h3.os.trans (h2.os.symm.trans hb.os), h3.tape.trans (h2.tape.symm.trans hb.tape), h3.output.trans (h2.output.symm.trans hb.output), Nat.le_trans hX h3.size, fun i hi => (h3.block i (by omega)).trans ((h2.block i (by omega)).symm.trans (hb.block i hi))⟩
theorem blk_ghost {X w2 w3 : World} {b t : Nat} {cs : Array Value} (h3 : Below X.heap.size X w3) (h2 : Below X.heap.size X w2) (hb : b < X.heap.size) (k : Blk w2 b t cs) : Blk w3 b t cs := (h3.block b hb).trans ((h2.block b hb).symm.trans k)
end Go.Proofs.YtjknadnknainbaaGreatDoor
namespace Go.Proofs.YtjknadnknainbaaGreatDoor
open Go.RowKit

def runM (n : Int) : Nat := if inB n 0 400 then n.toNat else 0
theorem runS_stop {S : SV} (h : stepB S = false) : ∀ m, runS m S = S ∧ runN m S = 0
  | 0 => ⟨rfl, rfl⟩
  | m + 1 => ⟨by unfold runS; rw [h]; rfl, by unfold runN; rw [h]; rfl⟩
theorem runS_go {S : SV} (h : stepB S = true) (m : Nat) : runS (m + 1) S = runS m (stepS S) ∧ runN (m + 1) S = runN m (stepS S) + 1 :=
  ⟨by rw [runS, h]; rfl, by rw [runN, h]; rfl⟩
set_option maxRecDepth 100000 in
set_option maxHeartbeats 6400000 in
theorem iSchedRunL (S : SV) (n : Int) (J T F : Option Addr) (cj tcp cf : Nat) (w : World) (h : w.ownsRow 0 64 4 (.slice J S.js.length cj) S.js.length (ints (flatJ S.js)) ∧ w.ownsRow 0 88 2 (.slice T S.ts.length tcp) S.ts.length (ints (flatT S.ts)) ∧ w.ownsRow 0 3 1 (.slice F S.fs.length cf) S.fs.length (ints S.fs)) (b1 : S.js.length ≤ 10000000) (b2 : S.ts.length ≤ 10000000) (b3 : S.fs.length ≤ 10000000) :
    Calls Tryz.prog 69 #[.agg #[.int .i64 S.z, .int .i64 S.n, .int .i64 S.b, .slice J S.js.length cj, .slice T S.ts.length tcp, .slice F S.fs.length cf], .int .i64 n] w fun e w' => ∃ J' cj' T' tcp' F' cf', e = .returned (.tuple #[.agg #[.int .i64 ((runS (runM n) S).z), .int .i64 ((runS (runM n) S).n), .int .i64 ((runS (runM n) S).b), .slice J' ((runS (runM n) S).js.length) cj', .slice T' ((runS (runM n) S).ts.length) tcp', .slice F' ((runS (runM n) S).fs.length) cf'], .int .i64 (runN (runM n) S : Nat)]) ∧
      w'.ownsRow w.heap.size 64 4 (.slice J' ((runS (runM n) S).js).length cj') ((runS (runM n) S).js).length (ints (flatJ ((runS (runM n) S).js))) ∧ w'.ownsRow w.heap.size 88 2 (.slice T' ((runS (runM n) S).ts).length tcp') ((runS (runM n) S).ts).length (ints (flatT ((runS (runM n) S).ts))) ∧ w'.ownsRow w.heap.size 3 1 (.slice F' ((runS (runM n) S).fs).length cf') ((runS (runM n) S).fs).length (ints ((runS (runM n) S).fs)) ∧ Below w.heap.size w w' := by
  obtain ⟨h1, h2, h3⟩ := h
  obtain ⟨m, hm⟩ : ∃ m, runM n = m := ⟨_, rfl⟩
  have hm4 : m ≤ 400 := by
    rw [← hm]
    unfold runM
    split
    · next h => have := inB_iff.1 h; omega
    · omega
  rw [hm]
  have HM := hid hm
  clear hm
  go_enter Tryz.func69, Tryz.ntmps69
  have b_0 := (Below.refl w.heap.size w)
  have s_0 := b_0.size
  have oj_in := own_in h1
  have oj_0 := h1
  clear h1
  have ot_in := own_in h2
  have ot_0 := h2
  clear h2
  have of__in := own_in h3
  have of__0 := h3
  clear h3
  go_wp2_with fail
  refine calls_forget2 (W := w) (b0 := w.heap.size) (t0 := 40) (c0 := #[.int .i64 S.z, .int .i64 S.n, .int .i64 S.b, .slice J S.js.length cj, .slice T S.ts.length tcp, .slice F S.fs.length cf]) (b1 := w.heap.size + 1) (t1 := 40) (c1 := #[.int .i64 0, .int .i64 0, .int .i64 0, .slice none 0 0, .slice none 0 0, .slice none 0 0]) ?_ ?_ ?_ ?_
  (focus exact blkcBy)
  (focus exact blkcBy)
  (focus (exact belBy))
  intro X1 x_n r_n hX1
  have sX1 := hX1.size
  have x_lt := x_n.lt
  have r_lt := r_n.lt
  refine (iCopyS S _ _ _ _ _ _ _ ⟨(own_below oj_0 hX1), (own_below ot_0 hX1), (own_below of__0 hX1)⟩ (by omega) (by omega) (by omega)).mono ?_
  rintro e w1 ⟨J', cj', T', tcp', F', cf', rfl, rj_1, rt_1, rf_1, hb1⟩
  have s1 := hb1.size
  have hT1 := hX1.trans (hb1.mono sX1)
  have b_1 := b_0.trans (hT1.mono (by omega))
  have oj_1 := own_below oj_0 hT1
  have ot_1 := own_below ot_0 hT1
  have of__1 := own_below of__0 hT1
  have x_1 := Blk.past hb1 x_n
  have r_1 := Blk.past hb1 r_n
  have rj_in := own_in rj_1
  have rt_in := own_in rt_1
  have rf_in := own_in rf_1
  clear oj_0 ot_0 of__0 b_0 x_n r_n hX1 hT1 hb1
  have cell_x := x_1.cell
  have froz_x := x_1.frozen
  have lt_x := x_1.lt
  have cell_r := r_1.cell
  have froz_r := r_1.frozen
  have lt_r := r_1.lt
  go_upto_region 2 with fail
  refine wp_forget1 (w0 := w1) (B := w1.heap.size) (b0 := w1.heap.size) (t0 := 40) (c0 := #[.int .i64 S.z, .int .i64 S.n, .int .i64 S.b, .slice J' S.js.length cj', .slice T' S.ts.length tcp', .slice F' S.fs.length cf']) ?_ ?_ ?_
  (focus exact blkcBy)
  (focus (exact belBy))
  intro w2 o_2 hX2
  have sX2 := hX2.size
  have o_lt := o_2.lt
  have b_2 := b_1.trans (hX2.mono (by omega))
  have oj_2 := own_below oj_1 hX2
  have ot_2 := own_below ot_1 hX2
  have of__2 := own_below of__1 hX2
  have rj_2 := own_below rj_1 hX2
  have rt_2 := own_below rt_1 hX2
  have rf_2 := own_below rf_1 hX2
  have x_2 := Blk.past hX2 x_1
  have r_2 := Blk.past hX2 r_1
  clear oj_1 ot_1 of__1 rj_1 rt_1 rf_1 x_1 r_1 b_1 cell_x froz_x lt_x cell_r froz_r lt_r hX2
  have cell_x := x_2.cell
  have froz_x := x_2.frozen
  have lt_x := x_2.lt
  have cell_r := r_2.cell
  have froz_r := r_2.frozen
  have lt_r := r_2.lt
  have cell_o := o_2.cell
  have froz_o := o_2.frozen
  have lt_o := o_2.lt
  clear oj_2
  clear ot_2
  clear of__2
  clear cell_x froz_x lt_x
  clear x_2
  have HRJ := hid rj_2
  have HRT := hid rt_2
  have HRF := hid rf_2
  have HR := hid r_2
  have HO := hid o_2
  have HB := hid b_2
  have hXR : w.heap.size + 1 < X1.heap.size := by omega
  clear rj_2 rt_2 rf_2 r_2 o_2 b_2 cell_r froz_r cell_o froz_o
  go_wp2
  go_loopw [7] (fun i wx => ∃ (k : Nat) (S' : SV) (J1 : Option Addr) (cj1 : Nat) (T1 : Option Addr) (tc1 : Nat) (F1 : Option Addr) (cf1 : Nat), k ≤ m ∧ i = .int .i64 k ∧ runS m S = runS (m - k) S' ∧ runN m S = runN (m - k) S' + k ∧
    S'.js.length ≤ S.js.length ∧ S'.ts.length ≤ S.ts.length + k ∧ S'.fs.length ≤ S.fs.length + k ∧ wx.ownsRow X1.heap.size 64 4 (.slice J1 (S'.js).length cj1) (S'.js).length (ints (flatJ (S'.js))) ∧ wx.ownsRow X1.heap.size 88 2 (.slice T1 (S'.ts).length tc1) (S'.ts).length (ints (flatT (S'.ts))) ∧ wx.ownsRow X1.heap.size 3 1 (.slice F1 (S'.fs).length cf1) (S'.fs).length (ints (S'.fs)) ∧
    Blk wx (w.heap.size + 1) 40 #[.int .i64 0, .int .i64 0, .int .i64 0, .slice none 0 0, .slice none 0 0, .slice none 0 0] ∧
    Blk wx w1.heap.size 40 #[.int .i64 S'.z, .int .i64 S'.n, .int .i64 S'.b, .slice J1 S'.js.length cj1, .slice T1 S'.ts.length tc1, .slice F1 S'.fs.length cf1] ∧ Below w.heap.size w wx) (fun i _ => m - (intOf i).toNat)
  case atStart => exact ⟨0, S, J', cj', T', tcp', F', cf', Nat.zero_le _, rfl, by rw [Nat.sub_zero], by rw [Nat.sub_zero]; rfl, Nat.le_refl _, by omega, by omega, HRJ.out, HRT.out, HRF.out, HR.out, HO.out, HB.out⟩
  case round =>
    obtain ⟨k, S', J1, cj1, T1, tc1, F1, cf1, hk, rfl, e1, e2, l1, l2, l3, hj, ht, hf, hr, ho, hb⟩ := hrel
    by_cases hlt : k < m
    · have hin : inB n 0 400 = true ∧ n = m := by
        have h := HM.out
        unfold runM at h
        split at h
        · next h1 => exact ⟨h1, by have := inB_iff.1 h1; omega⟩
        · omega
      obtain ⟨hin, rfl⟩ := hin
      have hkm : (k : Int) < (m : Int) := by omega
      obtain ⟨d, hd⟩ : ∃ d, m - k = d + 1 := ⟨m - k - 1, by omega⟩
      have hd' : m - (k + 1) = d := by omega
      rw [hd] at e1 e2
      cases hs : stepB S'
      · obtain ⟨r1, r2⟩ := runS_stop hs (d + 1)
        rw [r1] at e1
        rw [r2] at e2
        rw [Nat.zero_add] at e2
        have E1 := hid e1
        have E2 := hid e2
        have HST := hid (fun J T F cj tcp cf w h b1 b2 b3 => iSchedStepL S' J T F cj tcp cf w h b1 b2 b3)
        rw [hs, stepR_no hs] at HST
        clear e1 e2 hd hd' r1 r2
        have b_10 := hb
        have s_10 := b_10.size
        have rj_in := own_off hj ho (by decide)
        have rj_10 := hj
        clear hj
        have rt_in := own_off ht ho (by decide)
        have rt_10 := ht
        clear ht
        have rf_in := own_off hf ho (by decide)
        have rf_10 := hf
        clear hf
        have r_10 := hr
        clear hr
        have r_lt := r_10.lt
        have cell_r := r_10.cell
        have froz_r := r_10.frozen
        have lt_r := r_10.lt
        have o_10 := ho
        clear ho
        have o_lt := o_10.lt
        have cell_o := o_10.cell
        have froz_o := o_10.frozen
        have lt_o := o_10.lt
        go_wp2_with fail
        refine calls_forget0 (W := wr) ?_ ?_
        (focus (exact belBy))
        intro X11 hX11
        have sX11 := hX11.size
        refine (iWithin _ _ _ _).mono ?_
        rintro e w' ⟨rfl, rfl⟩
        have b_11 := b_10.trans (hX11.mono (by omega))
        have rj_11 := own_below rj_10 hX11
        have rt_11 := own_below rt_10 hX11
        have rf_11 := own_below rf_10 hX11
        have r_11 := Blk.past hX11 r_10
        have o_11 := Blk.past hX11 o_10
        clear rj_10 rt_10 rf_10 r_10 o_10 b_10 cell_r froz_r lt_r cell_o froz_o lt_o hX11
        have cell_r := r_11.cell
        have froz_r := r_11.frozen
        have lt_r := r_11.lt
        have cell_o := o_11.cell
        have froz_o := o_11.frozen
        have lt_o := o_11.lt
        go_wp2_with fail
        refine calls_forget0 (W := X11) ?_ ?_
        (focus (exact belBy))
        intro X12 hX12
        have sX12 := hX12.size
        refine (HST.out _ _ _ _ _ _ _ ⟨own_weak (own_below rj_11 hX12) (Nat.zero_le _), own_weak (own_below rt_11 hX12) (Nat.zero_le _), own_weak (own_below rf_11 hX12) (Nat.zero_le _)⟩ (by omega) (by omega) (by omega)).mono ?_
        rintro e w12 ⟨Nj, nj', Nt, nt', Nf, nf', rfl, nj_12, nt_12, nf_12, hb12⟩
        have s12 := hb12.size
        have hT12 := hX12.trans (hb12.mono sX12)
        have b_12 := b_11.trans (hT12.mono (by omega))
        have rj_12 := own_below rj_11 hT12
        have rt_12 := own_below rt_11 hT12
        have rf_12 := own_below rf_11 hT12
        have r_12 := Blk.past hT12 r_11
        have o_12 := Blk.past hT12 o_11
        have nj_in := own_in nj_12
        have nt_in := own_in nt_12
        have nf_in := own_in nf_12
        clear rj_11 rt_11 rf_11 r_11 o_11 b_11 cell_r froz_r lt_r cell_o froz_o lt_o hX12 hT12 hb12
        have cell_r := r_12.cell
        have froz_r := r_12.frozen
        have lt_r := r_12.lt
        have cell_o := o_12.cell
        have froz_o := o_12.frozen
        have lt_o := o_12.lt
        go_upto_region 5 with fail
        refine wp_forget1 (w0 := w12) (B := w12.heap.size) (b0 := w12.heap.size) (t0 := 40) (c0 := #[.int .i64 (S'.z), .int .i64 (S'.n), .int .i64 (S'.b), .slice Nj (S'.js.length) nj', .slice Nt (S'.ts.length) nt', .slice Nf (S'.fs.length) nf']) ?_ ?_ ?_
        (focus exact blkcBy)
        (focus (exact belBy))
        intro w13 nx_13 hX13
        have sX13 := hX13.size
        have nx_lt := nx_13.lt
        have b_13 := b_12.trans (hX13.mono (by omega))
        have rj_13 := own_below rj_12 hX13
        have rt_13 := own_below rt_12 hX13
        have rf_13 := own_below rf_12 hX13
        have nj_13 := own_below nj_12 hX13
        have nt_13 := own_below nt_12 hX13
        have nf_13 := own_below nf_12 hX13
        have r_13 := Blk.past hX13 r_12
        have o_13 := Blk.past hX13 o_12
        clear rj_12 rt_12 rf_12 nj_12 nt_12 nf_12 r_12 o_12 b_12 cell_r froz_r lt_r cell_o froz_o lt_o hX13
        have cell_r := r_13.cell
        have froz_r := r_13.frozen
        have lt_r := r_13.lt
        have cell_o := o_13.cell
        have froz_o := o_13.frozen
        have lt_o := o_13.lt
        have cell_nx := nx_13.cell
        have froz_nx := nx_13.frozen
        have lt_nx := nx_13.lt
        have HRJ2 := hid rj_13
        have HRT2 := hid rt_13
        have HRF2 := hid rf_13
        have HB2 := hid b_13
        clear rj_13 rt_13 rf_13 b_13 nj_13 nt_13 nf_13
        go_wp2_with fail
        ((try simp only [Exit.inBlock, Exit.then]); apply bodyPost_ret0; focus ((try simp only [results, Tryz.results69]); (try go_simp); (try rfl)))
        rw [E1.out, E2.out]
        refine ⟨J1, cj1, T1, tc1, F1, cf1, rfl, ?_, ?_, ?_, ?_⟩
        · refine own_weak (base := X1.heap.size) ?_ (by omega)
          have h := HRJ2.out
          exact ownBy
        · refine own_weak (base := X1.heap.size) ?_ (by omega)
          have h := HRT2.out
          exact ownBy
        · refine own_weak (base := X1.heap.size) ?_ (by omega)
          have h := HRF2.out
          exact ownBy
        · have hb := HB2.out
          exact belBy
      · obtain ⟨r1, r2⟩ := runS_go hs d
        rw [r1] at e1
        rw [r2] at e2
        have HST := hid (fun J T F cj tcp cf w h b1 b2 b3 => iSchedStepL S' J T F cj tcp cf w h b1 b2 b3)
        rw [hs, stepR_yes hs] at HST
        have hl := stepS_len S'
        have E1 := hid e1
        have E2 := hid e2
        clear e1 e2 r1 r2
        have b_10 := hb
        have s_10 := b_10.size
        have rj_in := own_off hj ho (by decide)
        have rj_10 := hj
        clear hj
        have rt_in := own_off ht ho (by decide)
        have rt_10 := ht
        clear ht
        have rf_in := own_off hf ho (by decide)
        have rf_10 := hf
        clear hf
        have r_10 := hr
        clear hr
        have r_lt := r_10.lt
        have cell_r := r_10.cell
        have froz_r := r_10.frozen
        have lt_r := r_10.lt
        have o_10 := ho
        clear ho
        have o_lt := o_10.lt
        have cell_o := o_10.cell
        have froz_o := o_10.frozen
        have lt_o := o_10.lt
        go_wp2_with fail
        refine calls_forget0 (W := wr) ?_ ?_
        (focus (exact belBy))
        intro X11 hX11
        have sX11 := hX11.size
        refine (iWithin _ _ _ _).mono ?_
        rintro e w' ⟨rfl, rfl⟩
        have b_11 := b_10.trans (hX11.mono (by omega))
        have rj_11 := own_below rj_10 hX11
        have rt_11 := own_below rt_10 hX11
        have rf_11 := own_below rf_10 hX11
        have r_11 := Blk.past hX11 r_10
        have o_11 := Blk.past hX11 o_10
        clear rj_10 rt_10 rf_10 r_10 o_10 b_10 cell_r froz_r lt_r cell_o froz_o lt_o hX11
        have cell_r := r_11.cell
        have froz_r := r_11.frozen
        have lt_r := r_11.lt
        have cell_o := o_11.cell
        have froz_o := o_11.frozen
        have lt_o := o_11.lt
        go_wp2_with fail
        refine calls_forget0 (W := X11) ?_ ?_
        (focus (exact belBy))
        intro X12 hX12
        have sX12 := hX12.size
        refine (HST.out _ _ _ _ _ _ _ ⟨own_weak (own_below rj_11 hX12) (Nat.zero_le _), own_weak (own_below rt_11 hX12) (Nat.zero_le _), own_weak (own_below rf_11 hX12) (Nat.zero_le _)⟩ (by omega) (by omega) (by omega)).mono ?_
        rintro e w12 ⟨Nj, nj', Nt, nt', Nf, nf', rfl, nj_12, nt_12, nf_12, hb12⟩
        have s12 := hb12.size
        have hT12 := hX12.trans (hb12.mono sX12)
        have b_12 := b_11.trans (hT12.mono (by omega))
        have rj_12 := own_below rj_11 hT12
        have rt_12 := own_below rt_11 hT12
        have rf_12 := own_below rf_11 hT12
        have r_12 := Blk.past hT12 r_11
        have o_12 := Blk.past hT12 o_11
        have nj_in := own_in nj_12
        have nt_in := own_in nt_12
        have nf_in := own_in nf_12
        clear rj_11 rt_11 rf_11 r_11 o_11 b_11 cell_r froz_r lt_r cell_o froz_o lt_o hX12 hT12 hb12
        have cell_r := r_12.cell
        have froz_r := r_12.frozen
        have lt_r := r_12.lt
        have cell_o := o_12.cell
        have froz_o := o_12.frozen
        have lt_o := o_12.lt
        go_upto_region 7 with fail
        refine wp_touch2 (w0 := w12) (L := [w1.heap.size]) (b0 := w1.heap.size) (t0 := 40) (c0 := #[.int .i64 ((stepS S').z), .int .i64 ((stepS S').n), .int .i64 ((stepS S').b), .slice Nj ((stepS S').js.length) nj', .slice Nt ((stepS S').ts.length) nt', .slice Nf ((stepS S').fs.length) nf']) (b1 := w12.heap.size) (t1 := 40) (c1 := #[.int .i64 ((stepS S').z), .int .i64 ((stepS S').n), .int .i64 ((stepS S').b), .slice Nj ((stepS S').js.length) nj', .slice Nt ((stepS S').ts.length) nt', .slice Nf ((stepS S').fs.length) nf']) ?_ ?_ ?_ ?_
        (focus exact blkcBy)
        (focus exact blkcBy)
        (focus (exact tchBy))
        intro w13 o_13 nx_13 hX13
        have sX13 := hX13.size
        have nx_lt := nx_13.lt
        have b_13 := hX13.below b_12 (by first | (simp; done) | (simp; omega))
        have rj_13 := own_touch' hX13 rj_12 (fun q hq => by have h1 := rj_in q hq; (try have e0 := own_ne_obj rj_12 o_12 (by decide) q hq); simp; omega)
        have rt_13 := own_touch' hX13 rt_12 (fun q hq => by have h1 := rt_in q hq; (try have e0 := own_ne_obj rt_12 o_12 (by decide) q hq); simp; omega)
        have rf_13 := own_touch' hX13 rf_12 (fun q hq => by have h1 := rf_in q hq; (try have e0 := own_ne_obj rf_12 o_12 (by decide) q hq); simp; omega)
        have nj_13 := own_touch' hX13 nj_12 (fun q hq => by have h1 := nj_in q hq; (try have e0 := own_ne_obj nj_12 o_12 (by decide) q hq); simp; omega)
        have nt_13 := own_touch' hX13 nt_12 (fun q hq => by have h1 := nt_in q hq; (try have e0 := own_ne_obj nt_12 o_12 (by decide) q hq); simp; omega)
        have nf_13 := own_touch' hX13 nf_12 (fun q hq => by have h1 := nf_in q hq; (try have e0 := own_ne_obj nf_12 o_12 (by decide) q hq); simp; omega)
        have r_13 := Blk.touch hX13 r_12 (by first | (simp; done) | (simp; omega))
        clear rj_12 rt_12 rf_12 nj_12 nt_12 nf_12 r_12 o_12 b_12 cell_r froz_r lt_r cell_o froz_o lt_o hX13
        have cell_r := r_13.cell
        have froz_r := r_13.frozen
        have lt_r := r_13.lt
        have cell_o := o_13.cell
        have froz_o := o_13.frozen
        have lt_o := o_13.lt
        have cell_nx := nx_13.cell
        have froz_nx := nx_13.frozen
        have lt_nx := nx_13.lt
        go_wp2
        go_roundw
        case rel => exact ⟨k + 1, stepS S', Nj, nj', Nt, nt', Nf, nf', by omega, by go_num, by rw [hd']; exact E1.out, by rw [hd', E2.out]; omega, by omega, by omega, by omega, own_weak nj_13 (by omega), own_weak nt_13 (by omega), own_weak nf_13 (by omega), r_13, o_13, b_13⟩
        case measure => simp [intOf]; omega
    · obtain rfl : k = m := by omega
      rw [Nat.sub_self] at e1 e2
      have e1' : runS k S = S' := e1
      have e2' : runN k S = k := by rw [e2]; exact Nat.zero_add k
      have E1 := hid e1'
      have E2 := hid e2'
      clear e1 e2 e1' e2'
      cases hin : inB n 0 400
      case true =>
        have hn : n = k := by
          have h := HM.out
          unfold runM at h
          rw [hin, if_pos rfl] at h
          have := inB_iff.1 hin
          omega
        subst hn
        have b_10 := hb
        have s_10 := b_10.size
        have rj_in := own_off hj ho (by decide)
        have rj_10 := hj
        clear hj
        have rt_in := own_off ht ho (by decide)
        have rt_10 := ht
        clear ht
        have rf_in := own_off hf ho (by decide)
        have rf_10 := hf
        clear hf
        have r_10 := hr
        clear hr
        have r_lt := r_10.lt
        have cell_r := r_10.cell
        have froz_r := r_10.frozen
        have lt_r := r_10.lt
        have o_10 := ho
        clear ho
        have o_lt := o_10.lt
        have cell_o := o_10.cell
        have froz_o := o_10.frozen
        have lt_o := o_10.lt
        go_wp2_with fail
        refine calls_forget0 (W := wr) ?_ ?_
        (focus (exact belBy))
        intro X11 hX11
        have sX11 := hX11.size
        refine (iWithin _ _ _ _).mono ?_
        rintro e w' ⟨rfl, rfl⟩
        have b_11 := b_10.trans (hX11.mono (by omega))
        have rj_11 := own_below rj_10 hX11
        have rt_11 := own_below rt_10 hX11
        have rf_11 := own_below rf_10 hX11
        have r_11 := Blk.past hX11 r_10
        have o_11 := Blk.past hX11 o_10
        clear rj_10 rt_10 rf_10 r_10 o_10 b_10 cell_r froz_r lt_r cell_o froz_o lt_o hX11
        have cell_r := r_11.cell
        have froz_r := r_11.frozen
        have lt_r := r_11.lt
        have cell_o := o_11.cell
        have froz_o := o_11.frozen
        have lt_o := o_11.lt
        have HRJ2 := hid rj_11
        have HRT2 := hid rt_11
        have HRF2 := hid rf_11
        have HB2 := hid b_11
        clear rj_11 rt_11 rf_11 b_11
        go_wp2_with fail
        ((try simp only [Exit.inBlock, Exit.then]); apply bodyPost_ret0; focus ((try simp only [results, Tryz.results69]); (try go_simp); (try rfl)))
        rw [E1.out, E2.out]
        refine ⟨J1, cj1, T1, tc1, F1, cf1, rfl, ?_, ?_, ?_, ?_⟩
        · refine own_weak (base := X1.heap.size) ?_ (by omega)
          have h := HRJ2.out
          exact ownBy
        · refine own_weak (base := X1.heap.size) ?_ (by omega)
          have h := HRT2.out
          exact ownBy
        · refine own_weak (base := X1.heap.size) ?_ (by omega)
          have h := HRF2.out
          exact ownBy
        · have hb := HB2.out
          exact belBy
      case false =>
        have hk0 : k = 0 := by
          have h := HM.out
          unfold runM at h
          rw [hin] at h
          simpa using h.symm
        have b_10 := hb
        have s_10 := b_10.size
        have rj_in := own_off hj ho (by decide)
        have rj_10 := hj
        clear hj
        have rt_in := own_off ht ho (by decide)
        have rt_10 := ht
        clear ht
        have rf_in := own_off hf ho (by decide)
        have rf_10 := hf
        clear hf
        have r_10 := hr
        clear hr
        have r_lt := r_10.lt
        have cell_r := r_10.cell
        have froz_r := r_10.frozen
        have lt_r := r_10.lt
        have o_10 := ho
        clear ho
        have o_lt := o_10.lt
        have cell_o := o_10.cell
        have froz_o := o_10.frozen
        have lt_o := o_10.lt
        go_wp2_with fail
        refine calls_forget0 (W := wr) ?_ ?_
        (focus (exact belBy))
        intro X11 hX11
        have sX11 := hX11.size
        refine (iWithin _ _ _ _).mono ?_
        rintro e w' ⟨rfl, rfl⟩
        have b_11 := b_10.trans (hX11.mono (by omega))
        have rj_11 := own_below rj_10 hX11
        have rt_11 := own_below rt_10 hX11
        have rf_11 := own_below rf_10 hX11
        have r_11 := Blk.past hX11 r_10
        have o_11 := Blk.past hX11 o_10
        clear rj_10 rt_10 rf_10 r_10 o_10 b_10 cell_r froz_r lt_r cell_o froz_o lt_o hX11
        have cell_r := r_11.cell
        have froz_r := r_11.frozen
        have lt_r := r_11.lt
        have cell_o := o_11.cell
        have froz_o := o_11.frozen
        have lt_o := o_11.lt
        have HRJ2 := hid rj_11
        have HRT2 := hid rt_11
        have HRF2 := hid rf_11
        have HB2 := hid b_11
        clear rj_11 rt_11 rf_11 b_11
        go_wp2_with fail
        ((try simp only [Exit.inBlock, Exit.then]); apply bodyPost_ret0; focus ((try simp only [results, Tryz.results69]); (try go_simp); (try rfl)))
        rw [E1.out, E2.out, hk0]
        refine ⟨J1, cj1, T1, tc1, F1, cf1, rfl, ?_, ?_, ?_, ?_⟩
        · refine own_weak (base := X1.heap.size) ?_ (by omega)
          have h := HRJ2.out
          exact ownBy
        · refine own_weak (base := X1.heap.size) ?_ (by omega)
          have h := HRT2.out
          exact ownBy
        · refine own_weak (base := X1.heap.size) ?_ (by omega)
          have h := HRF2.out
          exact ownBy
        · have hb := HB2.out
          exact belBy
end Go.Proofs.YtjknadnknainbaaGreatDoor
namespace Go.Proofs.YtjknadnknainbaaGreatDoor
open Go.RowKit

set_option maxRecDepth 100000 in
set_option maxHeartbeats 6400000 in
theorem sSchedRunL (S : SV) (n : Int) (J T F : Option Addr) (cj tcp cf : Nat) (w : World) (h : w.ownsRow 0 64 4 (.slice J S.js.length cj) S.js.length (ints (flatJ S.js)) ∧ w.ownsRow 0 88 2 (.slice T S.ts.length tcp) S.ts.length (ints (flatT S.ts)) ∧ w.ownsRow 0 3 1 (.slice F S.fs.length cf) S.fs.length (ints S.fs)) (b1 : S.js.length ≤ 10000000) (b2 : S.ts.length ≤ 10000000) (b3 : S.fs.length ≤ 10000000) :
    Calls Tryz.prog 51 #[.agg #[.int .i64 S.z, .int .i64 S.n, .int .i64 S.b, .slice J S.js.length cj, .slice T S.ts.length tcp, .slice F S.fs.length cf], .int .i64 n] w fun e w' => ∃ J' cj' T' tcp' F' cf', e = .returned (.tuple #[.agg #[.int .i64 ((runS (runM n) S).z), .int .i64 ((runS (runM n) S).n), .int .i64 ((runS (runM n) S).b), .slice J' ((runS (runM n) S).js.length) cj', .slice T' ((runS (runM n) S).ts.length) tcp', .slice F' ((runS (runM n) S).fs.length) cf'], .int .i64 (runN (runM n) S : Nat)]) ∧
      w'.ownsRow w.heap.size 64 4 (.slice J' ((runS (runM n) S).js).length cj') ((runS (runM n) S).js).length (ints (flatJ ((runS (runM n) S).js))) ∧ w'.ownsRow w.heap.size 88 2 (.slice T' ((runS (runM n) S).ts).length tcp') ((runS (runM n) S).ts).length (ints (flatT ((runS (runM n) S).ts))) ∧ w'.ownsRow w.heap.size 3 1 (.slice F' ((runS (runM n) S).fs).length cf') ((runS (runM n) S).fs).length (ints ((runS (runM n) S).fs)) ∧ Below w.heap.size w w' := by
  obtain ⟨h1, h2, h3⟩ := h
  obtain ⟨m, hm⟩ : ∃ m, runM n = m := ⟨_, rfl⟩
  have hm4 : m ≤ 400 := by
    rw [← hm]
    unfold runM
    split
    · next h => have := inB_iff.1 h; omega
    · omega
  rw [hm]
  have HM := hid hm
  clear hm
  go_enter Tryz.func51, Tryz.ntmps51
  have b_0 := (Below.refl w.heap.size w)
  have s_0 := b_0.size
  have oj_in := own_in h1
  have oj_0 := h1
  clear h1
  have ot_in := own_in h2
  have ot_0 := h2
  clear h2
  have of__in := own_in h3
  have of__0 := h3
  clear h3
  go_wp2_with fail
  refine calls_forget2 (W := w) (b0 := w.heap.size) (t0 := 40) (c0 := #[.int .i64 S.z, .int .i64 S.n, .int .i64 S.b, .slice J S.js.length cj, .slice T S.ts.length tcp, .slice F S.fs.length cf]) (b1 := w.heap.size + 1) (t1 := 40) (c1 := #[.int .i64 0, .int .i64 0, .int .i64 0, .slice none 0 0, .slice none 0 0, .slice none 0 0]) ?_ ?_ ?_ ?_
  (focus exact blkcBy)
  (focus exact blkcBy)
  (focus (exact belBy))
  intro X1 x_n r_n hX1
  have sX1 := hX1.size
  have x_lt := x_n.lt
  have r_lt := r_n.lt
  refine (sCopyS S _ _ _ _ _ _ _ ⟨(own_below oj_0 hX1), (own_below ot_0 hX1), (own_below of__0 hX1)⟩ (by omega) (by omega) (by omega)).mono ?_
  rintro e w1 ⟨J', cj', T', tcp', F', cf', rfl, rj_1, rt_1, rf_1, hb1⟩
  have s1 := hb1.size
  have hT1 := hX1.trans (hb1.mono sX1)
  have b_1 := b_0.trans (hT1.mono (by omega))
  have oj_1 := own_below oj_0 hT1
  have ot_1 := own_below ot_0 hT1
  have of__1 := own_below of__0 hT1
  have x_1 := Blk.past hb1 x_n
  have r_1 := Blk.past hb1 r_n
  have rj_in := own_in rj_1
  have rt_in := own_in rt_1
  have rf_in := own_in rf_1
  have gh_1 := hb1
  clear oj_0 ot_0 of__0 b_0 x_n r_n hX1 hT1 hb1
  have cell_x := x_1.cell
  have froz_x := x_1.frozen
  have lt_x := x_1.lt
  have cell_r := r_1.cell
  have froz_r := r_1.frozen
  have lt_r := r_1.lt
  go_upto_region 2 with fail
  refine wp_forget1 (w0 := w1) (B := w1.heap.size) (b0 := w1.heap.size) (t0 := 40) (c0 := #[.int .i64 S.z, .int .i64 S.n, .int .i64 S.b, .slice J' S.js.length cj', .slice T' S.ts.length tcp', .slice F' S.fs.length cf']) ?_ ?_ ?_
  (focus exact blkcBy)
  (focus (exact belBy))
  intro w2 o_2 hX2
  have sX2 := hX2.size
  have o_lt := o_2.lt
  have b_2 := b_1.trans (hX2.mono (by omega))
  have gh_2 := gh_1.trans (hX2.mono (by omega))
  have oj_2 := own_below oj_1 hX2
  have ot_2 := own_below ot_1 hX2
  have of__2 := own_below of__1 hX2
  have rj_2 := own_below rj_1 hX2
  have rt_2 := own_below rt_1 hX2
  have rf_2 := own_below rf_1 hX2
  have x_2 := Blk.past hX2 x_1
  have r_2 := Blk.past hX2 r_1
  clear gh_1 oj_1 ot_1 of__1 rj_1 rt_1 rf_1 x_1 r_1 b_1 cell_x froz_x lt_x cell_r froz_r lt_r hX2
  have cell_x := x_2.cell
  have froz_x := x_2.frozen
  have lt_x := x_2.lt
  have cell_r := r_2.cell
  have froz_r := r_2.frozen
  have lt_r := r_2.lt
  have cell_o := o_2.cell
  have froz_o := o_2.frozen
  have lt_o := o_2.lt
  clear oj_2
  clear ot_2
  clear of__2
  clear cell_x froz_x lt_x
  clear x_2
  have HRJ := hid rj_2
  have HRT := hid rt_2
  have HRF := hid rf_2
  have HR := hid r_2
  have HO := hid o_2
  have HB := hid b_2
  have HG := hid gh_2
  have hXR : w.heap.size + 1 < X1.heap.size := by omega
  clear rj_2 rt_2 rf_2 r_2 o_2 b_2 gh_2 cell_r froz_r cell_o froz_o
  go_wp2
  go_loopw [7] (fun i wx => ∃ (k : Nat) (S' : SV) (J1 : Option Addr) (cj1 : Nat) (T1 : Option Addr) (tc1 : Nat) (F1 : Option Addr) (cf1 : Nat), k ≤ m ∧ i = .int .i64 k ∧ runS m S = runS (m - k) S' ∧ runN m S = runN (m - k) S' + k ∧
    S'.js.length ≤ S.js.length ∧ S'.ts.length ≤ S.ts.length + k ∧ S'.fs.length ≤ S.fs.length + k ∧ wx.ownsRow X1.heap.size 64 4 (.slice J1 (S'.js).length cj1) (S'.js).length (ints (flatJ (S'.js))) ∧ wx.ownsRow X1.heap.size 88 2 (.slice T1 (S'.ts).length tc1) (S'.ts).length (ints (flatT (S'.ts))) ∧ wx.ownsRow X1.heap.size 3 1 (.slice F1 (S'.fs).length cf1) (S'.fs).length (ints (S'.fs)) ∧
    Blk wx (w.heap.size + 1) 40 #[.int .i64 0, .int .i64 0, .int .i64 0, .slice none 0 0, .slice none 0 0, .slice none 0 0] ∧
    Blk wx w1.heap.size 40 #[.int .i64 S'.z, .int .i64 S'.n, .int .i64 S'.b, .slice J1 S'.js.length cj1, .slice T1 S'.ts.length tc1, .slice F1 S'.fs.length cf1] ∧ Below w.heap.size w wx ∧ Below X1.heap.size X1 wx) (fun i _ => m - (intOf i).toNat)
  case atStart => exact ⟨0, S, J', cj', T', tcp', F', cf', Nat.zero_le _, rfl, by rw [Nat.sub_zero], by rw [Nat.sub_zero]; rfl, Nat.le_refl _, by omega, by omega, HRJ.out, HRT.out, HRF.out, HR.out, HO.out, HB.out, HG.out⟩
  case round =>
    obtain ⟨k, S', J1, cj1, T1, tc1, F1, cf1, hk, rfl, e1, e2, l1, l2, l3, hj, ht, hf, hr, ho, hb, hg⟩ := hrel
    by_cases hlt : k < m
    · have hin : inB n 0 400 = true ∧ n = m := by
        have h := HM.out
        unfold runM at h
        split at h
        · next h1 => exact ⟨h1, by have := inB_iff.1 h1; omega⟩
        · omega
      obtain ⟨hin, rfl⟩ := hin
      have hkm : (k : Int) < (m : Int) := by omega
      have hm4' : (m : Int) ≤ 400 := by omega
      obtain ⟨d, hd⟩ : ∃ d, m - k = d + 1 := ⟨m - k - 1, by omega⟩
      have hd' : m - (k + 1) = d := by omega
      rw [hd] at e1 e2
      cases hs : stepB S'
      · obtain ⟨r1, r2⟩ := runS_stop hs (d + 1)
        rw [r1] at e1
        rw [r2, Nat.zero_add] at e2
        have hway : schedOkB S' = false ∨ (schedOkB S' = true ∧ decide ((0 : Int) < (S'.js.length : Int)) = false ∧ Hid (S'.js.length = 0)) ∨ (schedOkB S' = true ∧ decide ((0 : Int) < (S'.js.length : Int)) = true ∧ decide ((S'.ts.length : Int) < (1000 : Int)) = false ∧ (0 : Int) < (S'.js.length : Int) ∧ (1000 : Int) ≤ (S'.ts.length : Int)) := by
          unfold stepB at hs
          cases hk : schedOkB S'
          · exact Or.inl rfl
          · rw [hk, Bool.true_and] at hs
            by_cases h0 : S'.js.length = 0
            · exact Or.inr (Or.inl ⟨rfl, by rw [decide_eq_false_iff_not]; omega, hid h0⟩)
            · rw [decide_eq_true (by omega), Bool.true_and, decide_eq_false_iff_not] at hs
              exact Or.inr (Or.inr ⟨rfl, by rw [decide_eq_true_iff]; omega, by rw [decide_eq_false_iff_not]; omega, by omega, by omega⟩)
        have HO := hid (sSchedOkS S')
        have E1 := hid e1
        have E2 := hid e2
        clear e1 e2 r1 r2 hs hin
        rcases hway with hq0 | ⟨hq0, hq1, hq2⟩ | ⟨hq0, hq1, hq2, hq3, hq4⟩
        all_goals
          rw [hq0] at HO
          have b_10 := hb
          have s_10 := b_10.size
          have rj_in := own_off hj ho (by decide)
          have rj_10 := hj
          clear hj
          have rt_in := own_off ht ho (by decide)
          have rt_10 := ht
          clear ht
          have rf_in := own_off hf ho (by decide)
          have rf_10 := hf
          clear hf
          have r_10 := hr
          clear hr
          have r_lt := r_10.lt
          have cell_r := r_10.cell
          have froz_r := r_10.frozen
          have lt_r := r_10.lt
          have o_10 := ho
          clear ho
          have o_lt := o_10.lt
          have cell_o := o_10.cell
          have froz_o := o_10.frozen
          have lt_o := o_10.lt
          go_wp2_with fail
          refine calls_forget0 (W := wr) ?_ ?_
          (focus (exact belBy))
          intro X11 hX11
          have sX11 := hX11.size
          refine (HO.out _ _ _ _ _ _ _ ⟨own_weak (own_below rj_10 hX11) (Nat.zero_le _), own_weak (own_below rt_10 hX11) (Nat.zero_le _), own_weak (own_below rf_10 hX11) (Nat.zero_le _)⟩ (by omega) (by omega)).mono ?_
          rintro e w11 ⟨rfl, hb11⟩
          have s11 := hb11.size
          have hT11 := hX11.trans (hb11.mono sX11)
          have b_11 := b_10.trans (hT11.mono (by omega))
          have rj_11 := own_below rj_10 hT11
          have rt_11 := own_below rt_10 hT11
          have rf_11 := own_below rf_10 hT11
          have r_11 := Blk.past hT11 r_10
          have o_11 := Blk.past hT11 o_10
          clear rj_10 rt_10 rf_10 r_10 o_10 b_10 cell_r froz_r lt_r cell_o froz_o lt_o hX11 hT11 hb11
          have cell_r := r_11.cell
          have froz_r := r_11.frozen
          have lt_r := r_11.lt
          have cell_o := o_11.cell
          have froz_o := o_11.frozen
          have lt_o := o_11.lt
          go_wp2_with fail
          all_goals try (exfalso; first | omega | (have h5 := hq2.out; omega))
          go_wp2_with fail
          refine calls_forget0 (W := w11) ?_ ?_
          (focus (exact belBy))
          intro X12 hX12
          have sX12 := hX12.size
          refine (sCopyS S' _ _ _ _ _ _ _ ⟨own_weak (own_below rj_11 hX12) (Nat.zero_le _), own_weak (own_below rt_11 hX12) (Nat.zero_le _), own_weak (own_below rf_11 hX12) (Nat.zero_le _)⟩ (by omega) (by omega) (by omega)).mono ?_
          rintro e w12 ⟨K', dj', L', dt', M', df', rfl, kj_12, kt_12, kf_12, hb12⟩
          have s12 := hb12.size
          have hT12 := hX12.trans (hb12.mono sX12)
          have b_12 := b_11.trans (hT12.mono (by omega))
          have rj_12 := own_below rj_11 hT12
          have rt_12 := own_below rt_11 hT12
          have rf_12 := own_below rf_11 hT12
          have r_12 := Blk.past hT12 r_11
          have o_12 := Blk.past hT12 o_11
          have kj_in := own_in kj_12
          have kt_in := own_in kt_12
          have kf_in := own_in kf_12
          clear rj_11 rt_11 rf_11 r_11 o_11 b_11 cell_r froz_r lt_r cell_o froz_o lt_o hX12 hT12 hb12
          have cell_r := r_12.cell
          have froz_r := r_12.frozen
          have lt_r := r_12.lt
          have cell_o := o_12.cell
          have froz_o := o_12.frozen
          have lt_o := o_12.lt
          have HRJ2 := hid kj_12
          have HRT2 := hid kt_12
          have Hrfl2 := hid kf_12
          have HB2 := hid b_12
          have hXW : X1.heap.size ≤ X12.heap.size := by omega
          clear kj_12 kt_12 kf_12 b_12
          go_wp2_with fail
          ((try simp only [Exit.inBlock, Exit.then]); apply bodyPost_ret0; focus ((try simp only [results, Tryz.results51]); (try go_simp); (try rfl)))
          rw [E1.out, E2.out]
          refine ⟨K', dj', L', dt', M', df', rfl, ?_, ?_, ?_, ?_⟩
          · refine own_weak (base := X12.heap.size) ?_ (by omega)
            have h := HRJ2.out
            exact ownBy
          · refine own_weak (base := X12.heap.size) ?_ (by omega)
            have h := HRT2.out
            exact ownBy
          · refine own_weak (base := X12.heap.size) ?_ (by omega)
            have h := Hrfl2.out
            exact ownBy
          · have hb := HB2.out
            exact belBy
      · obtain ⟨hS, hj0, ht0⟩ := stepB_parts hs
        obtain ⟨r1, r2⟩ := runS_go hs d
        rw [r1] at e1
        rw [r2] at e2
        have HO := hid (sSchedOkS S')
        rw [schedOkB_iff.2 hS] at HO
        have HS := hid hS
        have hl := stepS_len S'
        have E1 := hid e1
        have E2 := hid e2
        have hn16 : S'.js.length ≤ 16 := hS.2.1
        have hq1 : decide ((0 : Int) < (S'.js.length : Int)) = true := by rw [decide_eq_true_iff]; omega
        have hq2 : decide ((S'.ts.length : Int) < (1000 : Int)) = true := by rw [decide_eq_true_iff]; omega
        have hq3 : (0 : Int) < (S'.js.length : Int) := by omega
        have hq4 : (S'.ts.length : Int) < (1000 : Int) := by omega
        have HG2 := hid hg
        clear e1 e2 r1 r2 hS hs hin
        have b_10 := hb
        have s_10 := b_10.size
        have rj_in := own_off hj ho (by decide)
        have rj_10 := hj
        clear hj
        have rt_in := own_off ht ho (by decide)
        have rt_10 := ht
        clear ht
        have rf_in := own_off hf ho (by decide)
        have rf_10 := hf
        clear hf
        have r_10 := hr
        clear hr
        have r_lt := r_10.lt
        have cell_r := r_10.cell
        have froz_r := r_10.frozen
        have lt_r := r_10.lt
        have gh_10 := HG2.out
        have o_10 := ho
        clear ho
        have o_lt := o_10.lt
        have cell_o := o_10.cell
        have froz_o := o_10.frozen
        have lt_o := o_10.lt
        go_wp2_with fail
        refine calls_forget0 (W := wr) ?_ ?_
        (focus (exact belBy))
        intro X11 hX11
        have sX11 := hX11.size
        refine (HO.out _ _ _ _ _ _ _ ⟨own_weak (own_below rj_10 hX11) (Nat.zero_le _), own_weak (own_below rt_10 hX11) (Nat.zero_le _), own_weak (own_below rf_10 hX11) (Nat.zero_le _)⟩ (by omega) (by omega)).mono ?_
        rintro e w11 ⟨rfl, hb11⟩
        have s11 := hb11.size
        have hT11 := hX11.trans (hb11.mono sX11)
        have b_11 := b_10.trans (hT11.mono (by omega))
        have gh_11 := gh_10.trans (hT11.mono (by omega))
        have rj_11 := own_below rj_10 hT11
        have rt_11 := own_below rt_10 hT11
        have rf_11 := own_below rf_10 hT11
        have r_11 := Blk.past hT11 r_10
        have o_11 := Blk.past hT11 o_10
        clear gh_10 rj_10 rt_10 rf_10 r_10 o_10 b_10 cell_r froz_r lt_r cell_o froz_o lt_o hX11 hT11 hb11
        have cell_r := r_11.cell
        have froz_r := r_11.frozen
        have lt_r := r_11.lt
        have cell_o := o_11.cell
        have froz_o := o_11.frozen
        have lt_o := o_11.lt
        go_wp2_with fail
        refine (sStep S' HS.out hj0 ht0 (by omega) _ _ _ _ _ _ w1.heap.size X1 w11 gh_11 (by omega) o_11 rj_11 rt_11 rf_11).mono ?_
        rintro e w12 ⟨rfl, J2, cj2, T2, ct2, F2, cf2, ko, k1, k2, k3, hb3⟩
        have hB := below_ghost hb3 gh_11 b_11 (by omega)
        have hR := blk_ghost hb3 gh_11 hXR r_11
        have HB3 := hid hb3
        clear gh_11 b_11 r_11 o_11 rj_11 rt_11 rf_11 hb3 cell_r froz_r lt_r cell_o froz_o lt_o
        go_wp2
        go_roundw
        case rel => exact ⟨k + 1, stepS S', J2, cj2, T2, ct2, F2, cf2, by omega, by go_num, by rw [hd']; exact E1.out, by rw [hd', E2.out]; omega, by omega, by omega, by omega, k1, k2, k3, hR, ko, hB, HB3.out⟩
        case measure => simp [intOf]; omega
    · obtain rfl : k = m := by omega
      rw [Nat.sub_self] at e1 e2
      have e2' : runN k S = k := by rw [e2]; exact Nat.zero_add k
      have E1 := hid (show runS k S = S' from e1)
      have E2 := hid e2'
      have hway : decide ((k : Int) < n) = false ∨ (decide ((k : Int) < n) = true ∧ decide (n ≤ (400 : Int)) = false) := by
        have h := HM.out
        unfold runM at h
        split at h
        · next h1 => exact Or.inl (by rw [decide_eq_false_iff_not]; have := inB_iff.1 h1; omega)
        · next h1 =>
          by_cases h0 : (k : Int) < n
          · exact Or.inr ⟨decide_eq_true h0, by rw [decide_eq_false_iff_not]; exact fun h2 => h1 (inB_iff.2 ⟨by omega, h2⟩)⟩
          · exact Or.inl (decide_eq_false h0)
      clear e1 e2 e2' hlt
      rcases hway with hq0 | ⟨hq0, hq1⟩
      all_goals
        have b_10 := hb
        have s_10 := b_10.size
        have rj_in := own_off hj ho (by decide)
        have rj_10 := hj
        clear hj
        have rt_in := own_off ht ho (by decide)
        have rt_10 := ht
        clear ht
        have rf_in := own_off hf ho (by decide)
        have rf_10 := hf
        clear hf
        have r_10 := hr
        clear hr
        have r_lt := r_10.lt
        have cell_r := r_10.cell
        have froz_r := r_10.frozen
        have lt_r := r_10.lt
        have o_10 := ho
        clear ho
        have o_lt := o_10.lt
        have cell_o := o_10.cell
        have froz_o := o_10.frozen
        have lt_o := o_10.lt
        go_wp2_with fail
        refine calls_forget0 (W := wr) ?_ ?_
        (focus (exact belBy))
        intro X11 hX11
        have sX11 := hX11.size
        refine (sCopyS S' _ _ _ _ _ _ _ ⟨own_weak (own_below rj_10 hX11) (Nat.zero_le _), own_weak (own_below rt_10 hX11) (Nat.zero_le _), own_weak (own_below rf_10 hX11) (Nat.zero_le _)⟩ (by omega) (by omega) (by omega)).mono ?_
        rintro e w11 ⟨K', dj', L', dt', M', df', rfl, kj_11, kt_11, kf_11, hb11⟩
        have s11 := hb11.size
        have hT11 := hX11.trans (hb11.mono sX11)
        have b_11 := b_10.trans (hT11.mono (by omega))
        have rj_11 := own_below rj_10 hT11
        have rt_11 := own_below rt_10 hT11
        have rf_11 := own_below rf_10 hT11
        have r_11 := Blk.past hT11 r_10
        have o_11 := Blk.past hT11 o_10
        have kj_in := own_in kj_11
        have kt_in := own_in kt_11
        have kf_in := own_in kf_11
        clear rj_10 rt_10 rf_10 r_10 o_10 b_10 cell_r froz_r lt_r cell_o froz_o lt_o hX11 hT11 hb11
        have cell_r := r_11.cell
        have froz_r := r_11.frozen
        have lt_r := r_11.lt
        have cell_o := o_11.cell
        have froz_o := o_11.frozen
        have lt_o := o_11.lt
        have HRJ2 := hid kj_11
        have HRT2 := hid kt_11
        have Hrfl2 := hid kf_11
        have HB2 := hid b_11
        have hXW : X1.heap.size ≤ X11.heap.size := by omega
        clear kj_11 kt_11 kf_11 b_11
        go_wp2_with fail
        ((try simp only [Exit.inBlock, Exit.then]); apply bodyPost_ret0; focus ((try simp only [results, Tryz.results51]); (try go_simp); (try rfl)))
        rw [E1.out, E2.out]
        refine ⟨K', dj', L', dt', M', df', rfl, ?_, ?_, ?_, ?_⟩
        · refine own_weak (base := X11.heap.size) ?_ (by omega)
          have h := HRJ2.out
          exact ownBy
        · refine own_weak (base := X11.heap.size) ?_ (by omega)
          have h := HRT2.out
          exact ownBy
        · refine own_weak (base := X11.heap.size) ?_ (by omega)
          have h := Hrfl2.out
          exact ownBy
        · have hb := HB2.out
          exact belBy
end Go.Proofs.YtjknadnknainbaaGreatDoor
namespace Go.Proofs.YtjknadnknainbaaGreatDoor
open Go.RowKit

def sumT : List Tk → Int
  | [] => 0
  | t :: ts => t.c + sumT ts
theorem sumT_append : ∀ a b : List Tk, sumT (a ++ b) = sumT a + sumT b
  | [], b => by simp [sumT]
  | t :: a, b => by simp only [List.cons_append, sumT, sumT_append a b]; omega
def okS (S : SV) : Prop := schedOk S ∧ (∀ j ∈ S.js, j.l + j.d ≤ 20) ∧ sumT S.ts ≤ S.n
theorem jbsOk_erase {js : List Jb} (h : jbsOk js) (k : Nat) : jbsOk (js.eraseIdx k) := by
  refine ⟨fun j hj => h.1 j (List.mem_of_mem_eraseIdx hj), ?_⟩
  intro i q j x hi hq hlt
  rw [List.getElem?_eraseIdx] at hi hq
  split at hi <;> split at hq
  · exact h.2 _ _ _ _ hi hq hlt
  · omega
  · exact h.2 _ _ _ _ hi hq (by omega)
  · exact h.2 _ _ _ _ hi hq (by omega)
theorem jbsOk_set {js : List Jb} (h : jbsOk js) {k : Nat} {j : Jb} (hk : js[k]? = some j) (y : Jb) (hy : jbIn y = true) (hi : y.i = j.i) : jbsOk (js.set k y) := by
  refine ⟨fun a ha => ?_, ?_⟩
  · rcases List.mem_or_eq_of_mem_set ha with h1 | rfl
    · exact h.1 a h1
    · exact hy
  · intro a q u x ha hq hlt
    rw [List.getElem?_set] at ha hq
    split at ha
    · next e =>
      subst e
      split at ha
      · injection ha with ha
        subst ha
        rw [if_neg (by omega)] at hq
        rw [hi]
        exact h.2 _ _ _ _ hk hq hlt
      · cases ha
    · split at hq
      · next e =>
        subst e
        split at hq
        · injection hq with hq
          subst hq
          rw [hi]
          exact h.2 _ _ _ _ ha hk hlt
        · cases hq
      · exact h.2 _ _ _ _ ha hq hlt
theorem tksOk_add {ts : List Tk} (h : tksOk ts) (hl : ts.length < 1000) {n k : Int} (hn : ∀ t ∈ ts, t.f + t.c ≤ n) (h0 : 0 ≤ n) (h1 : n ≤ 1000) (h2 : 0 ≤ k) (h3 : k ≤ 1000) : tksOk (ts ++ [⟨n, k⟩]) := by
  obtain ⟨_, ha, hb⟩ := h
  refine ⟨by simp; omega, ?_, ?_⟩
  · intro t ht
    rcases List.mem_append.1 ht with h | h
    · exact ha t h
    · rw [List.mem_singleton] at h
      subst h
      unfold tkIn
      rw [inB_iff.2 ⟨h0, h1⟩, inB_iff.2 ⟨h2, h3⟩]
      rfl
  · intro i q t x hi hq hlt
    have hil : i < (ts ++ [(⟨n, k⟩ : Tk)]).length := (List.getElem?_eq_some_iff.1 hi).1
    rw [List.length_append, List.length_singleton] at hil
    rw [List.getElem?_append_left (by omega)] at hq
    by_cases he : i < ts.length
    · rw [List.getElem?_append_left he] at hi
      exact hb _ _ _ _ hi hq hlt
    · obtain rfl : i = ts.length := by omega
      rw [List.getElem?_append_right (Nat.le_refl _), Nat.sub_self] at hi
      injection hi with hi
      subst hi
      have := hn x (List.mem_of_getElem? hq)
      rintro ⟨m1, m2, m3, m4⟩
      simp only at m3
      omega
theorem okS_step {S : SV} (h : okS S) (hb : stepB S = true) : okS (stepS S) := by
  obtain ⟨hS, hld, hsum⟩ := h
  obtain ⟨_, hj0, ht0⟩ := stepB_parts hb
  obtain ⟨hp, hjl, hts, hjs, htn⟩ := id hS
  have hlen := stepS_len S
  cases hf : failsB S
  · rw [stepS_take hf] at hlen ⊢
    have htk := take_yes hS hj0 hf
    obtain ⟨⟨a1, a2, a3, a4, a5⟩, b1, ⟨b2, b2'⟩, ⟨b3, b3'⟩, b4, b4'⟩ := sched_facts hS hj0
    unfold takeB at htk
    simp only [Bool.and_eq_true, decide_eq_true_eq] at htk
    obtain ⟨⟨hp', hin⟩, hle⟩ := htk
    have hp2 := poolOk_iff.1 hp'
    have hat := job_at hj0
    have hld' := hld _ (List.mem_of_getElem? hat)
    have hjs' : jbsOk (stepT S).js ∧ ∀ j ∈ (stepT S).js, j.l + j.d ≤ 20 := by
      show jbsOk (if (job S).l = 1 then S.js.eraseIdx (best S) else S.js.set (best S) (jbNext (job S))) ∧ ∀ j ∈ (if (job S).l = 1 then S.js.eraseIdx (best S) else S.js.set (best S) (jbNext (job S))), j.l + j.d ≤ 20
      split
      · exact ⟨jbsOk_erase hjs _, fun j hj => hld j (List.mem_of_mem_eraseIdx hj)⟩
      · next hl1 =>
        refine ⟨jbsOk_set hjs hat _ (jbIn_iff.2 ?_) rfl, fun j hj => ?_⟩
        · simp only [jbNext]
          omega
        · rcases List.mem_or_eq_of_mem_set hj with h | rfl
          · exact hld j h
          · simp only [jbNext]
            omega
    refine ⟨⟨poolOk_iff.2 ?_, Nat.le_trans hlen.1 hjl, tksOk_add hts ht0 htn (by omega) (by omega) (by omega) (by omega), hjs'.1, ?_⟩, hjs'.2, ?_⟩
    · show 1 ≤ S.z ∧ S.z ≤ 1000 ∧ 0 ≤ S.n + (job S).n ∧ S.n + (job S).n ≤ burned S ∧ burned S ≤ S.z
      omega
    · intro t ht
      show t.f + t.c ≤ S.n + (job S).n
      rcases List.mem_append.1 ht with h | h
      · have := htn t h
        omega
      · rw [List.mem_singleton] at h
        subst h
        exact Int.le_refl _
    · show sumT (S.ts ++ [⟨S.n, (job S).n⟩]) ≤ S.n + (job S).n
      rw [sumT_append]
      simp only [sumT]
      omega
  · rw [stepS_fail hf] at hlen ⊢
    exact ⟨⟨hp, Nat.le_trans hlen.1 hjl, hts, jbsOk_erase hjs _, htn⟩, fun j hj => hld j (List.mem_of_mem_eraseIdx hj), hsum⟩
theorem okS_run : ∀ (m : Nat) {S : SV}, okS S → okS (runS m S)
  | 0, S, h => h
  | m + 1, S, h => by
    unfold runS
    split
    · next hb => exact okS_run m (okS_step h hb)
    · exact h
theorem tsRun : ∀ (m : Nat) (S : SV), (runS m S).ts.length ≤ S.ts.length + runN m S
  | 0, S => Nat.le_refl _
  | m + 1, S => by
    unfold runS runN
    split
    · have h1 := tsRun m (stepS S)
      have h2 := stepS_len S
      omega
    · exact Nat.le_refl _
theorem runN_le : ∀ (m : Nat) (S : SV), runN m S ≤ m
  | 0, S => Nat.le_refl _
  | m + 1, S => by
    unfold runN
    split
    · have := runN_le m (stepS S)
      omega
    · omega
theorem lenRunS : ∀ (m : Nat) (S : SV), (runS m S).js.length ≤ S.js.length ∧ (runS m S).ts.length ≤ S.ts.length + m ∧ (runS m S).fs.length ≤ S.fs.length + m
  | 0, S => ⟨Nat.le_refl _, Nat.le_refl _, Nat.le_refl _⟩
  | m + 1, S => by
    unfold runS
    split
    · have h1 := lenRunS m (stepS S)
      have h2 := stepS_len S
      omega
    · omega
theorem okS_crash {S : SV} (h : okS S) : okS (crashS S) := by
  obtain ⟨hS, hld, hsum⟩ := h
  unfold crashS
  rw [schedOkB_yes hS]
  obtain ⟨hp, hjl, hts, hjs, htn⟩ := id hS
  have hp2 := poolOk_iff.1 hp
  refine ⟨⟨poolOk_iff.2 ?_, hjl, hts, hjs, fun t ht => ?_⟩, hld, ?_⟩
  · show 1 ≤ S.z ∧ S.z ≤ 1000 ∧ 0 ≤ S.b ∧ S.b ≤ S.b ∧ S.b ≤ S.z
    omega
  · have := htn t ht
    show t.f + t.c ≤ S.b
    omega
  · show sumT S.ts ≤ S.b
    omega
theorem crash_n {S : SV} (h : okS S) : (crashS S).n = S.b := by
  unfold crashS
  rw [schedOkB_yes h.1]
  rfl
theorem okS_add {S : SV} {id need rounds : Int} (h : okS S) (hb : addB S id need rounds = true) (hr : rounds ≤ 20) : okS (addS S id need rounds) := by
  unfold addB at hb
  simp only [Bool.and_eq_true] at hb
  refine ⟨schedOkB_iff.1 hb.2, fun j hj => ?_, h.2.2⟩
  rcases List.mem_append.1 hj with h1 | h1
  · exact h.2.1 j h1
  · rw [List.mem_singleton] at h1
    subst h1
    show rounds + 0 ≤ 20
    omega
theorem okS_reserve {S : SV} (h : okS S) {k : Int} (hr : resB S.z S.n S.b k = true) : okS { S with b := S.b + k } := by
  obtain ⟨hS, hld, hsum⟩ := h
  obtain ⟨hp, hjl, hts, hjs, htn⟩ := id hS
  unfold resB at hr
  simp only [Bool.and_eq_true, decide_eq_true_eq, inB_iff] at hr
  have hp2 := poolOk_iff.1 hp
  exact ⟨⟨poolOk_iff.2 (by show 1 ≤ S.z ∧ S.z ≤ 1000 ∧ 0 ≤ S.n ∧ S.n ≤ S.b + k ∧ S.b + k ≤ S.z; omega), hjl, hts, hjs, htn⟩, hld, hsum⟩
theorem okS_new {z : Int} (h1 : 1 ≤ z) (h2 : z ≤ 1000) : okS ⟨z, 0, 0, [], [], []⟩ := by
  refine ⟨⟨poolOk_iff.2 (by show 1 ≤ z ∧ z ≤ 1000 ∧ (0 : Int) ≤ 0 ∧ (0 : Int) ≤ 0 ∧ 0 ≤ z; omega), by simp, ⟨by simp, by simp, ?_⟩, ⟨by simp, ?_⟩, by simp⟩, by simp, by simp [sumT]⟩
  · intro i k t x h
    simp at h
  · intro i k t x h
    simp at h
/-! failures -/
theorem fails_iff {S : SV} (h : okS S) (h0 : 0 < S.js.length) : failsB S = decide (S.z < S.n + (job S).n) := by
  obtain ⟨⟨a1, a2, a3, a4, a5⟩, b1, ⟨b2, b2'⟩, _⟩ := sched_facts h.1 h0
  have hp := h.1.1
  unfold failsB resB short
  rw [hp]
  by_cases hs : 0 < S.n + (job S).n - S.b
  · rw [decide_eq_true hs, inB_iff.2 ⟨by omega, by omega⟩]
    by_cases hz : S.z < S.n + (job S).n
    · rw [decide_eq_true hz, decide_eq_false (by omega)]
      rfl
    · rw [decide_eq_false hz, decide_eq_true (by omega)]
      rfl
  · rw [decide_eq_false hs, decide_eq_false (p := S.z < S.n + (job S).n) (by omega)]
    rfl
end Go.Proofs.YtjknadnknainbaaGreatDoor
namespace Go.Proofs.YtjknadnknainbaaGreatDoor
theorem runM_le (n : Int) : runM n ≤ 400 := by
  unfold runM
  split
  · next h => have := inB_iff.1 h; omega
  · omega
theorem lenSchedRun (S : SV) (n : Int) : (runS (runM n) S).js.length ≤ S.js.length ∧ (runS (runM n) S).ts.length ≤ S.ts.length + 400 ∧ (runS (runM n) S).fs.length ≤ S.fs.length + 400 := by
  have h1 := lenRunS (runM n) S
  have h2 := runM_le n
  omega
end Go.Proofs.YtjknadnknainbaaGreatDoor
