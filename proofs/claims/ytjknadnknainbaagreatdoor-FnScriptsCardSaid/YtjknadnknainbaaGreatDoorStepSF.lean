/- The step of the reference on a schedule of one's own: one of its ways. -/
import Derived.Test.YtjknadnknainbaaGreatDoorMem
import Derived.Test.YtjknadnknainbaaGreatDoorSchedOk2
import Derived.Test.YtjknadnknainbaaGreatDoorDrop2
import Derived.Deep.RegionLaw
import Derived.BigQuiet
import Derived.StillTailTactics
set_option linter.unusedVariables false
namespace Go.Proofs.YtjknadnknainbaaGreatDoor
open Go.RowKit

set_option maxRecDepth 100000 in
set_option maxHeartbeats 12800000 in
theorem sStepSF (S : SV) (hv : failsB S = true) (hS : schedOk S) (hj0 : 0 < S.js.length) (ht0 : S.ts.length < 1000) (hf0 : S.fs.length ≤ 100000000) (J T F : Option Addr) (cj tcp cf o : Nat) (w wr : World) (hb : Below w.heap.size w wr) (ho : w.heap.size ≤ o)
    (kb : Blk wr o 40 #[.int .i64 S.z, .int .i64 S.n, .int .i64 S.b, .slice J S.js.length cj, .slice T S.ts.length tcp, .slice F S.fs.length cf])
    (h1 : wr.ownsRow w.heap.size 64 4 (.slice J S.js.length cj) S.js.length (ints (flatJ S.js))) (h2 : wr.ownsRow w.heap.size 88 2 (.slice T S.ts.length tcp) S.ts.length (ints (flatT S.ts)))
    (h3 : wr.ownsRow w.heap.size 3 1 (.slice F S.fs.length cf) S.fs.length (ints S.fs)) :
    Calls Tryz.prog 75 #[.pointer (some ⟨o, 0, none⟩)] wr fun e w' => e = .returned (.int .i64 (job S).i) ∧ ∃ J' cj' T' tcp' F' cf',
      Blk w' o 40 #[.int .i64 (stepS S).z, .int .i64 (stepS S).n, .int .i64 (stepS S).b, .slice J' (stepS S).js.length cj', .slice T' (stepS S).ts.length tcp', .slice F' (stepS S).fs.length cf'] ∧
      w'.ownsRow w.heap.size 64 4 (.slice J' ((stepS S).js).length cj') ((stepS S).js).length (ints (flatJ ((stepS S).js))) ∧ w'.ownsRow w.heap.size 88 2 (.slice T' ((stepS S).ts).length tcp') ((stepS S).ts).length (ints (flatT ((stepS S).ts))) ∧ w'.ownsRow w.heap.size 3 1 (.slice F' ((stepS S).fs).length cf') ((stepS S).fs).length (ints ((stepS S).fs)) ∧ Below w.heap.size w w' := by
  have HV := hid hv
  clear hv
  obtain ⟨g, rfl, hg0, hg1, hgc⟩ := own_at h1 hj0
  clear hgc
  have hjk := job_at hj0
  have hkl := best_lt hj0
  obtain ⟨⟨a1, a2, a3, a4, a5⟩, ⟨b1, b2⟩, ⟨b3, b4⟩, ⟨b5, b6⟩, b7, b8⟩ := sched_facts hS hj0
  have hTK := take_yes hS hj0
  have hn16 : S.js.length ≤ 16 := hS.2.1
  obtain ⟨k, hk⟩ : ∃ k, best S = k := ⟨_, rfl⟩
  have HK := hid hk
  have hbk : bestTo S.js S.js.length = k := hk
  rw [hk] at hjk hkl
  have hin : ∀ (q : Nat) (j : Jb), S.js[q]? = some j → 0 ≤ j.d ∧ j.d ≤ 20 := fun q j h => (jbIn_iff.1 (hS.2.2.2.1.1 _ (List.mem_of_getElem? h))).2.2.2
  have HIN := hid hin
  have HH1 := hid h1
  have HH2 := hid h2
  have HH3 := hid h3
  have HKB := hid kb
  have HB := hid hb
  have HBK := hid hbk
  have HJK := hid hjk
  have HTK := hid hTK
  have cell_o := kb.cell
  have lt_o := kb.lt
  have s0 := hb.size
  clear hin h1 h2 h3 hb hbk hjk hTK kb
  go_enter Tryz.func75, Tryz.ntmps75
  go_wp2
  go_loopw [4, 3] (fun i b wx => ∃ q : Nat, 1 ≤ q ∧ q ≤ S.js.length ∧ i = .int .i64 q ∧ b = .int .i64 (bestTo S.js q : Nat) ∧ Below wr.heap.size wr wx) (fun i _ _ => S.js.length - (intOf i).toNat)
  case atStart => exact ⟨1, Nat.le_refl _, by omega, rfl, by rw [bestTo_one]; rfl, Below.refl _ _⟩
  case round =>
    obtain ⟨q, hq1, hq2, rfl, rfl, hx⟩ := hrel
    have hbl := bestTo_lt hj0 q hq2
    have HX := hid hx
    have ko := HKB.out.past hx
    have cell_o2 := ko.cell
    have lt_o2 := ko.lt
    have h1' := own_below HH1.out hx
    by_cases hlt : q < S.js.length
    · skip
      obtain ⟨j, hj⟩ : ∃ j, S.js[q]? = some j := ⟨_, List.getElem?_eq_getElem hlt⟩
      obtain ⟨b, hb⟩ : ∃ j, S.js[bestTo S.js q]? = some j := ⟨_, List.getElem?_eq_getElem hbl⟩
      have hsucc := bestTo_succ hj hb
      have d1 := h1'.cellAt (q * 4 + 3) (by omega)
      rw [ints_get (flatJ_at hj 3 j.d rfl)] at d1
      have d2 := h1'.cellAt (bestTo S.js q * 4 + 3) (by omega)
      rw [ints_get (flatJ_at hb 3 b.d rfl)] at d2
      obtain ⟨bq, hbq⟩ : ∃ x, bestTo S.js q = x := ⟨_, rfl⟩
      rw [hbq] at hsucc d2 hbl
      rw [hbq]
      have HS := hid hsucc
      clear hsucc hbq hj hb hx ko h1'
      by_cases hd : j.d < b.d
      · go_wp2
        go_quiet (fail)
        go_wp2
        go_roundw
        case rel =>
          refine ⟨q + 1, by omega, by omega, by go_num, ?_, ?_⟩
          · rw [HS.out, if_pos hd]
          · have h := HX.out
            exact belBy
        case measure => simp [intOf]; omega
      · go_wp2
        go_quiet (fail)
        go_wp2
        go_roundw
        case rel =>
          refine ⟨q + 1, by omega, by omega, by go_num, ?_, ?_⟩
          · rw [HS.out, if_neg (by omega)]
          · have h := HX.out
            exact belBy
        case measure => simp [intOf]; omega
    · obtain rfl : q = S.js.length := by omega
      rw [HBK.out]
      have hB := HB.out.trans (HX.out.mono s0)
      have hJ := h1'
      have hT := own_below HH2.out hx
      have hF := own_below HH3.out hx
      have dd := fun p x (hp : (job S).flat[p]? = some x) => ints_get (flatJ_at HJK.out p x hp)
      have d0 := (hJ.cellAt (k * 4) (by omega)).trans (dd 0 _ rfl)
      have d1 := (hJ.cellAt (k * 4 + 1) (by omega)).trans (dd 1 _ rfl)
      have d2 := (hJ.cellAt (k * 4 + 2) (by omega)).trans (dd 2 _ rfl)
      have d3 := (hJ.cellAt (k * 4 + 3) (by omega)).trans (dd 3 _ rfl)
      have hw : w.heap.size ≤ wr.heap.size := hB.size
      have hK := HKB.out.past HX.out
      have hiJ := own_off hJ hK (by decide)
      have hiT := own_off hT hK (by decide)
      have hiF := own_off hF hK (by decide)
      have hjn : wrap_ok (S.n + (job S).n - S.b) := by unfold wrap_ok; omega
      clear cell_o2 lt_o2 ko h1' hx cell_o lt_o
      cases hfl : failsB S
      · skip
        have eSet := flatJ_set S.js k (jbNext (job S))
        unfold jbNext at eSet
        dsimp only at eSet
        have HFL := hid hfl
        have htk := HTK.out hfl
        by_cases hsh : 0 < S.n + (job S).n - S.b
        case pos =>
          have hbu : burned S = S.b + (S.n + (job S).n - S.b) := by unfold burned short; rw [if_pos hsh]
          have hrs : resB S.z S.n S.b (S.n + (job S).n - S.b) = true := by
            unfold failsB short at hfl
            rw [decide_eq_true hsh, Bool.true_and] at hfl
            simpa using hfl
          have hpr := sPoolReserve S.z S.n S.b (S.n + (job S).n - S.b)
          rw [hrs, pick_yes] at hpr
          have HPR := hid hpr
          rw [hbu] at htk
          have hpt := sPoolTake S.z S.n (S.b + (S.n + (job S).n - S.b)) (job S).n
          rw [htk, pick_yes, pick_yes, pick_yes] at hpt
          have HPT := hid hpt
          have HBU := hid hbu
          clear hpr hfl hrs htk hpt hbu
          by_cases hl : (job S).l = 1
          case pos =>
            have HL := hid hl
            have HL0 := hid (show (job S).l - 1 = 0 by omega)
            clear hl
            exact absurd (HV.out.symm.trans HFL.out) (by decide)
          case neg =>
            have HL := hid hl
            have hl' : ¬ ((job S).l - 1 = 0) := by omega
            clear hl
            exact absurd (HV.out.symm.trans HFL.out) (by decide)
        case neg =>
          have hbu : burned S = S.b := by unfold burned short; rw [if_neg hsh]
          rw [hbu] at htk
          have hpt := sPoolTake S.z S.n S.b (job S).n
          rw [htk, pick_yes, pick_yes, pick_yes] at hpt
          have HPT := hid hpt
          have HBU := hid hbu
          clear hfl htk hpt hbu
          by_cases hl : (job S).l = 1
          case pos =>
            have HL := hid hl
            have HL0 := hid (show (job S).l - 1 = 0 by omega)
            clear hl
            exact absurd (HV.out.symm.trans HFL.out) (by decide)
          case neg =>
            have HL := hid hl
            have hl' : ¬ ((job S).l - 1 = 0) := by omega
            clear hl
            exact absurd (HV.out.symm.trans HFL.out) (by decide)
      · skip
        have hsh : 0 < S.n + (job S).n - S.b := by
          unfold failsB short at hfl
          simp only [Bool.and_eq_true, decide_eq_true_eq] at hfl
          exact hfl.1
        have hrs : resB S.z S.n S.b (S.n + (job S).n - S.b) = false := by
          unfold failsB short at hfl
          simp only [Bool.and_eq_true, Bool.not_eq_true'] at hfl
          exact hfl.2
        have hpr := sPoolReserve S.z S.n S.b (S.n + (job S).n - S.b)
        rw [hrs, pick_no] at hpr
        have HPR := hid hpr
        have HFL := hid hfl
        have HRS := hid hrs
        clear hpr hfl hrs
        have b_30 := hB
        have s_30 := b_30.size
        have rj_in := hiJ
        have rj_30 := hJ
        clear hJ
        have rt_in := hiT
        have rt_30 := hT
        clear hT
        have rf_in := hiF
        have rf_30 := hF
        clear hF
        have ox_30 := hK
        clear hK
        have ox_lt := ox_30.lt
        have cell_ox := ox_30.cell
        have froz_ox := ox_30.frozen
        have lt_ox := ox_30.lt
        go_upto_region 8 with fail
        refine wp_forget1 (w0 := wr) (B := wr.heap.size) (b0 := wr.heap.size) (t0 := 64) (c0 := #[.int .i64 (job S).i, .int .i64 (job S).n, .int .i64 (job S).l, .int .i64 (job S).d]) ?_ ?_ ?_
        (focus exact blkcBy)
        (focus (exact belBy))
        intro w31 jb_31 hX31
        have sX31 := hX31.size
        have jb_lt := jb_31.lt
        have b_31 := b_30.trans (hX31.mono (by omega))
        have rj_31 := own_below rj_30 hX31
        have rt_31 := own_below rt_30 hX31
        have rf_31 := own_below rf_30 hX31
        have ox_31 := Blk.past hX31 ox_30
        clear rj_30 rt_30 rf_30 ox_30 b_30 cell_ox froz_ox lt_ox hX31
        have cell_ox := ox_31.cell
        have froz_ox := ox_31.frozen
        have lt_ox := ox_31.lt
        have cell_jb := jb_31.cell
        have froz_jb := jb_31.frozen
        have lt_jb := jb_31.lt
        go_quiet (fail)
        go_wp2_with fail
        go_wp2_with fail
        refine calls_forget0 (W := w31) ?_ ?_
        (focus (exact belBy))
        intro X32 hX32
        have sX32 := hX32.size
        refine (HPR.out _).mono ?_
        rintro e w32 ⟨rfl, hb32⟩
        have s32 := hb32.size
        have hT32 := hX32.trans (hb32.mono sX32)
        have b_32 := b_31.trans (hT32.mono (by omega))
        have rj_32 := own_below rj_31 hT32
        have rt_32 := own_below rt_31 hT32
        have rf_32 := own_below rf_31 hT32
        have ox_32 := Blk.past hT32 ox_31
        have jb_32 := Blk.past hT32 jb_31
        clear rj_31 rt_31 rf_31 ox_31 jb_31 b_31 cell_ox froz_ox lt_ox cell_jb froz_jb lt_jb hX32 hT32 hb32
        have cell_ox := ox_32.cell
        have froz_ox := ox_32.frozen
        have lt_ox := ox_32.lt
        have cell_jb := jb_32.cell
        have froz_jb := jb_32.frozen
        have lt_jb := jb_32.lt
        go_wp2_with fail
        refine wp_forget1 (w0 := w32) (B := w32.heap.size) (b0 := w32.heap.size) (t0 := 35) (c0 := #[.int .i64 S.z, .int .i64 S.n, .int .i64 S.b]) ?_ ?_ ?_
        (focus exact blkcBy)
        (focus (exact belBy))
        intro w33 pb_33 hX33
        have sX33 := hX33.size
        have pb_lt := pb_33.lt
        have b_33 := b_32.trans (hX33.mono (by omega))
        have rj_33 := own_below rj_32 hX33
        have rt_33 := own_below rt_32 hX33
        have rf_33 := own_below rf_32 hX33
        have ox_33 := Blk.past hX33 ox_32
        have jb_33 := Blk.past hX33 jb_32
        clear rj_32 rt_32 rf_32 ox_32 jb_32 b_32 cell_ox froz_ox lt_ox cell_jb froz_jb lt_jb hX33
        have cell_ox := ox_33.cell
        have froz_ox := ox_33.frozen
        have lt_ox := ox_33.lt
        have cell_jb := jb_33.cell
        have froz_jb := jb_33.frozen
        have lt_jb := jb_33.lt
        have cell_pb := pb_33.cell
        have froz_pb := pb_33.frozen
        have lt_pb := pb_33.lt
        go_cut [] (fun wx => ∃ A_rf c_rf, Blk wx (o) 40 #[.int .i64 S.z, .int .i64 S.n, .int .i64 S.b, .slice (some ⟨g, 0, none⟩) S.js.length cj, .slice T S.ts.length tcp, .slice A_rf (S.fs.length + 1) c_rf] ∧ wx.ownsRow w.heap.size 3 1 (.slice A_rf (S.fs.length + 1) c_rf) (S.fs.length + 1) (ints S.fs ++ [.int .i64 (job S).i]) ∧ Touch (o :: (.slice F S.fs.length cf : Value).ownBlock.toList) w33 wx)
        case first =>
          go_region_law (refine step_app _ rfl (.tmp 77) (.tmp 80) 38 rfl w.heap.size 3 (.int .i64 0) 1 8 Tryz.underlying38 infoInt rfl (by decide) (.slice F S.fs.length cf) (S.fs.length) (ints S.fs) rfl ?_ ⟨w33.heap.size, 0, none⟩ 1 1 ([.int .i64 (job S).i]) rfl rfl ?_ (one_one _) (by omega) (by decide) ?_ ?_; (focus (repeat (first | (with_reducible assumption) | (with_reducible apply World.ownsRow.alloc) | (with_reducible apply World.ownsRow.drew)))); (focus (exact one_new _ _ _)); (focus (first | omega | (simp; done) | (simp; omega))); intro A5 c5 w5 ho5 hg5; have ht5 := touch_app (o := o) (w := w33) (by first | exact (Below.refl _ _).drew.alloc (Nat.le_refl _) _ | exact ((Below.refl _ _).alloc (Nat.le_refl _) _).drew | (exact belBy)) hg5; have kx5 := gr_blk hg5 (b := o) (t := 40) (cs := #[.int .i64 S.z, .int .i64 S.n, .int .i64 S.b, .slice (some ⟨g, 0, none⟩) S.js.length cj, .slice T S.ts.length tcp, .slice F S.fs.length cf]) (by exact blkcBy) (fun q hq => by have h1 := rf_in q hq; omega); have cx5 := kx5.cell; have fx5 := kx5.frozen; have lx5 := kx5.lt; clear hg5)
          all_goals
            go_wp2_with fail
            go_meet
            exact ⟨A5, c5, by exact blkcBy, own_setne ho5 (by first | decide | exact own_ne_obj ho5 kx5 (by decide)), ht5 _ _⟩
        case rest =>
          obtain ⟨A_rf, c_rf, ox_34, rf_n, hX34⟩ := hcut
          obtain ⟨w34, rfl⟩ : ∃ z : World, z = wc := ⟨_, rfl⟩
          have sX34 := hX34.size
          have b_34 := hX34.below b_33 (fun i hi => by rcases mem_row hi with h | h; (subst h; omega); (have h1 := rf_in i h; omega))
          have rj_34 := own_touch' hX34 rj_33 (fun q hq => by have h1 := rj_in q hq; refine not_mem_row (by omega) (fun p hp => by first | (have h2 := rf_in p hp; omega) | exact own_ne rf_33 rj_33 (by decide) p q hp hq))
          have rt_34 := own_touch' hX34 rt_33 (fun q hq => by have h1 := rt_in q hq; refine not_mem_row (by omega) (fun p hp => by first | (have h2 := rf_in p hp; omega) | exact own_ne rf_33 rt_33 (by decide) p q hp hq))
          have jb_34 := Blk.touch hX34 jb_33 (not_mem_row (by omega) (fun p hp => by have h2 := rf_in p hp; omega))
          have pb_34 := Blk.touch hX34 pb_33 (not_mem_row (by omega) (fun p hp => by have h2 := rf_in p hp; omega))
          have rf_34 := rf_n
          clear rj_33 rt_33 rf_33 ox_33 jb_33 pb_33 b_33 cell_ox froz_ox lt_ox cell_jb froz_jb lt_jb cell_pb froz_pb lt_pb hX34 rf_n rf_in
          have rf_in := own_off rf_34 ox_34 (by decide)
          have cell_ox := ox_34.cell
          have froz_ox := ox_34.frozen
          have lt_ox := ox_34.lt
          have cell_jb := jb_34.cell
          have froz_jb := jb_34.frozen
          have lt_jb := jb_34.lt
          have cell_pb := pb_34.cell
          have froz_pb := pb_34.frozen
          have lt_pb := pb_34.lt
          go_wp2_with fail
          refine calls_forget0 (W := w34) ?_ ?_
          (focus (exact belBy))
          intro X35 hX35
          have sX35 := hX35.size
          refine (sDrop _ _ _ _ _ _ _ _ _ _ _ _ _ _ S.js _ rfl hkl (by omega) (own_weak (own_below rj_34 hX35) (Nat.zero_le _)) (Blk.past hX35 ox_34)).mono ?_
          rintro e w35 ⟨rfl, Jd, cjd, ox_35, rj_n, hY35⟩
          have s35 := hY35.size
          have b_35 := hY35.below (b_34.trans (hX35.mono (by omega))) (by first | (simp; done) | (simp; omega))
          have rt_35 := own_touch' hY35 (own_below rt_34 hX35) (fun q hq => by have h1 := rt_in q hq; simp; omega)
          have rf_35 := own_touch' hY35 (own_below rf_34 hX35) (fun q hq => by have h1 := rf_in q hq; simp; omega)
          have jb_35 := Blk.touch hY35 (Blk.past hX35 jb_34) (by first | (simp; done) | (simp; omega))
          have pb_35 := Blk.touch hY35 (Blk.past hX35 pb_34) (by first | (simp; done) | (simp; omega))
          have rj_35 := rj_n
          clear rj_34 rt_34 rf_34 ox_34 jb_34 pb_34 b_34 cell_ox froz_ox lt_ox cell_jb froz_jb lt_jb cell_pb froz_pb lt_pb rj_n rj_in hX35 hY35
          have rj_in := own_off rj_35 ox_35 (by decide)
          have cell_ox := ox_35.cell
          have froz_ox := ox_35.frozen
          have lt_ox := ox_35.lt
          have cell_jb := jb_35.cell
          have froz_jb := jb_35.frozen
          have lt_jb := jb_35.lt
          have cell_pb := pb_35.cell
          have froz_pb := pb_35.frozen
          have lt_pb := pb_35.lt
          have HRJ := hid rj_35
          have HRT := hid rt_35
          have HRF := hid rf_35
          have HOX := hid ox_35
          have HBB := hid b_35
          clear rj_35 rt_35 rf_35 ox_35 b_35
          go_wp2_with fail
          ((try simp only [Exit.inBlock, Exit.then]); apply bodyPost_ret0; focus ((try simp only [results, Tryz.results75]); (try go_simp); (try rfl)))
          rw [stepS_fail HFL.out]
          have e4 : (stepF S).js = S.js.eraseIdx k := by rw [← HK.out]; rfl
          have e1 : (stepF S).js.length = S.js.length - 1 := by rw [e4]; exact lenErase hkl
          have e2 : (stepF S).fs.length = S.fs.length + 1 := by simp [stepF]
          have e3 : ints (stepF S).fs = ints S.fs ++ [.int .i64 (job S).i] := ints_snoc _ _
          rw [e1, e2, e3, e4]
          exact ⟨rfl, Jd, cjd, T, tcp, A_rf, c_rf, HOX.out, own_weak HRJ.out (by omega), HRT.out, HRF.out, HBB.out⟩
end Go.Proofs.YtjknadnknainbaaGreatDoor
