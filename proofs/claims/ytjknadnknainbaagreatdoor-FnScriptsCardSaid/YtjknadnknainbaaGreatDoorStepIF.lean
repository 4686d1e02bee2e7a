import Derived.Test.YtjknadnknainbaaGreatDoorMem
import Derived.Test.YtjknadnknainbaaGreatDoorDrop2
/- The step of a schedule, in the program: one of its ways. -/
namespace Go.Proofs.YtjknadnknainbaaGreatDoor
open Go.RowKit

set_option maxRecDepth 100000 in
set_option maxHeartbeats 12800000 in
theorem iStepIF (S : SV) (hyes : stepB S = true) (hv : failsB S = true) (J T F : Option Addr) (cj tcp cf : Nat) (w : World) (h : w.ownsRow 0 64 4 (.slice J S.js.length cj) S.js.length (ints (flatJ S.js)) ∧ w.ownsRow 0 88 2 (.slice T S.ts.length tcp) S.ts.length (ints (flatT S.ts)) ∧ w.ownsRow 0 3 1 (.slice F S.fs.length cf) S.fs.length (ints S.fs)) (b3 : S.fs.length ≤ 100000000) :
    Calls Tryz.prog 86 #[.agg #[.int .i64 S.z, .int .i64 S.n, .int .i64 S.b, .slice J S.js.length cj, .slice T S.ts.length tcp, .slice F S.fs.length cf]] w fun e w' => ∃ J' cj' T' tcp' F' cf', e = .returned (.tuple #[.agg #[.int .i64 ((stepS S).z), .int .i64 ((stepS S).n), .int .i64 ((stepS S).b), .slice J' ((stepS S).js.length) cj', .slice T' ((stepS S).ts.length) tcp', .slice F' ((stepS S).fs.length) cf'], .int .i64 (job S).i, .bool true]) ∧
      w'.ownsRow w.heap.size 64 4 (.slice J' ((stepS S).js).length cj') ((stepS S).js).length (ints (flatJ ((stepS S).js))) ∧ w'.ownsRow w.heap.size 88 2 (.slice T' ((stepS S).ts).length tcp') ((stepS S).ts).length (ints (flatT ((stepS S).ts))) ∧ w'.ownsRow w.heap.size 3 1 (.slice F' ((stepS S).fs).length cf') ((stepS S).fs).length (ints ((stepS S).fs)) ∧ Below w.heap.size w w' := by
  have HV := hid hv
  clear hv
  obtain ⟨hS, hj0, ht0⟩ := stepB_parts hyes
  obtain ⟨h1, h2, h3⟩ := h
  have HO := hid (iSchedOkS S)
  rw [schedOkB_iff.2 hS] at HO
  obtain ⟨g0, rfl, _, hg01, hgc0⟩ := own_at h1 hj0
  clear hgc0
  have hjk := job_at hj0
  have hkl := best_lt hj0
  obtain ⟨⟨a1, a2, a3, a4, a5⟩, ⟨b1, b2⟩, ⟨b3', b4⟩, ⟨b5, b6⟩, b7, b8⟩ := sched_facts hS hj0
  have hTK := take_yes hS hj0
  have hn16 : S.js.length ≤ 16 := hS.2.1
  have hne0 : ¬ S.js.length = 0 := by omega
  have hq1 : ((S.js.length : Int) == 0) = false := by rw [beq_eq_false_iff_ne]; omega
  have hq2 : decide ((1000 : Int) ≤ (S.ts.length : Int)) = false := by rw [decide_eq_false_iff_not]; omega
  obtain ⟨k, hk⟩ : ∃ k, best S = k := ⟨_, rfl⟩
  have HK := hid hk
  have hbk : bestTo S.js S.js.length = k := hk
  rw [hk] at hjk hkl
  have hin : ∀ (q : Nat) (j : Jb), S.js[q]? = some j → 0 ≤ j.d ∧ j.d ≤ 20 := fun q j h => (jbIn_iff.1 (hS.2.2.2.1.1 _ (List.mem_of_getElem? h))).2.2.2
  have HIN := hid hin
  have HBK := hid hbk
  have HJK := hid hjk
  have HTK := hid hTK
  have HS := hid hS
  clear hin hbk hjk hTK hS hyes hk
  go_enter Tryz.func86, Tryz.ntmps86
  have b_0 := (Below.refl w.heap.size w)
  have s_0 := b_0.size
  have oj_in := own_in h1
  have oj_0 := h1
  clear h1
  have ot_in := own_in h2
  have ot_0 := h2
  clear h2
  have of__in := own_in h3
  have of__0 := h3
  clear h3
  go_wp2_with fail
  refine calls_forget2 (W := w) (b0 := w.heap.size) (t0 := 40) (c0 := #[.int .i64 S.z, .int .i64 S.n, .int .i64 S.b, .slice (some ⟨g0, 0, none⟩) S.js.length cj, .slice T S.ts.length tcp, .slice F S.fs.length cf]) (b1 := w.heap.size + 1) (t1 := 40) (c1 := #[.int .i64 0, .int .i64 0, .int .i64 0, .slice none 0 0, .slice none 0 0, .slice none 0 0]) ?_ ?_ ?_ ?_
  (focus exact blkcBy)
  (focus exact blkcBy)
  (focus (exact belBy))
  intro X1 x_n r_n hX1
  have sX1 := hX1.size
  have x_lt := x_n.lt
  have r_lt := r_n.lt
  refine (iCopyS S _ _ _ _ _ _ _ ⟨(own_below oj_0 hX1), (own_below ot_0 hX1), (own_below of__0 hX1)⟩ (by omega) (by omega) (by omega)).mono ?_
  rintro e w1 ⟨J', cj', T', tcp', F', cf', rfl, rj_1, rt_1, rf_1, hb1⟩
  have s1 := hb1.size
  have hT1 := hX1.trans (hb1.mono sX1)
  have b_1 := b_0.trans (hT1.mono (by omega))
  have oj_1 := own_below oj_0 hT1
  have ot_1 := own_below ot_0 hT1
  have of__1 := own_below of__0 hT1
  have x_1 := Blk.past hb1 x_n
  have r_1 := Blk.past hb1 r_n
  have rj_in := own_in rj_1
  have rt_in := own_in rt_1
  have rf_in := own_in rf_1
  clear oj_0 ot_0 of__0 b_0 x_n r_n hX1 hT1 hb1
  have cell_x := x_1.cell
  have froz_x := x_1.frozen
  have lt_x := x_1.lt
  have cell_r := r_1.cell
  have froz_r := r_1.frozen
  have lt_r := r_1.lt
  go_wp2_with fail
  refine calls_forget1 (W := w1) (b0 := w1.heap.size) (t0 := 40) (c0 := #[.int .i64 S.z, .int .i64 S.n, .int .i64 S.b, .slice J' S.js.length cj', .slice T' S.ts.length tcp', .slice F' S.fs.length cf']) ?_ ?_ ?_
  (focus exact blkcBy)
  (focus (exact belBy))
  intro X2 o_n hX2
  have sX2 := hX2.size
  have o_lt := o_n.lt
  refine (HO.out _ _ _ _ _ _ _ ⟨(own_below oj_1 hX2), (own_below ot_1 hX2), (own_below of__1 hX2)⟩ (by omega) (by omega)).mono ?_
  rintro e w2 ⟨rfl, hb2⟩
  have s2 := hb2.size
  have hT2 := hX2.trans (hb2.mono sX2)
  have b_2 := b_1.trans (hT2.mono (by omega))
  have oj_2 := own_below oj_1 hT2
  have ot_2 := own_below ot_1 hT2
  have of__2 := own_below of__1 hT2
  have rj_2 := own_below rj_1 hT2
  have rt_2 := own_below rt_1 hT2
  have rf_2 := own_below rf_1 hT2
  have x_2 := Blk.past hT2 x_1
  have r_2 := Blk.past hT2 r_1
  have o_2 := Blk.past hb2 o_n
  clear oj_1 ot_1 of__1 rj_1 rt_1 rf_1 x_1 r_1 b_1 cell_x froz_x lt_x cell_r froz_r lt_r o_n hX2 hT2 hb2
  have cell_x := x_2.cell
  have froz_x := x_2.frozen
  have lt_x := x_2.lt
  have cell_r := r_2.cell
  have froz_r := r_2.frozen
  have lt_r := r_2.lt
  have cell_o := o_2.cell
  have froz_o := o_2.frozen
  have lt_o := o_2.lt
  go_upto_region 5 with fail
  refine wp_forget1 (w0 := w2) (B := w2.heap.size) (b0 := w2.heap.size) (t0 := 3) (c0 := #[.int .i64 0]) ?_ ?_ ?_
  (focus exact blkcBy)
  (focus (exact belBy))
  intro w3 kb_3 hX3
  have sX3 := hX3.size
  have kb_lt := kb_3.lt
  have b_3 := b_2.trans (hX3.mono (by omega))
  have oj_3 := own_below oj_2 hX3
  have ot_3 := own_below ot_2 hX3
  have of__3 := own_below of__2 hX3
  have rj_3 := own_below rj_2 hX3
  have rt_3 := own_below rt_2 hX3
  have rf_3 := own_below rf_2 hX3
  have x_3 := Blk.past hX3 x_2
  have r_3 := Blk.past hX3 r_2
  have o_3 := Blk.past hX3 o_2
  clear oj_2 ot_2 of__2 rj_2 rt_2 rf_2 x_2 r_2 o_2 b_2 cell_x froz_x lt_x cell_r froz_r lt_r cell_o froz_o lt_o hX3
  have cell_x := x_3.cell
  have froz_x := x_3.frozen
  have lt_x := x_3.lt
  have cell_r := r_3.cell
  have froz_r := r_3.frozen
  have lt_r := r_3.lt
  have cell_o := o_3.cell
  have froz_o := o_3.frozen
  have lt_o := o_3.lt
  have cell_kb := kb_3.cell
  have froz_kb := kb_3.frozen
  have lt_kb := kb_3.lt
  obtain ⟨g, rfl, hg0, hg1, hgc⟩ := own_at rj_3 hj0
  have HOJ := hid oj_3
  have HRJ := hid rj_3
  have HRT := hid rt_3
  have HRF := hid rf_3
  have HX := hid x_3
  have HR := hid r_3
  have HOO := hid o_3
  have HKB := hid kb_3
  have HB3 := hid b_3
  clear hgc oj_3 ot_3 of__3 rj_3 rt_3 rf_3 x_3 r_3 o_3 kb_3 b_3 froz_x froz_r froz_o froz_kb cell_r cell_o
  go_wp2
  clear cell_x cell_kb
  go_loopw [39] (fun i wx => ∃ q : Nat, q ≤ S.js.length ∧ i = .int .i64 q ∧ Touch [w2.heap.size] w3 wx ∧ Blk wx w2.heap.size 3 #[.int .i64 (bestTo S.js q : Nat)]) (fun i _ => S.js.length - (intOf i).toNat)
  case atStart => exact ⟨0, Nat.zero_le _, rfl, Touch.refl _ _, HKB.out⟩
  case round =>
    obtain ⟨q, hq2, rfl, hx, hkbq⟩ := hrel
    have hsz := hx.size
    have HXX := hid hx
    have HKQ := hid hkbq
    have kx := Blk.touch hx HX.out (by simp; omega)
    have cell_x2 := kx.cell
    have lt_x2 := kx.lt
    have cell_k2 := hkbq.cell
    have froz_k2 := hkbq.frozen
    have lt_k2 := hkbq.lt
    have h1' := own_touch' hx HOJ.out (fun q hq => by have h1 := oj_in q hq; simp; omega)
    by_cases hlt : q < S.js.length
    · skip
      have hbl := bestTo_lt hj0 q hq2
      obtain ⟨j, hj⟩ : ∃ j, S.js[q]? = some j := ⟨_, List.getElem?_eq_getElem hlt⟩
      obtain ⟨b, hb⟩ : ∃ j, S.js[bestTo S.js q]? = some j := ⟨_, List.getElem?_eq_getElem hbl⟩
      have hsucc := bestTo_succ hj hb
      have c0 := (h1'.cellAt (q * 4) (by omega)).trans (ints_get (flatJ_at hj 0 j.i rfl))
      have c1 := (h1'.cellAt (q * 4 + 1) (by omega)).trans (ints_get (flatJ_at hj 1 j.n rfl))
      have c2 := (h1'.cellAt (q * 4 + 2) (by omega)).trans (ints_get (flatJ_at hj 2 j.l rfl))
      have c3 := (h1'.cellAt (q * 4 + 3) (by omega)).trans (ints_get (flatJ_at hj 3 j.d rfl))
      have e3 := (h1'.cellAt (bestTo S.js q * 4 + 3) (by omega)).trans (ints_get (flatJ_at hb 3 b.d rfl))
      have hg03 : g0 < wr.heap.size := by omega
      obtain ⟨bq, hbq⟩ : ∃ x, bestTo S.js q = x := ⟨_, rfl⟩
      rw [hbq] at hsucc e3 hbl cell_k2 HKQ
      have HSU := hid hsucc
      clear hsucc hbq hj hb hx kx h1' hkbq
      by_cases hd : j.d < b.d
      all_goals
        go_wp2
        go_quiet (fail)
        go_wp2
        go_roundw
        case rel =>
          refine ⟨q + 1, by omega, by go_num, ?_, ?_⟩
          · have ht := HXX.out
            exact tchBy
          · first
            | rw [HSU.out, if_pos hd]
            | rw [HSU.out, if_neg (by omega)]
            have kk := HKQ.out
            exact blkcBy
        case measure => simp [intOf]; omega
    · obtain rfl : q = S.js.length := by omega
      rw [HBK.out] at hkbq HKQ cell_k2
      have hRJ := own_touch' hx HRJ.out (fun q hq => by have h1 := rj_in q hq; simp; omega)
      have hRT := own_touch' hx HRT.out (fun q hq => by have h1 := rt_in q hq; simp; omega)
      have hRF := own_touch' hx HRF.out (fun q hq => by have h1 := rf_in q hq; simp; omega)
      have hR := Blk.touch hx HR.out (by simp; omega)
      have hO := Blk.touch hx HOO.out (by simp; omega)
      have hKB := hkbq
      have hB := hx.below HB3.out (by simp; omega)
      have dd := fun p x (hp : (job S).flat[p]? = some x) => ints_get (flatJ_at HJK.out p x hp)
      have d0 := (hRJ.cellAt (k * 4) (by omega)).trans (dd 0 _ rfl)
      have d1 := (hRJ.cellAt (k * 4 + 1) (by omega)).trans (dd 1 _ rfl)
      have d2 := (hRJ.cellAt (k * 4 + 2) (by omega)).trans (dd 2 _ rfl)
      have d3 := (hRJ.cellAt (k * 4 + 3) (by omega)).trans (dd 3 _ rfl)
      have ESET := hid (flatJ_next S.js k HJK.out)
      have hset2 : ∀ x, ((ints (flatJ S.js)).set (k * 4 + 3) x)[k * 4 + 2]? = some (.int .i64 (job S).l) := fun x => by
        rw [List.getElem?_set_ne (by omega)]
        exact dd 2 _ rfl
      have hset4 : (ints (flatJ (S.js.set k (jbNext (job S)))))[k * 4 + 2]? = some (.int .i64 ((job S).l - 1)) :=
        ints_get (flatJ_at (js := S.js.set k (jbNext (job S))) (by rw [List.getElem?_set_self hkl]) 2 _ rfl)
      have HSET2 := hid hset2
      have HSET4 := hid hset4
      have HDD := hid dd
      clear hset2 hset4
      clear kx cell_x2 lt_x2 cell_k2 froz_k2 lt_k2 h1' hkbq hx
      cases hfl : failsB S
      · skip
        have HFL := hid hfl
        have htk := HTK.out hfl
        by_cases hsh : 0 < S.n + (job S).n - S.b
        case pos =>
          have hbu : burned S = S.b + (S.n + (job S).n - S.b) := by unfold burned short; rw [if_pos hsh]
          have hrs : resB S.z S.n S.b (S.n + (job S).n - S.b) = true := by
            unfold failsB short at hfl
            rw [decide_eq_true hsh, Bool.true_and] at hfl
            simpa using hfl
          have hpr := iPoolReserve S.z S.n S.b (S.n + (job S).n - S.b)
          rw [hrs, pick_yes] at hpr
          have HPR := hid hpr
          rw [hbu] at htk
          have hpt := iPoolTake S.z S.n (S.b + (S.n + (job S).n - S.b)) (job S).n
          rw [htk, pick_yes, pick_yes, pick_yes] at hpt
          have HPT := hid hpt
          have HBU := hid hbu
          clear hpr hfl hrs htk hpt hbu
          by_cases hl : (job S).l = 1
          case pos =>
            have HL := hid hl
            have HL0 := hid (show (job S).l - 1 = 0 by omega)
            clear hl
            exact absurd (HV.out.symm.trans HFL.out) (by decide)
          case neg =>
            have HL := hid hl
            have hl' : ¬ ((job S).l - 1 = 0) := by omega
            clear hl
            exact absurd (HV.out.symm.trans HFL.out) (by decide)
        case neg =>
          have hbu : burned S = S.b := by unfold burned short; rw [if_neg hsh]
          rw [hbu] at htk
          have hpt := iPoolTake S.z S.n S.b (job S).n
          rw [htk, pick_yes, pick_yes, pick_yes] at hpt
          have HPT := hid hpt
          have HBU := hid hbu
          clear hfl htk hpt hbu
          by_cases hl : (job S).l = 1
          case pos =>
            have HL := hid hl
            have HL0 := hid (show (job S).l - 1 = 0 by omega)
            clear hl
            exact absurd (HV.out.symm.trans HFL.out) (by decide)
          case neg =>
            have HL := hid hl
            have hl' : ¬ ((job S).l - 1 = 0) := by omega
            clear hl
            exact absurd (HV.out.symm.trans HFL.out) (by decide)
      · skip
        have hsh : 0 < S.n + (job S).n - S.b := by
          unfold failsB short at hfl
          simp only [Bool.and_eq_true, decide_eq_true_eq] at hfl
          exact hfl.1
        have hrs : resB S.z S.n S.b (S.n + (job S).n - S.b) = false := by
          unfold failsB short at hfl
          simp only [Bool.and_eq_true, Bool.not_eq_true'] at hfl
          exact hfl.2
        have hpr := iPoolReserve S.z S.n S.b (S.n + (job S).n - S.b)
        rw [hrs, pick_no] at hpr
        have HPR := hid hpr
        have HFL := hid hfl
        clear hpr hfl hrs
        have b_40 := hB
        have s_40 := b_40.size
        have rj_in := rj_in
        have rj_40 := hRJ
        clear hRJ
        have rt_in := rt_in
        have rt_40 := hRT
        clear hRT
        have rf_in := rf_in
        have rf_40 := hRF
        clear hRF
        have r_40 := hR
        clear hR
        have r_lt := r_40.lt
        have cell_r := r_40.cell
        have froz_r := r_40.frozen
        have lt_r := r_40.lt
        have o_40 := hO
        clear hO
        have o_lt := o_40.lt
        have cell_o := o_40.cell
        have froz_o := o_40.frozen
        have lt_o := o_40.lt
        have kb_40 := hKB
        clear hKB
        have kb_lt := kb_40.lt
        have cell_kb := kb_40.cell
        have froz_kb := kb_40.frozen
        have lt_kb := kb_40.lt
        go_upto_region 14 with fail
        go_quiet (fail)
        go_upto_region 15 with fail
        refine wp_forget0 (w0 := wr) (B := wr.heap.size) ?_ ?_
        (focus (exact belBy))
        intro w41 hX41
        have sX41 := hX41.size
        have b_41 := b_40.trans (hX41.mono (by omega))
        have rj_41 := own_below rj_40 hX41
        have rt_41 := own_below rt_40 hX41
        have rf_41 := own_below rf_40 hX41
        have r_41 := Blk.past hX41 r_40
        have o_41 := Blk.past hX41 o_40
        have kb_41 := Blk.past hX41 kb_40
        clear rj_40 rt_40 rf_40 r_40 o_40 kb_40 b_40 cell_r froz_r lt_r cell_o froz_o lt_o cell_kb froz_kb lt_kb hX41
        have cell_r := r_41.cell
        have froz_r := r_41.frozen
        have lt_r := r_41.lt
        have cell_o := o_41.cell
        have froz_o := o_41.frozen
        have lt_o := o_41.lt
        have cell_kb := kb_41.cell
        have froz_kb := kb_41.frozen
        have lt_kb := kb_41.lt
        clear d0 d1 d2 d3 dd
        go_wp2_with fail
        refine calls_forget0 (W := w41) ?_ ?_
        (focus (exact belBy))
        intro X42 hX42
        have sX42 := hX42.size
        refine (HPR.out _).mono ?_
        rintro e w42 ⟨rfl, hb42⟩
        have s42 := hb42.size
        have hT42 := hX42.trans (hb42.mono sX42)
        have b_42 := b_41.trans (hT42.mono (by omega))
        have rj_42 := own_below rj_41 hT42
        have rt_42 := own_below rt_41 hT42
        have rf_42 := own_below rf_41 hT42
        have r_42 := Blk.past hT42 r_41
        have o_42 := Blk.past hT42 o_41
        have kb_42 := Blk.past hT42 kb_41
        clear rj_41 rt_41 rf_41 r_41 o_41 kb_41 b_41 cell_r froz_r lt_r cell_o froz_o lt_o cell_kb froz_kb lt_kb hX42 hT42 hb42
        have cell_r := r_42.cell
        have froz_r := r_42.frozen
        have lt_r := r_42.lt
        have cell_o := o_42.cell
        have froz_o := o_42.frozen
        have lt_o := o_42.lt
        have cell_kb := kb_42.cell
        have froz_kb := kb_42.frozen
        have lt_kb := kb_42.lt
        go_wp2_with fail
        refine calls_forget1 (W := w42) (b0 := w42.heap.size) (t0 := 35) (c0 := #[.int .i64 S.z, .int .i64 S.n, .int .i64 S.b]) ?_ ?_ ?_
        (focus exact blkcBy)
        (focus (exact belBy))
        intro X43 pb_n hX43
        have sX43 := hX43.size
        have pb_lt := pb_n.lt
        refine (iDrop _ _ _ _ _ _ _ _ _ _ _ _ _ _ _ S.js _ rfl hkl (by omega) (own_weak (own_below rj_42 hX43) (Nat.zero_le _)) (Blk.past hX43 o_42) (Blk.past hX43 kb_42)).mono ?_
        rintro e w43 ⟨rfl, Jd, cjd, o_43, rj_n, hY43⟩
        have s43 := hY43.size
        have b_43 := hY43.below (b_42.trans (hX43.mono (by omega))) (by first | (simp; done) | (simp; omega))
        have rt_43 := own_touch' hY43 (own_below rt_42 hX43) (fun q hq => by have h1 := rt_in q hq; simp; omega)
        have rf_43 := own_touch' hY43 (own_below rf_42 hX43) (fun q hq => by have h1 := rf_in q hq; simp; omega)
        have r_43 := Blk.touch hY43 (Blk.past hX43 r_42) (by first | (simp; done) | (simp; omega))
        have kb_43 := Blk.touch hY43 (Blk.past hX43 kb_42) (by first | (simp; done) | (simp; omega))
        have pb_43 := Blk.touch hY43 pb_n (by first | (simp; done) | (simp; omega))
        have rj_43 := rj_n
        clear rj_42 rt_42 rf_42 r_42 o_42 kb_42 b_42 cell_r froz_r lt_r cell_o froz_o lt_o cell_kb froz_kb lt_kb pb_n rj_n rj_in hX43 hY43
        have rj_in := own_off rj_43 o_43 (by decide)
        have cell_r := r_43.cell
        have froz_r := r_43.frozen
        have lt_r := r_43.lt
        have cell_o := o_43.cell
        have froz_o := o_43.frozen
        have lt_o := o_43.lt
        have cell_kb := kb_43.cell
        have froz_kb := kb_43.frozen
        have lt_kb := kb_43.lt
        have cell_pb := pb_43.cell
        have froz_pb := pb_43.frozen
        have lt_pb := pb_43.lt
        go_upto_region 19 with fail
        refine wp_forget0 (w0 := w43) (B := w43.heap.size) ?_ ?_
        (focus (exact belBy))
        intro w44 hX44
        have sX44 := hX44.size
        have b_44 := b_43.trans (hX44.mono (by omega))
        have rj_44 := own_below rj_43 hX44
        have rt_44 := own_below rt_43 hX44
        have rf_44 := own_below rf_43 hX44
        have r_44 := Blk.past hX44 r_43
        have o_44 := Blk.past hX44 o_43
        have kb_44 := Blk.past hX44 kb_43
        have pb_44 := Blk.past hX44 pb_43
        clear rj_43 rt_43 rf_43 r_43 o_43 kb_43 pb_43 b_43 cell_r froz_r lt_r cell_o froz_o lt_o cell_kb froz_kb lt_kb cell_pb froz_pb lt_pb hX44
        have cell_r := r_44.cell
        have froz_r := r_44.frozen
        have lt_r := r_44.lt
        have cell_o := o_44.cell
        have froz_o := o_44.frozen
        have lt_o := o_44.lt
        have cell_kb := kb_44.cell
        have froz_kb := kb_44.frozen
        have lt_kb := kb_44.lt
        have cell_pb := pb_44.cell
        have froz_pb := pb_44.frozen
        have lt_pb := pb_44.lt
        go_wp2_with (at_builtin; refine wpList_appi rfl _ _ 38 rfl X1.heap.size 3 (.int .i64 0) 1 8 Tryz.underlying38 infoInt rfl (by decide) _ S.fs.length _ rfl (rf_44.alloc _) ⟨w44.heap.size, 0, none⟩ 1 1 _ rfl rfl (one_new _ _ _) (one_one _) (by omega) (by decide) (by simp; omega) ?_)
        intro A_rf c_rf w45 rf_45 hg45 li45
        have hg45 := grown_alloc hg45
        try simp only [World.size_alloc] at li45
        have s45 := hg45.size
        have b_45 := gr_below hg45 b_44 (by omega) (fun q hq => by have h1 := rf_in q hq; omega)
        have rj_45 := gr_own hg45 rj_44 (fun q p hq hp => by first | (have h1 := rf_in q hq; have h2 := rj_in p hp; omega) | exact own_ne rf_44 rj_44 (by decide) q p hq hp | exact ne_rf_rj q p hq hp | exact (ne_rj_rf p q hp hq).symm)
        have rt_45 := gr_own hg45 rt_44 (fun q p hq hp => by first | (have h1 := rf_in q hq; have h2 := rt_in p hp; omega) | exact own_ne rf_44 rt_44 (by decide) q p hq hp | exact ne_rf_rt q p hq hp | exact (ne_rt_rf p q hp hq).symm)
        have r_45 := gr_blk hg45 r_44 (fun q hq => by have h1 := rf_in q hq; omega)
        have o_45 := gr_blk hg45 o_44 (fun q hq => by have h1 := rf_in q hq; omega)
        have kb_45 := gr_blk hg45 kb_44 (fun q hq => by have h1 := rf_in q hq; omega)
        have pb_45 := gr_blk hg45 pb_44 (fun q hq => by have h1 := rf_in q hq; omega)
        have rf_ix : ∀ q, (Value.slice A_rf (S.fs.length + 1) c_rf).ownBlock = some q → (X1.heap.size ≤ q ∧ q < w1.heap.size) ∨ w44.heap.size ≤ q := (fun q hq => by have h3 := (own_in rf_45 q hq).2; rcases li45 q hq with h | h; (have h1 := rf_in q h; omega); omega)
        clear rj_44 rt_44 rf_44 r_44 o_44 kb_44 pb_44 b_44 cell_r froz_r lt_r cell_o froz_o lt_o cell_kb froz_kb lt_kb cell_pb froz_pb lt_pb hg45 li45 rf_in
        have rf_in := rf_ix
        clear rf_ix
        have cell_r := r_45.cell
        have froz_r := r_45.frozen
        have lt_r := r_45.lt
        have cell_o := o_45.cell
        have froz_o := o_45.frozen
        have lt_o := o_45.lt
        have cell_kb := kb_45.cell
        have froz_kb := kb_45.frozen
        have lt_kb := kb_45.lt
        have cell_pb := pb_45.cell
        have froz_pb := pb_45.frozen
        have lt_pb := pb_45.lt
        go_upto_region 20 with fail
        refine wp_touch1 (w0 := w45) (L := [w1.heap.size]) (b0 := w1.heap.size) (t0 := 40) (c0 := #[.int .i64 S.z, .int .i64 S.n, .int .i64 S.b, .slice Jd (S.js.length - 1) cjd, .slice T' S.ts.length tcp', .slice A_rf (S.fs.length + 1) c_rf]) ?_ ?_ ?_
        (focus exact blkcBy)
        (focus (exact tchBy))
        intro w46 o_46 hX46
        have sX46 := hX46.size
        have b_46 := hX46.below b_45 (by first | (simp; done) | (simp; omega))
        have rj_46 := own_touch' hX46 rj_45 (fun q hq => by have h1 := rj_in q hq; (try have e0 := own_ne_obj rj_45 o_45 (by decide) q hq); simp; omega)
        have rt_46 := own_touch' hX46 rt_45 (fun q hq => by have h1 := rt_in q hq; (try have e0 := own_ne_obj rt_45 o_45 (by decide) q hq); simp; omega)
        have rf_46 := own_touch' hX46 rf_45 (fun q hq => by have h1 := rf_in q hq; (try have e0 := own_ne_obj rf_45 o_45 (by decide) q hq); simp; omega)
        have r_46 := Blk.touch hX46 r_45 (by first | (simp; done) | (simp; omega))
        have kb_46 := Blk.touch hX46 kb_45 (by first | (simp; done) | (simp; omega))
        have pb_46 := Blk.touch hX46 pb_45 (by first | (simp; done) | (simp; omega))
        clear rj_45 rt_45 rf_45 r_45 o_45 kb_45 pb_45 b_45 cell_r froz_r lt_r cell_o froz_o lt_o cell_kb froz_kb lt_kb cell_pb froz_pb lt_pb hX46
        have cell_r := r_46.cell
        have froz_r := r_46.frozen
        have lt_r := r_46.lt
        have cell_o := o_46.cell
        have froz_o := o_46.frozen
        have lt_o := o_46.lt
        have cell_kb := kb_46.cell
        have froz_kb := kb_46.frozen
        have lt_kb := kb_46.lt
        have cell_pb := pb_46.cell
        have froz_pb := pb_46.frozen
        have lt_pb := pb_46.lt
        have HRJ := hid rj_46
        have HRT := hid rt_46
        have HRF := hid rf_46
        have HBB := hid b_46
        clear rj_46 rt_46 rf_46 b_46
        go_wp2_with fail
        ((try simp only [Exit.inBlock, Exit.then]); apply bodyPost_ret0; focus ((try simp only [results, Tryz.results86]); (try go_simp); (try rfl)))
        have e4 : (stepF S).js = S.js.eraseIdx k := by rw [← HK.out]; rfl
        have e1 : (stepF S).js.length = S.js.length - 1 := by rw [e4]; exact lenErase hkl
        have e2 : (stepF S).fs.length = S.fs.length + 1 := by simp [stepF]
        have e3 : ints (stepF S).fs = ints S.fs ++ [.int .i64 (job S).i] := ints_snoc _ _
        rw [stepS_fail HFL.out, e1, e2, e3, e4]
        refine ⟨Jd, cjd, T', tcp', A_rf, c_rf, rfl, ?_, ?_, ?_, ?_⟩
        (focus (refine own_weak (base := X43.heap.size) ?_ (by omega); have h := HRJ.out; (repeat (with_reducible first | assumption | apply World.ownsRow.drew | apply own_drewN | apply World.ownsRow.alloc | refine own_set ?_ _ _ (by first | omega | (simp; omega) | (dsimp only; omega)))); all_goals exact h))
        (focus (refine own_weak (base := X1.heap.size) ?_ (by omega); have h := HRT.out; (repeat (with_reducible first | assumption | apply World.ownsRow.drew | apply own_drewN | apply World.ownsRow.alloc | refine own_set ?_ _ _ (by first | omega | (simp; omega) | (dsimp only; omega)))); all_goals exact h))
        (focus (refine own_weak (base := X1.heap.size) ?_ (by omega); have h := HRF.out; (repeat (with_reducible first | assumption | apply World.ownsRow.drew | apply own_drewN | apply World.ownsRow.alloc | refine own_set ?_ _ _ (by first | omega | (simp; omega) | (dsimp only; omega)))); all_goals exact h))
        (have hb := HBB.out; exact belBy)
end Go.Proofs.YtjknadnknainbaaGreatDoor
/- The step of a schedule, in the program: where there is none. -/
namespace Go.Proofs.YtjknadnknainbaaGreatDoor
open Go.RowKit

set_option maxRecDepth 100000 in
set_option maxHeartbeats 6400000 in
theorem iStepNo (S : SV) (hno : stepB S = false) (J T F : Option Addr) (cj tcp cf : Nat) (w : World) (h : w.ownsRow 0 64 4 (.slice J S.js.length cj) S.js.length (ints (flatJ S.js)) ∧ w.ownsRow 0 88 2 (.slice T S.ts.length tcp) S.ts.length (ints (flatT S.ts)) ∧ w.ownsRow 0 3 1 (.slice F S.fs.length cf) S.fs.length (ints S.fs)) (b1 : S.js.length ≤ 100000000) (b2 : S.ts.length ≤ 100000000) (b3 : S.fs.length ≤ 100000000) :
    Calls Tryz.prog 86 #[.agg #[.int .i64 S.z, .int .i64 S.n, .int .i64 S.b, .slice J S.js.length cj, .slice T S.ts.length tcp, .slice F S.fs.length cf]] w fun e w' => ∃ J' cj' T' tcp' F' cf', e = .returned (.tuple #[.agg #[.int .i64 S.z, .int .i64 S.n, .int .i64 S.b, .slice J' S.js.length cj', .slice T' S.ts.length tcp', .slice F' S.fs.length cf'], .int .i64 0, .bool false]) ∧
      w'.ownsRow w.heap.size 64 4 (.slice J' S.js.length cj') S.js.length (ints (flatJ S.js)) ∧ w'.ownsRow w.heap.size 88 2 (.slice T' S.ts.length tcp') S.ts.length (ints (flatT S.ts)) ∧ w'.ownsRow w.heap.size 3 1 (.slice F' S.fs.length cf') S.fs.length (ints S.fs) ∧ Below w.heap.size w w' := by
  obtain ⟨h1, h2, h3⟩ := h
  have HO := hid (iSchedOkS S)
  have hway : schedOkB S = false ∨ (schedOkB S = true ∧ ((S.js.length : Int) == 0) = true) ∨ (schedOkB S = true ∧ ((S.js.length : Int) == 0) = false ∧ decide ((1000 : Int) ≤ (S.ts.length : Int)) = true) := by
    unfold stepB at hno
    cases hk : schedOkB S
    · exact Or.inl rfl
    · rw [hk, Bool.true_and] at hno
      by_cases h0 : S.js.length = 0
      · exact Or.inr (Or.inl ⟨rfl, by rw [beq_iff_eq]; omega⟩)
      · rw [decide_eq_true (by omega), Bool.true_and, decide_eq_false_iff_not] at hno
        exact Or.inr (Or.inr ⟨rfl, by rw [beq_eq_false_iff_ne]; omega, by rw [decide_eq_true_iff]; omega⟩)
  clear hno
  obtain ⟨nj, hnj⟩ : ∃ n, S.js.length = n := ⟨_, rfl⟩
  obtain ⟨nt, hnt⟩ : ∃ n, S.ts.length = n := ⟨_, rfl⟩
  obtain ⟨nf, hnf⟩ : ∃ n, S.fs.length = n := ⟨_, rfl⟩
  have HCC := hid (fun J T F cj ct cf w h b1 b2 b3 => iCopyS S J T F cj ct cf w h b1 b2 b3)
  rw [hnj, hnt] at hway
  rw [hnj, hnt, hnf] at HCC
  rw [hnj, hnt, hnf] at HO
  rw [hnj] at b1 h1
  rw [hnt] at b2 h2
  rw [hnf] at b3 h3
  rw [hnj, hnt, hnf]
  clear hnj hnt hnf
  rcases hway with hk | ⟨hk, h0⟩ | ⟨hk, h0, ht⟩
  all_goals
    rw [hk] at HO
    go_enter Tryz.func86, Tryz.ntmps86
    have b_0 := (Below.refl w.heap.size w)
    have s_0 := b_0.size
    have oj_in := own_in h1
    have oj_0 := h1
    clear h1
    have ot_in := own_in h2
    have ot_0 := h2
    clear h2
    have of__in := own_in h3
    have of__0 := h3
    clear h3
    go_wp2_with fail
    refine calls_forget2 (W := w) (b0 := w.heap.size) (t0 := 40) (c0 := #[.int .i64 S.z, .int .i64 S.n, .int .i64 S.b, .slice J nj cj, .slice T nt tcp, .slice F nf cf]) (b1 := w.heap.size + 1) (t1 := 40) (c1 := #[.int .i64 0, .int .i64 0, .int .i64 0, .slice none 0 0, .slice none 0 0, .slice none 0 0]) ?_ ?_ ?_ ?_
    (focus exact blkcBy)
    (focus exact blkcBy)
    (focus (exact belBy))
    intro X1 x_n r_n hX1
    have sX1 := hX1.size
    have x_lt := x_n.lt
    have r_lt := r_n.lt
    refine (HCC.out _ _ _ _ _ _ _ ⟨(own_below oj_0 hX1), (own_below ot_0 hX1), (own_below of__0 hX1)⟩ (by omega) (by omega) (by omega)).mono ?_
    rintro e w1 ⟨J', cj', T', tcp', F', cf', rfl, rj_1, rt_1, rf_1, hb1⟩
    have s1 := hb1.size
    have hT1 := hX1.trans (hb1.mono sX1)
    have b_1 := b_0.trans (hT1.mono (by omega))
    have oj_1 := own_below oj_0 hT1
    have ot_1 := own_below ot_0 hT1
    have of__1 := own_below of__0 hT1
    have x_1 := Blk.past hb1 x_n
    have r_1 := Blk.past hb1 r_n
    have rj_in := own_in rj_1
    have rt_in := own_in rt_1
    have rf_in := own_in rf_1
    clear oj_0 ot_0 of__0 b_0 x_n r_n hX1 hT1 hb1
    have cell_x := x_1.cell
    have froz_x := x_1.frozen
    have lt_x := x_1.lt
    have cell_r := r_1.cell
    have froz_r := r_1.frozen
    have lt_r := r_1.lt
    go_wp2_with fail
    refine calls_forget1 (W := w1) (b0 := w1.heap.size) (t0 := 40) (c0 := #[.int .i64 S.z, .int .i64 S.n, .int .i64 S.b, .slice J' nj cj', .slice T' nt tcp', .slice F' nf cf']) ?_ ?_ ?_
    (focus exact blkcBy)
    (focus (exact belBy))
    intro X2 o_n hX2
    have sX2 := hX2.size
    have o_lt := o_n.lt
    refine (HO.out _ _ _ _ _ _ _ ⟨(own_below oj_1 hX2), (own_below ot_1 hX2), (own_below of__1 hX2)⟩ (by omega) (by omega)).mono ?_
    rintro e w2 ⟨rfl, hb2⟩
    have s2 := hb2.size
    have hT2 := hX2.trans (hb2.mono sX2)
    have b_2 := b_1.trans (hT2.mono (by omega))
    have oj_2 := own_below oj_1 hT2
    have ot_2 := own_below ot_1 hT2
    have of__2 := own_below of__1 hT2
    have rj_2 := own_below rj_1 hT2
    have rt_2 := own_below rt_1 hT2
    have rf_2 := own_below rf_1 hT2
    have x_2 := Blk.past hT2 x_1
    have r_2 := Blk.past hT2 r_1
    have o_2 := Blk.past hb2 o_n
    clear oj_1 ot_1 of__1 rj_1 rt_1 rf_1 x_1 r_1 b_1 cell_x froz_x lt_x cell_r froz_r lt_r o_n hX2 hT2 hb2
    have cell_x := x_2.cell
    have froz_x := x_2.frozen
    have lt_x := x_2.lt
    have cell_r := r_2.cell
    have froz_r := r_2.frozen
    have lt_r := r_2.lt
    have cell_o := o_2.cell
    have froz_o := o_2.frozen
    have lt_o := o_2.lt
    have HRJ := hid rj_2
    have HRT := hid rt_2
    have HRF := hid rf_2
    have HB := hid b_2
    have hXS : w.heap.size ≤ X1.heap.size := by omega
    clear rj_2 rt_2 rf_2 b_2 oj_2 ot_2 of__2
    go_wp2_with fail
    ((try simp only [Exit.inBlock, Exit.then]); apply bodyPost_ret0; focus ((try simp only [results, Tryz.results86]); (try go_simp); (try rfl)))
    refine ⟨J', cj', T', tcp', F', cf', rfl, ?_, ?_, ?_, ?_⟩
    · refine own_weak (base := X1.heap.size) ?_ hXS
      have h := HRJ.out
      exact ownBy
    · refine own_weak (base := X1.heap.size) ?_ hXS
      have h := HRT.out
      exact ownBy
    · refine own_weak (base := X1.heap.size) ?_ hXS
      have h := HRF.out
      exact ownBy
    · have hb := HB.out
      exact belBy
end Go.Proofs.YtjknadnknainbaaGreatDoor
