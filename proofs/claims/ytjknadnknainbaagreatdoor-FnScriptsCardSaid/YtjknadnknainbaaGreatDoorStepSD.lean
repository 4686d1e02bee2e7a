/- The step of the reference on a schedule of one's own: one of its ways. -/
import Derived.Test.YtjknadnknainbaaGreatDoorMem
import Derived.Test.YtjknadnknainbaaGreatDoorSchedOk2
import Derived.Test.YtjknadnknainbaaGreatDoorDrop2
import Derived.Deep.RegionLaw
import Derived.BigQuiet
import Derived.StillTailTactics
set_option linter.unusedVariables false
namespace Go.Proofs.YtjknadnknainbaaGreatDoor
open Go.RowKit

set_option maxRecDepth 100000 in
set_option maxHeartbeats 12800000 in
theorem sStepSD (S : SV) (hv : failsB S = false ∧ ¬ 0 < S.n + (job S).n - S.b ∧ ¬ (job S).l = 1) (hS : schedOk S) (hj0 : 0 < S.js.length) (ht0 : S.ts.length < 1000) (hf0 : S.fs.length ≤ 100000000) (J T F : Option Addr) (cj tcp cf o : Nat) (w wr : World) (hb : Below w.heap.size w wr) (ho : w.heap.size ≤ o)
    (kb : Blk wr o 40 #[.int .i64 S.z, .int .i64 S.n, .int .i64 S.b, .slice J S.js.length cj, .slice T S.ts.length tcp, .slice F S.fs.length cf])
    (h1 : wr.ownsRow w.heap.size 64 4 (.slice J S.js.length cj) S.js.length (ints (flatJ S.js))) (h2 : wr.ownsRow w.heap.size 88 2 (.slice T S.ts.length tcp) S.ts.length (ints (flatT S.ts)))
    (h3 : wr.ownsRow w.heap.size 3 1 (.slice F S.fs.length cf) S.fs.length (ints S.fs)) :
    Calls Tryz.prog 75 #[.pointer (some ⟨o, 0, none⟩)] wr fun e w' => e = .returned (.int .i64 (job S).i) ∧ ∃ J' cj' T' tcp' F' cf',
      Blk w' o 40 #[.int .i64 (stepS S).z, .int .i64 (stepS S).n, .int .i64 (stepS S).b, .slice J' (stepS S).js.length cj', .slice T' (stepS S).ts.length tcp', .slice F' (stepS S).fs.length cf'] ∧
      w'.ownsRow w.heap.size 64 4 (.slice J' ((stepS S).js).length cj') ((stepS S).js).length (ints (flatJ ((stepS S).js))) ∧ w'.ownsRow w.heap.size 88 2 (.slice T' ((stepS S).ts).length tcp') ((stepS S).ts).length (ints (flatT ((stepS S).ts))) ∧ w'.ownsRow w.heap.size 3 1 (.slice F' ((stepS S).fs).length cf') ((stepS S).fs).length (ints ((stepS S).fs)) ∧ Below w.heap.size w w' := by
  have HV := hid hv
  clear hv
  obtain ⟨g, rfl, hg0, hg1, hgc⟩ := own_at h1 hj0
  clear hgc
  have hjk := job_at hj0
  have hkl := best_lt hj0
  obtain ⟨⟨a1, a2, a3, a4, a5⟩, ⟨b1, b2⟩, ⟨b3, b4⟩, ⟨b5, b6⟩, b7, b8⟩ := sched_facts hS hj0
  have hTK := take_yes hS hj0
  have hn16 : S.js.length ≤ 16 := hS.2.1
  obtain ⟨k, hk⟩ : ∃ k, best S = k := ⟨_, rfl⟩
  have HK := hid hk
  have hbk : bestTo S.js S.js.length = k := hk
  rw [hk] at hjk hkl
  have hin : ∀ (q : Nat) (j : Jb), S.js[q]? = some j → 0 ≤ j.d ∧ j.d ≤ 20 := fun q j h => (jbIn_iff.1 (hS.2.2.2.1.1 _ (List.mem_of_getElem? h))).2.2.2
  have HIN := hid hin
  have HH1 := hid h1
  have HH2 := hid h2
  have HH3 := hid h3
  have HKB := hid kb
  have HB := hid hb
  have HBK := hid hbk
  have HJK := hid hjk
  have HTK := hid hTK
  have cell_o := kb.cell
  have lt_o := kb.lt
  have s0 := hb.size
  clear hin h1 h2 h3 hb hbk hjk hTK kb
  go_enter Tryz.func75, Tryz.ntmps75
  go_wp2
  go_loopw [4, 3] (fun i b wx => ∃ q : Nat, 1 ≤ q ∧ q ≤ S.js.length ∧ i = .int .i64 q ∧ b = .int .i64 (bestTo S.js q : Nat) ∧ Below wr.heap.size wr wx) (fun i _ _ => S.js.length - (intOf i).toNat)
  case atStart => exact ⟨1, Nat.le_refl _, by omega, rfl, by rw [bestTo_one]; rfl, Below.refl _ _⟩
  case round =>
    obtain ⟨q, hq1, hq2, rfl, rfl, hx⟩ := hrel
    have hbl := bestTo_lt hj0 q hq2
    have HX := hid hx
    have ko := HKB.out.past hx
    have cell_o2 := ko.cell
    have lt_o2 := ko.lt
    have h1' := own_below HH1.out hx
    by_cases hlt : q < S.js.length
    · skip
      obtain ⟨j, hj⟩ : ∃ j, S.js[q]? = some j := ⟨_, List.getElem?_eq_getElem hlt⟩
      obtain ⟨b, hb⟩ : ∃ j, S.js[bestTo S.js q]? = some j := ⟨_, List.getElem?_eq_getElem hbl⟩
      have hsucc := bestTo_succ hj hb
      have d1 := h1'.cellAt (q * 4 + 3) (by omega)
      rw [ints_get (flatJ_at hj 3 j.d rfl)] at d1
      have d2 := h1'.cellAt (bestTo S.js q * 4 + 3) (by omega)
      rw [ints_get (flatJ_at hb 3 b.d rfl)] at d2
      obtain ⟨bq, hbq⟩ : ∃ x, bestTo S.js q = x := ⟨_, rfl⟩
      rw [hbq] at hsucc d2 hbl
      rw [hbq]
      have HS := hid hsucc
      clear hsucc hbq hj hb hx ko h1'
      by_cases hd : j.d < b.d
      · go_wp2
        go_quiet (fail)
        go_wp2
        go_roundw
        case rel =>
          refine ⟨q + 1, by omega, by omega, by go_num, ?_, ?_⟩
          · rw [HS.out, if_pos hd]
          · have h := HX.out
            exact belBy
        case measure => simp [intOf]; omega
      · go_wp2
        go_quiet (fail)
        go_wp2
        go_roundw
        case rel =>
          refine ⟨q + 1, by omega, by omega, by go_num, ?_, ?_⟩
          · rw [HS.out, if_neg (by omega)]
          · have h := HX.out
            exact belBy
        case measure => simp [intOf]; omega
    · obtain rfl : q = S.js.length := by omega
      rw [HBK.out]
      have hB := HB.out.trans (HX.out.mono s0)
      have hJ := h1'
      have hT := own_below HH2.out hx
      have hF := own_below HH3.out hx
      have dd := fun p x (hp : (job S).flat[p]? = some x) => ints_get (flatJ_at HJK.out p x hp)
      have d0 := (hJ.cellAt (k * 4) (by omega)).trans (dd 0 _ rfl)
      have d1 := (hJ.cellAt (k * 4 + 1) (by omega)).trans (dd 1 _ rfl)
      have d2 := (hJ.cellAt (k * 4 + 2) (by omega)).trans (dd 2 _ rfl)
      have d3 := (hJ.cellAt (k * 4 + 3) (by omega)).trans (dd 3 _ rfl)
      have hw : w.heap.size ≤ wr.heap.size := hB.size
      have hK := HKB.out.past HX.out
      have hiJ := own_off hJ hK (by decide)
      have hiT := own_off hT hK (by decide)
      have hiF := own_off hF hK (by decide)
      have hjn : wrap_ok (S.n + (job S).n - S.b) := by unfold wrap_ok; omega
      clear cell_o2 lt_o2 ko h1' hx cell_o lt_o
      cases hfl : failsB S
      · skip
        have eSet := flatJ_set S.js k (jbNext (job S))
        unfold jbNext at eSet
        dsimp only at eSet
        have HFL := hid hfl
        have htk := HTK.out hfl
        by_cases hsh : 0 < S.n + (job S).n - S.b
        case pos =>
          have hbu : burned S = S.b + (S.n + (job S).n - S.b) := by unfold burned short; rw [if_pos hsh]
          have hrs : resB S.z S.n S.b (S.n + (job S).n - S.b) = true := by
            unfold failsB short at hfl
            rw [decide_eq_true hsh, Bool.true_and] at hfl
            simpa using hfl
          have hpr := sPoolReserve S.z S.n S.b (S.n + (job S).n - S.b)
          rw [hrs, pick_yes] at hpr
          have HPR := hid hpr
          rw [hbu] at htk
          have hpt := sPoolTake S.z S.n (S.b + (S.n + (job S).n - S.b)) (job S).n
          rw [htk, pick_yes, pick_yes, pick_yes] at hpt
          have HPT := hid hpt
          have HBU := hid hbu
          clear hpr hfl hrs htk hpt hbu
          by_cases hl : (job S).l = 1
          case pos =>
            have HL := hid hl
            have HL0 := hid (show (job S).l - 1 = 0 by omega)
            clear hl
            exact absurd HV.out.2 (fun hv => by obtain ⟨v1, v2⟩ := hv; have h3 := HL.out; omega)
          case neg =>
            have HL := hid hl
            have hl' : ¬ ((job S).l - 1 = 0) := by omega
            clear hl
            exact absurd HV.out.2 (fun hv => by obtain ⟨v1, v2⟩ := hv; have h3 := HL.out; omega)
        case neg =>
          have hbu : burned S = S.b := by unfold burned short; rw [if_neg hsh]
          rw [hbu] at htk
          have hpt := sPoolTake S.z S.n S.b (job S).n
          rw [htk, pick_yes, pick_yes, pick_yes] at hpt
          have HPT := hid hpt
          have HBU := hid hbu
          clear hfl htk hpt hbu
          by_cases hl : (job S).l = 1
          case pos =>
            have HL := hid hl
            have HL0 := hid (show (job S).l - 1 = 0 by omega)
            clear hl
            exact absurd HV.out.2 (fun hv => by obtain ⟨v1, v2⟩ := hv; have h3 := HL.out; omega)
          case neg =>
            have HL := hid hl
            have hl' : ¬ ((job S).l - 1 = 0) := by omega
            clear hl
            have b_30 := hB
            have s_30 := b_30.size
            have rj_in := hiJ
            have rj_30 := hJ
            clear hJ
            have rt_in := hiT
            have rt_30 := hT
            clear hT
            have rf_in := hiF
            have rf_30 := hF
            clear hF
            have ox_30 := hK
            clear hK
            have ox_lt := ox_30.lt
            have cell_ox := ox_30.cell
            have froz_ox := ox_30.frozen
            have lt_ox := ox_30.lt
            go_upto_region 8 with fail
            refine wp_forget1 (w0 := wr) (B := wr.heap.size) (b0 := wr.heap.size) (t0 := 64) (c0 := #[.int .i64 (job S).i, .int .i64 (job S).n, .int .i64 (job S).l, .int .i64 (job S).d]) ?_ ?_ ?_
            (focus exact blkcBy)
            (focus (exact belBy))
            intro w31 jb_31 hX31
            have sX31 := hX31.size
            have jb_lt := jb_31.lt
            have b_31 := b_30.trans (hX31.mono (by omega))
            have rj_31 := own_below rj_30 hX31
            have rt_31 := own_below rt_30 hX31
            have rf_31 := own_below rf_30 hX31
            have ox_31 := Blk.past hX31 ox_30
            clear rj_30 rt_30 rf_30 ox_30 b_30 cell_ox froz_ox lt_ox hX31
            have cell_ox := ox_31.cell
            have froz_ox := ox_31.frozen
            have lt_ox := ox_31.lt
            have cell_jb := jb_31.cell
            have froz_jb := jb_31.frozen
            have lt_jb := jb_31.lt
            go_quiet (fail)
            go_upto_region 9 with fail
            refine wp_forget0 (w0 := w31) (B := w31.heap.size) ?_ ?_
            (focus (exact belBy))
            intro w32 hX32
            have sX32 := hX32.size
            have b_32 := b_31.trans (hX32.mono (by omega))
            have rj_32 := own_below rj_31 hX32
            have rt_32 := own_below rt_31 hX32
            have rf_32 := own_below rf_31 hX32
            have ox_32 := Blk.past hX32 ox_31
            have jb_32 := Blk.past hX32 jb_31
            clear rj_31 rt_31 rf_31 ox_31 jb_31 b_31 cell_ox froz_ox lt_ox cell_jb froz_jb lt_jb hX32
            have cell_ox := ox_32.cell
            have froz_ox := ox_32.frozen
            have lt_ox := ox_32.lt
            have cell_jb := jb_32.cell
            have froz_jb := jb_32.frozen
            have lt_jb := jb_32.lt
            go_upto_region 16 with fail
            go_cut [9, 10] (fun v9 v10 wx => ∃ b9 b10, v9 = .pointer (some ⟨b9, 0, none⟩) ∧ v10 = .pointer (some ⟨b10, 0, none⟩) ∧ w32.heap.size ≤ b9 ∧ w32.heap.size ≤ b10 ∧ b9 ≠ b10 ∧ Blk wx b9 35 #[.int .i64 S.z, .int .i64 (S.n + (job S).n), .int .i64 (S.b)] ∧ Blk wx b10 88 #[.int .i64 S.n, .int .i64 (job S).n] ∧ Below w32.heap.size w32 wx)
            case first =>
              go_region_held3 (fun w' => w'.cell? ⟨o, 0, none⟩ = some (.int .i64 S.z) ∧ w'.cell? ⟨o, 1, none⟩ = some (.int .i64 S.n) ∧ w'.cell? ⟨o, 2, none⟩ = some (.int .i64 S.b) ∧ w'.cell? ⟨o, 3, none⟩ = some (.slice (some ⟨g, 0, none⟩) S.js.length cj) ∧ w'.cell? ⟨o, 4, none⟩ = some (.slice T S.ts.length tcp) ∧ w'.cell? ⟨o, 5, none⟩ = some (.slice F S.fs.length cf) ∧ w'.cell? ⟨wr.heap.size, 0, none⟩ = some (.int .i64 (job S).i) ∧ w'.cell? ⟨wr.heap.size, 1, none⟩ = some (.int .i64 (job S).n) ∧ w'.cell? ⟨wr.heap.size, 2, none⟩ = some (.int .i64 (job S).l) ∧ w'.cell? ⟨wr.heap.size, 3, none⟩ = some (.int .i64 (job S).d)) ((refine ⟨(Blk.cell (t := 40) (cs := #[.int .i64 S.z, .int .i64 S.n, .int .i64 S.b, .slice (some ⟨g, 0, none⟩) S.js.length cj, .slice T S.ts.length tcp, .slice F S.fs.length cf]) ?qox 0), (Blk.cell ?qox 1), (Blk.cell ?qox 2), (Blk.cell ?qox 3), (Blk.cell ?qox 4), (Blk.cell ?qox 5), (Blk.cell (t := 64) (cs := #[.int .i64 (job S).i, .int .i64 (job S).n, .int .i64 (job S).l, .int .i64 (job S).d]) ?qjb 0), (Blk.cell ?qjb 1), (Blk.cell ?qjb 2), (Blk.cell ?qjb 3)⟩; (case qox => (exact blkBy)); (case qjb => (exact blkBy)))) (((go_at_call 90; refine (HPT.out _).mono ?_; rintro e wz ⟨rfl, hbz⟩; (first | (with_reducible refine use_top2d hbz ?_; intro zt ct ft kt zt2 ct2 ft2 kt2; try simp only [World.size_alloc] at zt ct ft kt zt2 ct2 ft2 kt2) | (with_reducible refine use_topd hbz ?_; intro zt ct ft kt; try simp only [World.size_alloc] at zt ct ft kt) | skip); have sz := hbz.size; try simp at sz)))
              all_goals
                go_wp2_with fail
                go_meet
                exact ⟨_, _, rfl, rfl, by first | exact Nat.le_refl _ | omega | (simp; done) | (simp; omega), by first | exact Nat.le_refl _ | omega | (simp; done) | (simp; omega), by first | omega | (simp; done) | (simp; omega), by exact blkcBy, by exact blkcBy, by exact belBy⟩
            case rest =>
              obtain ⟨b_pa, b_ta, rfl, rfl, pa_ge, ta_ge, pa_ne, pa_33, ta_33, hb33⟩ := hcut
              obtain ⟨w33, rfl⟩ : ∃ z : World, z = wc := ⟨_, rfl⟩
              have s33 := hb33.size
              have b_33 := b_32.trans (hb33.mono (by omega))
              have rj_33 := own_below rj_32 hb33
              have rt_33 := own_below rt_32 hb33
              have rf_33 := own_below rf_32 hb33
              have ox_33 := Blk.past hb33 ox_32
              have jb_33 := Blk.past hb33 jb_32
              clear rj_32 rt_32 rf_32 ox_32 jb_32 b_32 cell_ox froz_ox lt_ox cell_jb froz_jb lt_jb hb33
              have pa_lt := pa_33.lt
              have ta_lt := ta_33.lt
              have cell_ox := ox_33.cell
              have froz_ox := ox_33.frozen
              have lt_ox := ox_33.lt
              have cell_jb := jb_33.cell
              have froz_jb := jb_33.frozen
              have lt_jb := jb_33.lt
              have cell_pa := pa_33.cell
              have froz_pa := pa_33.frozen
              have lt_pa := pa_33.lt
              have cell_ta := ta_33.cell
              have froz_ta := ta_33.frozen
              have lt_ta := ta_33.lt
              go_upto_region 18 with fail
              refine wp_touch1 (w0 := w33) (L := [o]) (b0 := o) (t0 := 40) (c0 := #[.int .i64 S.z, .int .i64 (S.n + (job S).n), .int .i64 (S.b), .slice (some ⟨g, 0, none⟩) S.js.length cj, .slice T S.ts.length tcp, .slice F S.fs.length cf]) ?_ ?_ ?_
              (focus exact blkcBy)
              (focus (exact tchBy))
              intro w34 ox_34 hX34
              have sX34 := hX34.size
              have b_34 := hX34.below b_33 (by first | (simp; done) | (simp; omega))
              have rj_34 := own_touch' hX34 rj_33 (fun q hq => by have h1 := rj_in q hq; (try have e0 := own_ne_obj rj_33 ox_33 (by decide) q hq); simp; omega)
              have rt_34 := own_touch' hX34 rt_33 (fun q hq => by have h1 := rt_in q hq; (try have e0 := own_ne_obj rt_33 ox_33 (by decide) q hq); simp; omega)
              have rf_34 := own_touch' hX34 rf_33 (fun q hq => by have h1 := rf_in q hq; (try have e0 := own_ne_obj rf_33 ox_33 (by decide) q hq); simp; omega)
              have jb_34 := Blk.touch hX34 jb_33 (by first | (simp; done) | (simp; omega))
              have pa_34 := Blk.touch hX34 pa_33 (by first | (simp; done) | (simp; omega))
              have ta_34 := Blk.touch hX34 ta_33 (by first | (simp; done) | (simp; omega))
              clear rj_33 rt_33 rf_33 ox_33 jb_33 pa_33 ta_33 b_33 cell_ox froz_ox lt_ox cell_jb froz_jb lt_jb cell_pa froz_pa lt_pa cell_ta froz_ta lt_ta hX34
              have cell_ox := ox_34.cell
              have froz_ox := ox_34.frozen
              have lt_ox := ox_34.lt
              have cell_jb := jb_34.cell
              have froz_jb := jb_34.frozen
              have lt_jb := jb_34.lt
              have cell_pa := pa_34.cell
              have froz_pa := pa_34.frozen
              have lt_pa := pa_34.lt
              have cell_ta := ta_34.cell
              have froz_ta := ta_34.frozen
              have lt_ta := ta_34.lt
              go_cut [] (fun wx => ∃ A_rt c_rt, Blk wx (o) 40 #[.int .i64 S.z, .int .i64 (S.n + (job S).n), .int .i64 (S.b), .slice (some ⟨g, 0, none⟩) S.js.length cj, .slice A_rt (S.ts.length + 1) c_rt, .slice F S.fs.length cf] ∧ wx.ownsRow w.heap.size 88 2 (.slice A_rt (S.ts.length + 1) c_rt) (S.ts.length + 1) (ints (flatT S.ts) ++ [.int .i64 S.n, .int .i64 (job S).n]) ∧ Touch (o :: (.slice T S.ts.length tcp : Value).ownBlock.toList) w34 wx)
              case first =>
                go_region_law (refine step_app _ rfl (.tmp 112) (.tmp 114) 37 rfl w.heap.size 88 (.agg #[.int .i64 0, .int .i64 0]) 2 16 Tryz.underlying37 infoTicket rfl (by decide) (.slice T S.ts.length tcp) (S.ts.length) (ints (flatT S.ts)) rfl ?_ ⟨w34.heap.size, 0, none⟩ 1 1 ([.int .i64 S.n, .int .i64 (job S).n]) rfl rfl ?_ (two_one _ _) (by omega) (by decide) ?_ ?_; (focus (repeat (first | (with_reducible assumption) | (with_reducible apply World.ownsRow.alloc) | (with_reducible apply World.ownsRow.drew)))); (focus (exact many_new _ [.int .i64 S.n, .int .i64 (job S).n] _)); (focus (first | omega | (simp; done) | (simp; omega))); intro A5 c5 w5 ho5 hg5; have ht5 := touch_app (o := o) (w := w34) (by first | exact (Below.refl _ _).drew.alloc (Nat.le_refl _) _ | exact ((Below.refl _ _).alloc (Nat.le_refl _) _).drew | (exact belBy)) hg5; have kx5 := gr_blk hg5 (b := o) (t := 40) (cs := #[.int .i64 S.z, .int .i64 (S.n + (job S).n), .int .i64 (S.b), .slice (some ⟨g, 0, none⟩) S.js.length cj, .slice T S.ts.length tcp, .slice F S.fs.length cf]) (by exact blkcBy) (fun q hq => by have h1 := rt_in q hq; omega); have cx5 := kx5.cell; have fx5 := kx5.frozen; have lx5 := kx5.lt; clear hg5)
                all_goals
                  go_wp2_with fail
                  go_meet
                  exact ⟨A5, c5, by exact blkcBy, own_setne ho5 (by first | decide | exact own_ne_obj ho5 kx5 (by decide)), ht5 _ _⟩
              case rest =>
                obtain ⟨A_rt, c_rt, ox_35, rt_n, hX35⟩ := hcut
                obtain ⟨w35, rfl⟩ : ∃ z : World, z = wc := ⟨_, rfl⟩
                have sX35 := hX35.size
                have b_35 := hX35.below b_34 (fun i hi => by rcases mem_row hi with h | h; (subst h; omega); (have h1 := rt_in i h; omega))
                have rj_35 := own_touch' hX35 rj_34 (fun q hq => by have h1 := rj_in q hq; refine not_mem_row (by omega) (fun p hp => by first | (have h2 := rt_in p hp; omega) | exact own_ne rt_34 rj_34 (by decide) p q hp hq))
                have rf_35 := own_touch' hX35 rf_34 (fun q hq => by have h1 := rf_in q hq; refine not_mem_row (by omega) (fun p hp => by first | (have h2 := rt_in p hp; omega) | exact own_ne rt_34 rf_34 (by decide) p q hp hq))
                have jb_35 := Blk.touch hX35 jb_34 (not_mem_row (by omega) (fun p hp => by have h2 := rt_in p hp; omega))
                have pa_35 := Blk.touch hX35 pa_34 (not_mem_row (by omega) (fun p hp => by have h2 := rt_in p hp; omega))
                have ta_35 := Blk.touch hX35 ta_34 (not_mem_row (by omega) (fun p hp => by have h2 := rt_in p hp; omega))
                have rt_35 := rt_n
                clear rj_34 rt_34 rf_34 ox_34 jb_34 pa_34 ta_34 b_34 cell_ox froz_ox lt_ox cell_jb froz_jb lt_jb cell_pa froz_pa lt_pa cell_ta froz_ta lt_ta hX35 rt_n rt_in
                have rt_in := own_off rt_35 ox_35 (by decide)
                have cell_ox := ox_35.cell
                have froz_ox := ox_35.frozen
                have lt_ox := ox_35.lt
                have cell_jb := jb_35.cell
                have froz_jb := jb_35.frozen
                have lt_jb := jb_35.lt
                have cell_pa := pa_35.cell
                have froz_pa := pa_35.frozen
                have lt_pa := pa_35.lt
                have cell_ta := ta_35.cell
                have froz_ta := ta_35.frozen
                have lt_ta := ta_35.lt
                go_upto_region 21 with fail
                refine wp_touch1 (w0 := w35) (L := [wr.heap.size]) (b0 := wr.heap.size) (t0 := 64) (c0 := #[.int .i64 (job S).i, .int .i64 (job S).n, .int .i64 ((job S).l - 1), .int .i64 ((job S).d + 1)]) ?_ ?_ ?_
                (focus exact blkcBy)
                (focus (exact tchBy))
                intro w36 jb_36 hX36
                have sX36 := hX36.size
                have b_36 := hX36.below b_35 (by first | (simp; done) | (simp; omega))
                have rj_36 := own_touch' hX36 rj_35 (fun q hq => by have h1 := rj_in q hq; (try have e0 := own_ne_obj rj_35 jb_35 (by decide) q hq); simp; omega)
                have rt_36 := own_touch' hX36 rt_35 (fun q hq => by have h1 := rt_in q hq; (try have e0 := own_ne_obj rt_35 jb_35 (by decide) q hq); simp; omega)
                have rf_36 := own_touch' hX36 rf_35 (fun q hq => by have h1 := rf_in q hq; (try have e0 := own_ne_obj rf_35 jb_35 (by decide) q hq); simp; omega)
                have ox_36 := Blk.touch hX36 ox_35 (by first | (simp; done) | (simp; omega))
                have pa_36 := Blk.touch hX36 pa_35 (by first | (simp; done) | (simp; omega))
                have ta_36 := Blk.touch hX36 ta_35 (by first | (simp; done) | (simp; omega))
                clear rj_35 rt_35 rf_35 ox_35 jb_35 pa_35 ta_35 b_35 cell_ox froz_ox lt_ox cell_jb froz_jb lt_jb cell_pa froz_pa lt_pa cell_ta froz_ta lt_ta hX36
                have cell_ox := ox_36.cell
                have froz_ox := ox_36.frozen
                have lt_ox := ox_36.lt
                have cell_jb := jb_36.cell
                have froz_jb := jb_36.frozen
                have lt_jb := jb_36.lt
                have cell_pa := pa_36.cell
                have froz_pa := pa_36.frozen
                have lt_pa := pa_36.lt
                have cell_ta := ta_36.cell
                have froz_ta := ta_36.frozen
                have lt_ta := ta_36.lt
                have f0 := rj_36.frozenAt (k * 4)
                have f1 := rj_36.frozenAt (k * 4 + 1)
                have f2 := rj_36.frozenAt (k * 4 + 2)
                have f3 := rj_36.frozenAt (k * 4 + 3)
                have g0 := (rj_36.cellAt (k * 4) (by omega)).trans (dd 0 _ rfl)
                have g1 := (rj_36.cellAt (k * 4 + 1) (by omega)).trans (dd 1 _ rfl)
                have g2 := (rj_36.cellAt (k * 4 + 2) (by omega)).trans (dd 2 _ rfl)
                have g3 := (rj_36.cellAt (k * 4 + 3) (by omega)).trans (dd 3 _ rfl)
                go_still_tail 7, (by kernel_rfl)
                go_upto_region 22 with fail
                first | refine wp_stored4 rj_36 (k * 4) (.int .i64 (job S).i) (.int .i64 (job S).n) (.int .i64 ((job S).l - 1)) (.int .i64 ((job S).d + 1)) _ rfl rfl rfl rfl ?_ | refine wp_stored4d rj_36 (k * 4) (.int .i64 (job S).i) (.int .i64 (job S).n) (.int .i64 ((job S).l - 1)) (.int .i64 ((job S).d + 1)) _ rfl rfl rfl rfl ?_
                intro w37 rj_37 hg37
                have s37 := hg37.size
                have b_37 := gr_below hg37 b_36 (by omega) (fun q hq => by have h1 := rj_in q hq; omega)
                have rt_37 := gr_own hg37 rt_36 (fun q p hq hp => by first | (have h1 := rj_in q hq; have h2 := rt_in p hp; omega) | exact own_ne rj_36 rt_36 (by decide) q p hq hp | exact ne_rj_rt q p hq hp | exact (ne_rt_rj p q hp hq).symm)
                have rf_37 := gr_own hg37 rf_36 (fun q p hq hp => by first | (have h1 := rj_in q hq; have h2 := rf_in p hp; omega) | exact own_ne rj_36 rf_36 (by decide) q p hq hp | exact ne_rj_rf q p hq hp | exact (ne_rf_rj p q hp hq).symm)
                have ox_37 := gr_blk hg37 ox_36 (fun q hq => by have h1 := rj_in q hq; omega)
                have jb_37 := gr_blk hg37 jb_36 (fun q hq => by have h1 := rj_in q hq; omega)
                have pa_37 := gr_blk hg37 pa_36 (fun q hq => by have h1 := rj_in q hq; omega)
                have ta_37 := gr_blk hg37 ta_36 (fun q hq => by have h1 := rj_in q hq; omega)
                clear rj_36 rt_36 rf_36 ox_36 jb_36 pa_36 ta_36 b_36 cell_ox froz_ox lt_ox cell_jb froz_jb lt_jb cell_pa froz_pa lt_pa cell_ta froz_ta lt_ta hg37
                have cell_ox := ox_37.cell
                have froz_ox := ox_37.frozen
                have lt_ox := ox_37.lt
                have cell_jb := jb_37.cell
                have froz_jb := jb_37.frozen
                have lt_jb := jb_37.lt
                have cell_pa := pa_37.cell
                have froz_pa := pa_37.frozen
                have lt_pa := pa_37.lt
                have cell_ta := ta_37.cell
                have froz_ta := ta_37.frozen
                have lt_ta := ta_37.lt
                clear f0 f1 f2 f3 g0 g1 g2 g3
                rw [ints_set', ints_set', ints_set', ints_set', eSet] at rj_37
                have HRJ := hid rj_37
                have HRT := hid rt_37
                have HRF := hid rf_37
                have HOX := hid ox_37
                have HBB := hid b_37
                clear rj_37 rt_37 rf_37 ox_37 b_37
                go_wp2_with fail
                ((try simp only [Exit.inBlock, Exit.then]); apply bodyPost_ret0; focus ((try simp only [results, Tryz.results75]); (try go_simp); (try rfl)))
                rw [stepS_take HFL.out]
                have e2 : (stepT S).ts.length = S.ts.length + 1 := by simp [stepT]
                have e3 : ints (flatT (stepT S).ts) = ints (flatT S.ts) ++ [.int .i64 S.n, .int .i64 (job S).n] := by simp [stepT, flatT_append, flatT, ints]
                have e5 : (stepT S).b = S.b := HBU.out
                have e4 : (stepT S).js = S.js.set k (jbNext (job S)) := by rw [← HK.out]; simp only [stepT]; rw [if_neg HL.out]
                have e1 : (stepT S).js.length = S.js.length := by rw [e4]; simp
                rw [e1, e2, e3, e4, e5]
                exact ⟨rfl, _, cj, A_rt, c_rt, F, cf, HOX.out, HRJ.out, HRT.out, HRF.out, HBB.out⟩
      · skip
        have hsh : 0 < S.n + (job S).n - S.b := by
          unfold failsB short at hfl
          simp only [Bool.and_eq_true, decide_eq_true_eq] at hfl
          exact hfl.1
        have hrs : resB S.z S.n S.b (S.n + (job S).n - S.b) = false := by
          unfold failsB short at hfl
          simp only [Bool.and_eq_true, Bool.not_eq_true'] at hfl
          exact hfl.2
        have hpr := sPoolReserve S.z S.n S.b (S.n + (job S).n - S.b)
        rw [hrs, pick_no] at hpr
        have HPR := hid hpr
        have HFL := hid hfl
        have HRS := hid hrs
        clear hpr hfl hrs
        exact absurd (HV.out.1.symm.trans HFL.out) (by decide)
end Go.Proofs.YtjknadnknainbaaGreatDoor
