/- ParseAct, in the program: three numbers. -/
import Derived.Test.YtjknadnknainbaaGreatDoorMem
import Derived.Test.YtjknadnknainbaaGreatDoorPActL
namespace Go.Proofs.YtjknadnknainbaaGreatDoor
open Go.RowKit

set_option linter.unusedVariables false in
set_option maxRecDepth 100000 in
set_option maxHeartbeats 3200000 in
theorem iPAct3 (l : List UInt8) (w : World) (hl : l.length ≤ 1048576) (he : Env w) (hs : sfB l = true) (x : List UInt8) (ws : List (List UInt8)) (hw : flds l = x :: ws) (hx : x = wAdd) :
    Calls Tryz.prog 23 #[.string ⟨l.toArray⟩] w fun e w' => e = .returned (.tuple #[paV (flds l), .bool (paB (flds l))]) ∧ Below w.heap.size w w' := by
  have HE := hid he
  have HSP := hid (fun w he => iSplitFields l w hl he)
  have hxl : x.length ≤ 1048576 := by
    have := len_flds (l := l) x (by rw [hw]; simp)
    omega
  have h600 : l.length ≤ 600 := by
    unfold sfB at hs
    simp at hs
    omega
  have HWL := hid (fun y (hy : y ∈ x :: ws) => Nat.le_trans (len_flds (l := l) y (by rw [hw]; exact hy)) h600)
  have HWW := hid (fun y (hy : y ∈ x :: ws) => flds_words l y (by rw [hw]; exact hy))
  rw [hs] at HSP
  rw [hw] at HSP ⊢
  obtain ⟨N, hN⟩ : ∃ N, ws.length = N := ⟨_, rfl⟩
  have HN := hid hN
  have hN24 : N + 1 ≤ 24 := by
    unfold sfB at hs
    simp at hs
    rw [hw] at hs
    simp at hs
    omega
  have HX := hid hx
  clear hx
  clear he hs hw hN
  go_enter Tryz.func23, Tryz.ntmps23
  have b_0 := (Below.refl w.heap.size w)
  have s_0 := b_0.size
  go_upto_region 1 with fail
  refine wp_forget1 (w0 := w) (B := w.heap.size) (b0 := w.heap.size) (t0 := 30) (c0 := #[.int .i64 0, .int .i64 0, .int .i64 0, .int .i64 0]) ?_ ?_ ?_
  (focus exact blkcBy)
  (focus (exact belBy))
  intro w1 r_1 hX1
  have sX1 := hX1.size
  have r_lt := r_1.lt
  have b_1 := b_0.trans (hX1.mono (by omega))
  clear b_0 hX1
  have cell_r := r_1.cell
  have froz_r := r_1.frozen
  have lt_r := r_1.lt
  have HB1 := hid b_1
  have HR1 := hid r_1
  clear b_1 cell_r froz_r
  go_wp2_with fail
  refine (HSP.out _ (HE.out.step HB1.out HE.out)).mono ?_
  rintro e w2 ⟨n, A, c, rfl, hn, hb2⟩
  have hh := hn trivial
  clear hn
  obtain ⟨hn, ho⟩ := hh
  have HB2 := hid (HB1.out.trans (hb2.mono HB1.out.size))
  have HR2 := hid (Blk.past hb2 HR1.out)
  replace hn := hn.trans (show (x :: ws).length = N + 1 by rw [← HN.out]; rfl)
  subst hn
  have hn0 : (((N + 1 : Nat) : Int) == 0) = false := by simp; omega
  obtain ⟨g, rfl, hg0, hg1, _⟩ := own_at ho (by simp)
  have HO := hid ho
  clear hb2 ho
  have hmm := @run_makeMap Tryz.prog
  have hkm := Kmap.made (P := Tryz.prog) (k := 9) (e := 3) (w := w2) rfl
  have hbm := (Below.refl w2.heap.size w2).alloc (Nat.le_refl _) (.map #[] 0)
  go_upto_region 4 with fail
  go_upto_region 5 with (first
    | (refine wpList_insert_k rfl _ _ _ _ rfl Tryz.underlying72 Tryz.underlying9 Tryz.underlying3 rfl hkm (by decide) _ _ rfl rfl (by decide) (by decide) ?_; intro wm hk2 gkm; have hkm := hk2; clear hk2; have hbm := hbm.grown gkm hbm.size (fun j hj => by cases hj; exact Nat.le_refl _))
    | go_in)
  have hlk := hkm.look Tryz.underlying72 Tryz.underlying9 Tryz.underlying3 (by kernel_rfl) x (Nat.le_trans hxl (by decide))
  obtain ⟨kd, hkd⟩ : ∃ kd : Int, kd = kdOf x := ⟨_, rfl⟩
  have hlk' : (Instr.lookup 72 (.map (some w2.heap.size)) (.string ⟨x.toArray⟩) false).run Tryz.prog wm = .ok (.int .i64 kd) wm := by rw [hkd]; exact hlk
  have HKD := hid hkd
  have ho_m := own_below HO.out hbm
  have hr_m := Blk.past hbm HR2.out
  have zwz := hbm.size
  have hb_m := HB2.out.trans (hbm.mono HB2.out.size)
  have hc0 : wm.cell? ⟨g, 0, none⟩ = some (.string ⟨x.toArray⟩) := (ho_m.cellAt 0 (by simp)).trans (strs_get (l := x) rfl)
  obtain ⟨wz, hwz⟩ : ∃ z, z = wm := ⟨_, rfl⟩
  rw [← hwz] at hlk' ho_m hr_m hb_m hc0 zwz
  rw [← hwz]
  clear hlk hkd hkm hbm gkm hwz hn0
  have z1 := HR1.out.lt
  have hoi : ∀ q, (Value.slice (some ⟨g, 0, none⟩) (N + 1) c).ownBlock = some q → w1.heap.size ≤ q ∧ q < wz.heap.size := fun q hq => by
    have h := own_here q hq
    omega
  have hk1 : (kd == 1) = true := by
    rw [HKD.out, HX.out]
    decide
  have hcap : N + 1 ≤ c := own_cap' ho_m
  by_cases hc1 : c = 1
  · skip
    subst hc1
    obtain rfl : N = 0 := by omega
    clear hcap
    have b_30 := hb_m
    have s_30 := b_30.size
    have o_in := hoi
    have o_30 := ho_m
    clear ho_m
    have r_30 := hr_m
    clear hr_m
    have r_lt := r_30.lt
    have cell_r := r_30.cell
    have froz_r := r_30.frozen
    have lt_r := r_30.lt
    go_upto_region 9 with fail
    refine wp_forget3 (w0 := wz) (B := wz.heap.size) (b0 := wz.heap.size) (t0 := 30) (c0 := #[.int .i64 kd, .int .i64 0, .int .i64 0, .int .i64 0]) (b1 := wz.heap.size + 1) (t1 := 73) (c1 := #[.pointer (some ⟨wz.heap.size, 3, none⟩)]) (b2 := wz.heap.size + 2) (t2 := 73) (c2 := #[.pointer (some ⟨wz.heap.size, 1, none⟩), .pointer (some ⟨wz.heap.size, 2, none⟩), .pointer (some ⟨wz.heap.size, 3, none⟩)]) ?_ ?_ ?_ ?_ ?_
    (focus exact blkcBy)
    (focus exact blkcBy)
    (focus exact blkcBy)
    (focus (exact belBy))
    intro w31 a_31 f0_31 f_31 hX31
    have sX31 := hX31.size
    have a_lt := a_31.lt
    have f0_lt := f0_31.lt
    have f_lt := f_31.lt
    have b_31 := b_30.trans (hX31.mono (by omega))
    have o_31 := own_below o_30 hX31
    have r_31 := Blk.past hX31 r_30
    clear o_30 r_30 b_30 cell_r froz_r lt_r hX31
    have cell_r := r_31.cell
    have froz_r := r_31.frozen
    have lt_r := r_31.lt
    have cell_a := a_31.cell
    have froz_a := a_31.frozen
    have lt_a := a_31.lt
    have cell_f0 := f0_31.cell
    have froz_f0 := f0_31.frozen
    have lt_f0 := f0_31.lt
    have cell_f := f_31.cell
    have froz_f := f_31.frozen
    have lt_f := f_31.lt
    go_wp2_with fail
    refine wp_loop_rounds 1 ?_
    rw [rounds_succ]
    have hws : ws = [] := List.length_eq_zero_iff.1 HN.out
    have HEND := hid (show paB (x :: ws) = (actOkB kd 0 0 0 && decide (actTxt kd 0 0 0 = Lib.join (x :: ws) [32])) by
      subst hws
      rw [pa_end rfl (by unfold nfOf; split <;> simp), HKD.out]
      unfold aI aD aN gN
      simp [puN_nil])
    have HYES := hid (fun (h : paB (x :: ws) = true) => show paV (x :: ws) = .agg #[.int .i64 kd, .int .i64 0, .int .i64 0, .int .i64 0] by
      subst hws
      rw [pa_yes h, HKD.out]
      unfold aI aD aN gN
      simp [puN_nil])
    clear hws
    have ho := o_31
    have hr := r_31
    have ha := a_31
    have hb := b_31
    clear o_31 r_31 a_31 b_31 cell_r cell_a froz_r froz_a lt_r lt_a o_in

    have HFA := hid (fun w ht => iFormatAct kd (0) (0) (0) w ht)
    have HT := hid HE.out.tab
    cases hok : actOkB kd (0) (0) (0)
    · rw [hok, actTxt_no hok] at HFA
      have HNO := hid (show paB (x :: ws) = false by rw [HEND.out, hok]; rfl)
      have HNV := hid (paV_no HNO.out)
      clear hok
      have b_60 := hb
      have s_60 := b_60.size
      have o_in := hoi
      have o_60 := ho
      clear ho
      have r_60 := hr
      clear hr
      have r_lt := r_60.lt
      have cell_r := r_60.cell
      have froz_r := r_60.frozen
      have lt_r := r_60.lt
      have a_60 := ha
      clear ha
      have a_lt := a_60.lt
      have cell_a := a_60.cell
      have froz_a := a_60.frozen
      have lt_a := a_60.lt
      go_wp2_with fail
      refine calls_forget0 (W := w31) ?_ ?_
      (focus (exact belBy))
      intro X61 hX61
      have sX61 := hX61.size
      refine (HFA.out _ (HT.out.step (b_60.trans (hX61.mono (by omega))) HT.out)).mono ?_
      rintro e w61 ⟨rfl, hb61⟩
      have s61 := hb61.size
      have hT61 := hX61.trans (hb61.mono sX61)
      have b_61 := b_60.trans (hT61.mono (by omega))
      have o_61 := own_below o_60 hT61
      have r_61 := Blk.past hT61 r_60
      have a_61 := Blk.past hT61 a_60
      clear o_60 r_60 a_60 b_60 cell_r froz_r lt_r cell_a froz_a lt_a hX61 hT61 hb61
      have cell_r := r_61.cell
      have froz_r := r_61.frozen
      have lt_r := r_61.lt
      have cell_a := a_61.cell
      have froz_a := a_61.frozen
      have lt_a := a_61.lt
      go_wp2_with fail
      ((try simp only [Exit.inBlock, Exit.then]); apply bodyPost_ret0; focus ((try simp only [results, Tryz.results23]); (try go_simp); (try rfl)))
      refine ⟨by rw [HNV.out, HNO.out], ?_⟩
      exact belBy
    · rw [hok] at HFA
      obtain ⟨T, hT⟩ : ∃ T, actTxt kd (0) (0) (0) = T := ⟨_, rfl⟩
      rw [hT] at HFA
      have HJ := hid (fun w ho => iJoin (x :: ws) (0 + 1) g 1 w1.heap.size w ho (by rw [← HN.out]; rfl) hN24 (fun y hy => Nat.le_trans (HWL.out y hy) (by decide)))
      obtain ⟨J, hJ⟩ : ∃ J, Lib.join (x :: ws) [32] = J := ⟨_, rfl⟩
      rw [hJ] at HJ
      have hend := HEND.out
      rw [hok, hT, hJ, Bool.true_and] at hend
      have HEN := hid hend
      clear hok hT hend
      by_cases hTJ : T = J
      · subst hTJ
        have HNO := hid (show paB (x :: ws) = true by rw [HEN.out]; simp)
        have HNV := hid (HYES.out HNO.out)
        clear hJ
        have b_60 := hb
        have s_60 := b_60.size
        have o_in := hoi
        have o_60 := ho
        clear ho
        have r_60 := hr
        clear hr
        have r_lt := r_60.lt
        have cell_r := r_60.cell
        have froz_r := r_60.frozen
        have lt_r := r_60.lt
        have a_60 := ha
        clear ha
        have a_lt := a_60.lt
        have cell_a := a_60.cell
        have froz_a := a_60.frozen
        have lt_a := a_60.lt
        go_wp2_with fail
        refine calls_forget0 (W := w31) ?_ ?_
        (focus (exact belBy))
        intro X61 hX61
        have sX61 := hX61.size
        refine (HFA.out _ (HT.out.step (b_60.trans (hX61.mono (by omega))) HT.out)).mono ?_
        rintro e w61 ⟨rfl, hb61⟩
        have s61 := hb61.size
        have hT61 := hX61.trans (hb61.mono sX61)
        have b_61 := b_60.trans (hT61.mono (by omega))
        have o_61 := own_below o_60 hT61
        have r_61 := Blk.past hT61 r_60
        have a_61 := Blk.past hT61 a_60
        clear o_60 r_60 a_60 b_60 cell_r froz_r lt_r cell_a froz_a lt_a hX61 hT61 hb61
        have cell_r := r_61.cell
        have froz_r := r_61.frozen
        have lt_r := r_61.lt
        have cell_a := a_61.cell
        have froz_a := a_61.frozen
        have lt_a := a_61.lt
        go_wp2_with fail
        refine calls_forget0 (W := w61) ?_ ?_
        (focus (exact belBy))
        intro X62 hX62
        have sX62 := hX62.size
        refine (HJ.out _ (own_below o_61 hX62)).mono ?_
        rintro e w62 ⟨rfl, hb62⟩
        have s62 := hb62.size
        have hT62 := hX62.trans (hb62.mono sX62)
        have b_62 := b_61.trans (hT62.mono (by omega))
        have o_62 := own_below o_61 hT62
        have r_62 := Blk.past hT62 r_61
        have a_62 := Blk.past hT62 a_61
        clear o_61 r_61 a_61 b_61 cell_r froz_r lt_r cell_a froz_a lt_a hX62 hT62 hb62
        have cell_r := r_62.cell
        have froz_r := r_62.frozen
        have lt_r := r_62.lt
        have cell_a := a_62.cell
        have froz_a := a_62.frozen
        have lt_a := a_62.lt
        go_wp2_with fail
        ((try simp only [Exit.inBlock, Exit.then]); apply bodyPost_ret0; focus ((try simp only [results, Tryz.results23]); (try go_simp); (try rfl)))
        refine ⟨by rw [HNV.out, HNO.out], ?_⟩
        exact belBy
      · have HNO := hid (show paB (x :: ws) = false by rw [HEN.out]; simp [hTJ])
        have HNV := hid (paV_no HNO.out)
        have hTJ' : (T == J) = false := by simpa using hTJ
        clear hJ hTJ
        have b_60 := hb
        have s_60 := b_60.size
        have o_in := hoi
        have o_60 := ho
        clear ho
        have r_60 := hr
        clear hr
        have r_lt := r_60.lt
        have cell_r := r_60.cell
        have froz_r := r_60.frozen
        have lt_r := r_60.lt
        have a_60 := ha
        clear ha
        have a_lt := a_60.lt
        have cell_a := a_60.cell
        have froz_a := a_60.frozen
        have lt_a := a_60.lt
        go_wp2_with fail
        refine calls_forget0 (W := w31) ?_ ?_
        (focus (exact belBy))
        intro X61 hX61
        have sX61 := hX61.size
        refine (HFA.out _ (HT.out.step (b_60.trans (hX61.mono (by omega))) HT.out)).mono ?_
        rintro e w61 ⟨rfl, hb61⟩
        have s61 := hb61.size
        have hT61 := hX61.trans (hb61.mono sX61)
        have b_61 := b_60.trans (hT61.mono (by omega))
        have o_61 := own_below o_60 hT61
        have r_61 := Blk.past hT61 r_60
        have a_61 := Blk.past hT61 a_60
        clear o_60 r_60 a_60 b_60 cell_r froz_r lt_r cell_a froz_a lt_a hX61 hT61 hb61
        have cell_r := r_61.cell
        have froz_r := r_61.frozen
        have lt_r := r_61.lt
        have cell_a := a_61.cell
        have froz_a := a_61.frozen
        have lt_a := a_61.lt
        go_wp2_with fail
        refine calls_forget0 (W := w61) ?_ ?_
        (focus (exact belBy))
        intro X62 hX62
        have sX62 := hX62.size
        refine (HJ.out _ (own_below o_61 hX62)).mono ?_
        rintro e w62 ⟨rfl, hb62⟩
        have s62 := hb62.size
        have hT62 := hX62.trans (hb62.mono sX62)
        have b_62 := b_61.trans (hT62.mono (by omega))
        have o_62 := own_below o_61 hT62
        have r_62 := Blk.past hT62 r_61
        have a_62 := Blk.past hT62 a_61
        clear o_61 r_61 a_61 b_61 cell_r froz_r lt_r cell_a froz_a lt_a hX62 hT62 hb62
        have cell_r := r_62.cell
        have froz_r := r_62.frozen
        have lt_r := r_62.lt
        have cell_a := a_62.cell
        have froz_a := a_62.frozen
        have lt_a := a_62.lt
        go_wp2_with fail
        ((try simp only [Exit.inBlock, Exit.then]); apply bodyPost_ret0; focus ((try simp only [results, Tryz.results23]); (try go_simp); (try rfl)))
        refine ⟨by rw [HNV.out, HNO.out], ?_⟩
        exact belBy
  · skip
    clear hcap
    have b_30 := hb_m
    have s_30 := b_30.size
    have o_in := hoi
    have o_30 := ho_m
    clear ho_m
    have r_30 := hr_m
    clear hr_m
    have r_lt := r_30.lt
    have cell_r := r_30.cell
    have froz_r := r_30.frozen
    have lt_r := r_30.lt
    go_upto_region 9 with fail
    refine wp_forget3 (w0 := wz) (B := wz.heap.size) (b0 := wz.heap.size) (t0 := 30) (c0 := #[.int .i64 kd, .int .i64 0, .int .i64 0, .int .i64 0]) (b1 := wz.heap.size + 1) (t1 := 73) (c1 := #[.pointer (some ⟨wz.heap.size, 3, none⟩)]) (b2 := wz.heap.size + 2) (t2 := 73) (c2 := #[.pointer (some ⟨wz.heap.size, 1, none⟩), .pointer (some ⟨wz.heap.size, 2, none⟩), .pointer (some ⟨wz.heap.size, 3, none⟩)]) ?_ ?_ ?_ ?_ ?_
    (focus exact blkcBy)
    (focus exact blkcBy)
    (focus exact blkcBy)
    (focus (exact belBy))
    intro w31 a_31 f0_31 f_31 hX31
    have sX31 := hX31.size
    have a_lt := a_31.lt
    have f0_lt := f0_31.lt
    have f_lt := f_31.lt
    have b_31 := b_30.trans (hX31.mono (by omega))
    have o_31 := own_below o_30 hX31
    have r_31 := Blk.past hX31 r_30
    clear o_30 r_30 b_30 cell_r froz_r lt_r hX31
    have cell_r := r_31.cell
    have froz_r := r_31.frozen
    have lt_r := r_31.lt
    have cell_a := a_31.cell
    have froz_a := a_31.frozen
    have lt_a := a_31.lt
    have cell_f0 := f0_31.cell
    have froz_f0 := f0_31.frozen
    have lt_f0 := f0_31.lt
    have cell_f := f_31.cell
    have froz_f := f_31.frozen
    have lt_f := f_31.lt
    go_wp2_with fail
    go_loopw [9, 10, 11, 12, 48] (fun _ _ _ _ i wr => ∃ (k : Nat) (I D V : Int), k ≤ N ∧ i = .int .i64 k ∧ k ≤ 3 ∧ (ws.take k).all puB = true ∧ I = (if 0 < k then gN ws 0 else 0) ∧ D = (if 1 < k then gN ws 1 else 0) ∧ V = (if 2 < k then gN ws 2 else 0) ∧ wr.ownsRow w1.heap.size 9 1 (.slice (some ⟨g, 0, none⟩) (N + 1) c) (N + 1) (strs (x :: ws)) ∧ Blk wr w.heap.size 30 #[.int .i64 0, .int .i64 0, .int .i64 0, .int .i64 0] ∧ Blk wr wz.heap.size 30 #[.int .i64 kd, .int .i64 (I), .int .i64 (D), .int .i64 V] ∧ Blk wr (wz.heap.size + 2) 73 #[.pointer (some ⟨wz.heap.size, 1, none⟩), .pointer (some ⟨wz.heap.size, 2, none⟩), .pointer (some ⟨wz.heap.size, 3, none⟩)] ∧ Below w.heap.size w wr) (fun _ _ _ _ i _ => N - (intOf i).toNat)
    case atStart => exact ⟨0, 0, 0, 0, Nat.zero_le _, rfl, Nat.zero_le _, rfl, rfl, rfl, rfl, o_31, r_31, a_31, f_31, b_31⟩
    case round =>
      obtain ⟨k, I, D, V, hk, rfl, hk1, hall, hI, hD, hV, ho, hr, ha, hf, hb⟩ := hrel
      have HALL := hid hall
      clear hall
      have HI := hid hI
      have HD := hid hD
      have HV := hid hV
      clear hI hD hV
      by_cases hlt : k < N
      · obtain ⟨y, hy⟩ : ∃ y, ws[k]? = some y := ⟨_, List.getElem?_eq_getElem (by rw [HN.out]; exact hlt)⟩
        have hlt' : (k : Int) < (N : Int) := by omega
        have hcy : wr.cell? ⟨g, 1 + k, none⟩ = some (.string ⟨y.toArray⟩) := by
          have h1 := ho.cellAt (1 + k) (by simp; omega)
          exact h1.trans (strs_get (l := y) (by rw [Nat.add_comm, List.getElem?_cons_succ]; exact hy))
        have HPU := hid (fun w he => iParseUint y w (by have := HWL.out y (by simp [List.mem_of_getElem? hy]); omega) he)
        have HT := HE
        have HY := hid hy
        clear hy
        cases hpy : puB y
        · rw [hpy] at HPU
          have HNO := hid (pa_no1 (x := x) HY.out hpy)
          have HNV := hid (paV_no HNO.out)
          clear hpy
          have b_50 := hb
          have s_50 := b_50.size
          have o_in := hoi
          have o_50 := ho
          clear ho
          have r_50 := hr
          clear hr
          have r_lt := r_50.lt
          have cell_r := r_50.cell
          have froz_r := r_50.frozen
          have lt_r := r_50.lt
          go_wp2_with fail
          refine calls_forget0 (W := wr) ?_ ?_
          (focus (exact belBy))
          intro X51 hX51
          have sX51 := hX51.size
          refine (HPU.out _ (HT.out.step (b_50.trans (hX51.mono (by omega))) HT.out)).mono ?_
          rintro e w51 ⟨rfl, hb51⟩
          have s51 := hb51.size
          have hT51 := hX51.trans (hb51.mono sX51)
          have b_51 := b_50.trans (hT51.mono (by omega))
          have o_51 := own_below o_50 hT51
          have r_51 := Blk.past hT51 r_50
          clear o_50 r_50 b_50 cell_r froz_r lt_r hX51 hT51 hb51
          have cell_r := r_51.cell
          have froz_r := r_51.frozen
          have lt_r := r_51.lt
          go_wp2_with fail
          ((try simp only [Exit.inBlock, Exit.then]); apply bodyPost_ret0; focus ((try simp only [results, Tryz.results23]); (try go_simp); (try rfl)))
          refine ⟨by rw [HNV.out, HNO.out], ?_⟩
          exact belBy
        · rw [hpy] at HPU
          have HPY := hid hpy
          obtain ⟨z, hz⟩ : ∃ z, puN y = z := ⟨_, rfl⟩
          rw [hz] at HPU
          have HZ := hid hz
          clear hpy hz
          by_cases hk0 : k = 0
          · subst hk0
            have b_50 := hb
            have s_50 := b_50.size
            have o_in := hoi
            have o_50 := ho
            clear ho
            have r_50 := hr
            clear hr
            have r_lt := r_50.lt
            have cell_r := r_50.cell
            have froz_r := r_50.frozen
            have lt_r := r_50.lt
            have a_50 := ha
            clear ha
            have a_lt := a_50.lt
            have cell_a := a_50.cell
            have froz_a := a_50.frozen
            have lt_a := a_50.lt
            have f_50 := hf
            clear hf
            have f_lt := f_50.lt
            have cell_f := f_50.cell
            have froz_f := f_50.frozen
            have lt_f := f_50.lt
            go_wp2_with fail
            refine calls_forget0 (W := wr) ?_ ?_
            (focus (exact belBy))
            intro X51 hX51
            have sX51 := hX51.size
            refine (HPU.out _ (HT.out.step (b_50.trans (hX51.mono (by omega))) HT.out)).mono ?_
            rintro e w51 ⟨rfl, hb51⟩
            have s51 := hb51.size
            have hT51 := hX51.trans (hb51.mono sX51)
            have b_51 := b_50.trans (hT51.mono (by omega))
            have o_51 := own_below o_50 hT51
            have r_51 := Blk.past hT51 r_50
            have a_51 := Blk.past hT51 a_50
            have f_51 := Blk.past hT51 f_50
            clear o_50 r_50 a_50 f_50 b_50 cell_r froz_r lt_r cell_a froz_a lt_a cell_f froz_f lt_f hX51 hT51 hb51
            have cell_r := r_51.cell
            have froz_r := r_51.frozen
            have lt_r := r_51.lt
            have cell_a := a_51.cell
            have froz_a := a_51.frozen
            have lt_a := a_51.lt
            have cell_f := f_51.cell
            have froz_f := f_51.frozen
            have lt_f := f_51.lt
            go_upto_region 15 with fail
            go_upto_region 16 with fail
            refine wp_touch1 (w0 := w51) (L := [wz.heap.size]) (b0 := wz.heap.size) (t0 := 30) (c0 := #[.int .i64 kd, .int .i64 z, .int .i64 D, .int .i64 V]) ?_ ?_ ?_
            (focus exact blkcBy)
            (focus (exact tchBy))
            intro w52 a_52 hX52
            have sX52 := hX52.size
            have b_52 := hX52.below b_51 (by first | (simp; done) | (simp; omega))
            have o_52 := own_touch' hX52 o_51 (fun q hq => by have h1 := o_in q hq; (try have e0 := own_ne_obj o_51 a_51 (by decide) q hq); simp; omega)
            have r_52 := Blk.touch hX52 r_51 (by first | (simp; done) | (simp; omega))
            have f_52 := Blk.touch hX52 f_51 (by first | (simp; done) | (simp; omega))
            clear o_51 r_51 a_51 f_51 b_51 cell_r froz_r lt_r cell_a froz_a lt_a cell_f froz_f lt_f hX52
            have cell_r := r_52.cell
            have froz_r := r_52.frozen
            have lt_r := r_52.lt
            have cell_a := a_52.cell
            have froz_a := a_52.frozen
            have lt_a := a_52.lt
            have cell_f := f_52.cell
            have froz_f := f_52.frozen
            have lt_f := f_52.lt
            go_wp2
            go_roundw
            case rel => exact ⟨1, z, D, V, by omega, by go_num, by omega, all_snoc HY.out HALL.out HPY.out, by rw [if_pos (by decide), gN_at HY.out, HZ.out], by rw [HD.out]; rfl, by rw [HV.out]; rfl, o_52, r_52, a_52, f_52, b_52⟩
            case measure => simp [intOf]; omega
          by_cases hk0 : k = 1
          · subst hk0
            have b_50 := hb
            have s_50 := b_50.size
            have o_in := hoi
            have o_50 := ho
            clear ho
            have r_50 := hr
            clear hr
            have r_lt := r_50.lt
            have cell_r := r_50.cell
            have froz_r := r_50.frozen
            have lt_r := r_50.lt
            have a_50 := ha
            clear ha
            have a_lt := a_50.lt
            have cell_a := a_50.cell
            have froz_a := a_50.frozen
            have lt_a := a_50.lt
            have f_50 := hf
            clear hf
            have f_lt := f_50.lt
            have cell_f := f_50.cell
            have froz_f := f_50.frozen
            have lt_f := f_50.lt
            go_wp2_with fail
            refine calls_forget0 (W := wr) ?_ ?_
            (focus (exact belBy))
            intro X51 hX51
            have sX51 := hX51.size
            refine (HPU.out _ (HT.out.step (b_50.trans (hX51.mono (by omega))) HT.out)).mono ?_
            rintro e w51 ⟨rfl, hb51⟩
            have s51 := hb51.size
            have hT51 := hX51.trans (hb51.mono sX51)
            have b_51 := b_50.trans (hT51.mono (by omega))
            have o_51 := own_below o_50 hT51
            have r_51 := Blk.past hT51 r_50
            have a_51 := Blk.past hT51 a_50
            have f_51 := Blk.past hT51 f_50
            clear o_50 r_50 a_50 f_50 b_50 cell_r froz_r lt_r cell_a froz_a lt_a cell_f froz_f lt_f hX51 hT51 hb51
            have cell_r := r_51.cell
            have froz_r := r_51.frozen
            have lt_r := r_51.lt
            have cell_a := a_51.cell
            have froz_a := a_51.frozen
            have lt_a := a_51.lt
            have cell_f := f_51.cell
            have froz_f := f_51.frozen
            have lt_f := f_51.lt
            go_upto_region 15 with fail
            go_upto_region 16 with fail
            refine wp_touch1 (w0 := w51) (L := [wz.heap.size]) (b0 := wz.heap.size) (t0 := 30) (c0 := #[.int .i64 kd, .int .i64 I, .int .i64 z, .int .i64 V]) ?_ ?_ ?_
            (focus exact blkcBy)
            (focus (exact tchBy))
            intro w52 a_52 hX52
            have sX52 := hX52.size
            have b_52 := hX52.below b_51 (by first | (simp; done) | (simp; omega))
            have o_52 := own_touch' hX52 o_51 (fun q hq => by have h1 := o_in q hq; (try have e0 := own_ne_obj o_51 a_51 (by decide) q hq); simp; omega)
            have r_52 := Blk.touch hX52 r_51 (by first | (simp; done) | (simp; omega))
            have f_52 := Blk.touch hX52 f_51 (by first | (simp; done) | (simp; omega))
            clear o_51 r_51 a_51 f_51 b_51 cell_r froz_r lt_r cell_a froz_a lt_a cell_f froz_f lt_f hX52
            have cell_r := r_52.cell
            have froz_r := r_52.frozen
            have lt_r := r_52.lt
            have cell_a := a_52.cell
            have froz_a := a_52.frozen
            have lt_a := a_52.lt
            have cell_f := f_52.cell
            have froz_f := f_52.frozen
            have lt_f := f_52.lt
            go_wp2
            go_roundw
            case rel => exact ⟨2, I, z, V, by omega, by go_num, by omega, all_snoc HY.out HALL.out HPY.out, by rw [HI.out]; rfl, by rw [if_pos (by decide), gN_at HY.out, HZ.out], by rw [HV.out]; rfl, o_52, r_52, a_52, f_52, b_52⟩
            case measure => simp [intOf]; omega
          by_cases hk0 : k = 2
          · subst hk0
            have b_50 := hb
            have s_50 := b_50.size
            have o_in := hoi
            have o_50 := ho
            clear ho
            have r_50 := hr
            clear hr
            have r_lt := r_50.lt
            have cell_r := r_50.cell
            have froz_r := r_50.frozen
            have lt_r := r_50.lt
            have a_50 := ha
            clear ha
            have a_lt := a_50.lt
            have cell_a := a_50.cell
            have froz_a := a_50.frozen
            have lt_a := a_50.lt
            have f_50 := hf
            clear hf
            have f_lt := f_50.lt
            have cell_f := f_50.cell
            have froz_f := f_50.frozen
            have lt_f := f_50.lt
            go_wp2_with fail
            refine calls_forget0 (W := wr) ?_ ?_
            (focus (exact belBy))
            intro X51 hX51
            have sX51 := hX51.size
            refine (HPU.out _ (HT.out.step (b_50.trans (hX51.mono (by omega))) HT.out)).mono ?_
            rintro e w51 ⟨rfl, hb51⟩
            have s51 := hb51.size
            have hT51 := hX51.trans (hb51.mono sX51)
            have b_51 := b_50.trans (hT51.mono (by omega))
            have o_51 := own_below o_50 hT51
            have r_51 := Blk.past hT51 r_50
            have a_51 := Blk.past hT51 a_50
            have f_51 := Blk.past hT51 f_50
            clear o_50 r_50 a_50 f_50 b_50 cell_r froz_r lt_r cell_a froz_a lt_a cell_f froz_f lt_f hX51 hT51 hb51
            have cell_r := r_51.cell
            have froz_r := r_51.frozen
            have lt_r := r_51.lt
            have cell_a := a_51.cell
            have froz_a := a_51.frozen
            have lt_a := a_51.lt
            have cell_f := f_51.cell
            have froz_f := f_51.frozen
            have lt_f := f_51.lt
            go_upto_region 15 with fail
            go_upto_region 16 with fail
            refine wp_touch1 (w0 := w51) (L := [wz.heap.size]) (b0 := wz.heap.size) (t0 := 30) (c0 := #[.int .i64 kd, .int .i64 I, .int .i64 D, .int .i64 z]) ?_ ?_ ?_
            (focus exact blkcBy)
            (focus (exact tchBy))
            intro w52 a_52 hX52
            have sX52 := hX52.size
            have b_52 := hX52.below b_51 (by first | (simp; done) | (simp; omega))
            have o_52 := own_touch' hX52 o_51 (fun q hq => by have h1 := o_in q hq; (try have e0 := own_ne_obj o_51 a_51 (by decide) q hq); simp; omega)
            have r_52 := Blk.touch hX52 r_51 (by first | (simp; done) | (simp; omega))
            have f_52 := Blk.touch hX52 f_51 (by first | (simp; done) | (simp; omega))
            clear o_51 r_51 a_51 f_51 b_51 cell_r froz_r lt_r cell_a froz_a lt_a cell_f froz_f lt_f hX52
            have cell_r := r_52.cell
            have froz_r := r_52.frozen
            have lt_r := r_52.lt
            have cell_a := a_52.cell
            have froz_a := a_52.frozen
            have lt_a := a_52.lt
            have cell_f := f_52.cell
            have froz_f := f_52.frozen
            have lt_f := f_52.lt
            go_wp2
            go_roundw
            case rel => exact ⟨3, I, D, z, by omega, by go_num, by omega, all_snoc HY.out HALL.out HPY.out, by rw [HI.out]; rfl, by rw [HD.out]; rfl, by rw [if_pos (by decide), gN_at HY.out, HZ.out], o_52, r_52, a_52, f_52, b_52⟩
            case measure => simp [intOf]; omega
          have hk3 : k = 3 := by omega
          subst hk3
          have HNO := hid (pa_no2 (x := x) (ws := ws) (by rw [HN.out]; unfold nfOf; rw [if_pos HX.out]; omega))
          have HNV := hid (paV_no HNO.out)
          have b_50 := hb
          have s_50 := b_50.size
          have o_in := hoi
          have o_50 := ho
          clear ho
          have r_50 := hr
          clear hr
          have r_lt := r_50.lt
          have cell_r := r_50.cell
          have froz_r := r_50.frozen
          have lt_r := r_50.lt
          go_wp2_with fail
          refine calls_forget0 (W := wr) ?_ ?_
          (focus (exact belBy))
          intro X51 hX51
          have sX51 := hX51.size
          refine (HPU.out _ (HT.out.step (b_50.trans (hX51.mono (by omega))) HT.out)).mono ?_
          rintro e w51 ⟨rfl, hb51⟩
          have s51 := hb51.size
          have hT51 := hX51.trans (hb51.mono sX51)
          have b_51 := b_50.trans (hT51.mono (by omega))
          have o_51 := own_below o_50 hT51
          have r_51 := Blk.past hT51 r_50
          clear o_50 r_50 b_50 cell_r froz_r lt_r hX51 hT51 hb51
          have cell_r := r_51.cell
          have froz_r := r_51.frozen
          have lt_r := r_51.lt
          go_wp2_with fail
          ((try simp only [Exit.inBlock, Exit.then]); apply bodyPost_ret0; focus ((try simp only [results, Tryz.results23]); (try go_simp); (try rfl)))
          refine ⟨by rw [HNV.out, HNO.out], ?_⟩
          exact belBy
      · obtain rfl : N = k := by omega
        rw [← HN.out, List.take_length] at HALL
        have eI : I = gN ws 0 := by
          rw [HI.out]
          split
          · rfl
          · exact (gN_out (by rw [HN.out]; omega)).symm
        have eD : D = gN ws 1 := by
          rw [HD.out]
          split
          · rfl
          · exact (gN_out (by rw [HN.out]; omega)).symm
        have eV : V = gN ws 2 := by
          rw [HV.out]
          split
          · rfl
          · exact (gN_out (by rw [HN.out]; omega)).symm
        have HEND := hid (show paB (x :: ws) = (actOkB kd (I) (D) V && decide (actTxt kd (I) (D) V = Lib.join (x :: ws) [32])) by
          rw [pa_end HALL.out (by unfold nfOf; rw [if_pos HX.out, HN.out]; exact hk1), HKD.out, eI, eD, eV]
          unfold aI aD aN
          simp only [if_pos HX.out])
        have HYES := hid (fun (h : paB (x :: ws) = true) => show paV (x :: ws) = .agg #[.int .i64 kd, .int .i64 (I), .int .i64 (D), .int .i64 V] by
          rw [pa_yes h, HKD.out, eI, eD, eV]
          unfold aI aD aN
          simp only [if_pos HX.out])
        clear eI eD eV
        have HFA := hid (fun w ht => iFormatAct kd (I) (D) (V) w ht)
        have HT := hid HE.out.tab
        cases hok : actOkB kd (I) (D) (V)
        · rw [hok, actTxt_no hok] at HFA
          have HNO := hid (show paB (x :: ws) = false by rw [HEND.out, hok]; rfl)
          have HNV := hid (paV_no HNO.out)
          clear hok
          have b_60 := hb
          have s_60 := b_60.size
          have o_in := hoi
          have o_60 := ho
          clear ho
          have r_60 := hr
          clear hr
          have r_lt := r_60.lt
          have cell_r := r_60.cell
          have froz_r := r_60.frozen
          have lt_r := r_60.lt
          have a_60 := ha
          clear ha
          have a_lt := a_60.lt
          have cell_a := a_60.cell
          have froz_a := a_60.frozen
          have lt_a := a_60.lt
          go_wp2_with fail
          refine calls_forget0 (W := wr) ?_ ?_
          (focus (exact belBy))
          intro X61 hX61
          have sX61 := hX61.size
          refine (HFA.out _ (HT.out.step (b_60.trans (hX61.mono (by omega))) HT.out)).mono ?_
          rintro e w61 ⟨rfl, hb61⟩
          have s61 := hb61.size
          have hT61 := hX61.trans (hb61.mono sX61)
          have b_61 := b_60.trans (hT61.mono (by omega))
          have o_61 := own_below o_60 hT61
          have r_61 := Blk.past hT61 r_60
          have a_61 := Blk.past hT61 a_60
          clear o_60 r_60 a_60 b_60 cell_r froz_r lt_r cell_a froz_a lt_a hX61 hT61 hb61
          have cell_r := r_61.cell
          have froz_r := r_61.frozen
          have lt_r := r_61.lt
          have cell_a := a_61.cell
          have froz_a := a_61.frozen
          have lt_a := a_61.lt
          go_wp2_with fail
          ((try simp only [Exit.inBlock, Exit.then]); apply bodyPost_ret0; focus ((try simp only [results, Tryz.results23]); (try go_simp); (try rfl)))
          refine ⟨by rw [HNV.out, HNO.out], ?_⟩
          exact belBy
        · rw [hok] at HFA
          obtain ⟨T, hT⟩ : ∃ T, actTxt kd (I) (D) (V) = T := ⟨_, rfl⟩
          rw [hT] at HFA
          have HJ := hid (fun w ho => iJoin (x :: ws) (N + 1) g c w1.heap.size w ho (by rw [← HN.out]; rfl) hN24 (fun y hy => Nat.le_trans (HWL.out y hy) (by decide)))
          obtain ⟨J, hJ⟩ : ∃ J, Lib.join (x :: ws) [32] = J := ⟨_, rfl⟩
          rw [hJ] at HJ
          have hend := HEND.out
          rw [hok, hT, hJ, Bool.true_and] at hend
          have HEN := hid hend
          clear hok hT hend
          by_cases hTJ : T = J
          · subst hTJ
            have HNO := hid (show paB (x :: ws) = true by rw [HEN.out]; simp)
            have HNV := hid (HYES.out HNO.out)
            clear hJ
            have b_60 := hb
            have s_60 := b_60.size
            have o_in := hoi
            have o_60 := ho
            clear ho
            have r_60 := hr
            clear hr
            have r_lt := r_60.lt
            have cell_r := r_60.cell
            have froz_r := r_60.frozen
            have lt_r := r_60.lt
            have a_60 := ha
            clear ha
            have a_lt := a_60.lt
            have cell_a := a_60.cell
            have froz_a := a_60.frozen
            have lt_a := a_60.lt
            go_wp2_with fail
            refine calls_forget0 (W := wr) ?_ ?_
            (focus (exact belBy))
            intro X61 hX61
            have sX61 := hX61.size
            refine (HFA.out _ (HT.out.step (b_60.trans (hX61.mono (by omega))) HT.out)).mono ?_
            rintro e w61 ⟨rfl, hb61⟩
            have s61 := hb61.size
            have hT61 := hX61.trans (hb61.mono sX61)
            have b_61 := b_60.trans (hT61.mono (by omega))
            have o_61 := own_below o_60 hT61
            have r_61 := Blk.past hT61 r_60
            have a_61 := Blk.past hT61 a_60
            clear o_60 r_60 a_60 b_60 cell_r froz_r lt_r cell_a froz_a lt_a hX61 hT61 hb61
            have cell_r := r_61.cell
            have froz_r := r_61.frozen
            have lt_r := r_61.lt
            have cell_a := a_61.cell
            have froz_a := a_61.frozen
            have lt_a := a_61.lt
            go_wp2_with fail
            refine calls_forget0 (W := w61) ?_ ?_
            (focus (exact belBy))
            intro X62 hX62
            have sX62 := hX62.size
            refine (HJ.out _ (own_below o_61 hX62)).mono ?_
            rintro e w62 ⟨rfl, hb62⟩
            have s62 := hb62.size
            have hT62 := hX62.trans (hb62.mono sX62)
            have b_62 := b_61.trans (hT62.mono (by omega))
            have o_62 := own_below o_61 hT62
            have r_62 := Blk.past hT62 r_61
            have a_62 := Blk.past hT62 a_61
            clear o_61 r_61 a_61 b_61 cell_r froz_r lt_r cell_a froz_a lt_a hX62 hT62 hb62
            have cell_r := r_62.cell
            have froz_r := r_62.frozen
            have lt_r := r_62.lt
            have cell_a := a_62.cell
            have froz_a := a_62.frozen
            have lt_a := a_62.lt
            go_wp2_with fail
            ((try simp only [Exit.inBlock, Exit.then]); apply bodyPost_ret0; focus ((try simp only [results, Tryz.results23]); (try go_simp); (try rfl)))
            refine ⟨by rw [HNV.out, HNO.out], ?_⟩
            exact belBy
          · have HNO := hid (show paB (x :: ws) = false by rw [HEN.out]; simp [hTJ])
            have HNV := hid (paV_no HNO.out)
            have hTJ' : (T == J) = false := by simpa using hTJ
            clear hJ hTJ
            have b_60 := hb
            have s_60 := b_60.size
            have o_in := hoi
            have o_60 := ho
            clear ho
            have r_60 := hr
            clear hr
            have r_lt := r_60.lt
            have cell_r := r_60.cell
            have froz_r := r_60.frozen
            have lt_r := r_60.lt
            have a_60 := ha
            clear ha
            have a_lt := a_60.lt
            have cell_a := a_60.cell
            have froz_a := a_60.frozen
            have lt_a := a_60.lt
            go_wp2_with fail
            refine calls_forget0 (W := wr) ?_ ?_
            (focus (exact belBy))
            intro X61 hX61
            have sX61 := hX61.size
            refine (HFA.out _ (HT.out.step (b_60.trans (hX61.mono (by omega))) HT.out)).mono ?_
            rintro e w61 ⟨rfl, hb61⟩
            have s61 := hb61.size
            have hT61 := hX61.trans (hb61.mono sX61)
            have b_61 := b_60.trans (hT61.mono (by omega))
            have o_61 := own_below o_60 hT61
            have r_61 := Blk.past hT61 r_60
            have a_61 := Blk.past hT61 a_60
            clear o_60 r_60 a_60 b_60 cell_r froz_r lt_r cell_a froz_a lt_a hX61 hT61 hb61
            have cell_r := r_61.cell
            have froz_r := r_61.frozen
            have lt_r := r_61.lt
            have cell_a := a_61.cell
            have froz_a := a_61.frozen
            have lt_a := a_61.lt
            go_wp2_with fail
            refine calls_forget0 (W := w61) ?_ ?_
            (focus (exact belBy))
            intro X62 hX62
            have sX62 := hX62.size
            refine (HJ.out _ (own_below o_61 hX62)).mono ?_
            rintro e w62 ⟨rfl, hb62⟩
            have s62 := hb62.size
            have hT62 := hX62.trans (hb62.mono sX62)
            have b_62 := b_61.trans (hT62.mono (by omega))
            have o_62 := own_below o_61 hT62
            have r_62 := Blk.past hT62 r_61
            have a_62 := Blk.past hT62 a_61
            clear o_61 r_61 a_61 b_61 cell_r froz_r lt_r cell_a froz_a lt_a hX62 hT62 hb62
            have cell_r := r_62.cell
            have froz_r := r_62.frozen
            have lt_r := r_62.lt
            have cell_a := a_62.cell
            have froz_a := a_62.frozen
            have lt_a := a_62.lt
            go_wp2_with fail
            ((try simp only [Exit.inBlock, Exit.then]); apply bodyPost_ret0; focus ((try simp only [results, Tryz.results23]); (try go_simp); (try rfl)))
            refine ⟨by rw [HNV.out, HNO.out], ?_⟩
            exact belBy
end Go.Proofs.YtjknadnknainbaaGreatDoor
