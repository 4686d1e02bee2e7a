/- ParseAct, in the reference. -/
import Derived.Test.YtjknadnknainbaaGreatDoorMem
import Derived.Test.YtjknadnknainbaaGreatDoorSSplit
import Derived.Test.YtjknadnknainbaaGreatDoorPAct
import Derived.Test.YtjknadnknainbaaGreatDoorIntS
import Derived.StillTailTactics
namespace Go.Proofs.YtjknadnknainbaaGreatDoor
open Go.RowKit

theorem join_snoc (x : List UInt8) (ws : List (List UInt8)) (y : List UInt8) : Lib.join (x :: (ws ++ [y])) [32] = Lib.join (x :: ws) [32] ++ [32] ++ y := by
  rw [Lib.join_cons, Lib.join_cons]
  simp [Lib.joinTail]
theorem join_take {x : List UInt8} {ws : List (List UInt8)} {m : Nat} {y : List UInt8} (h : ws[m]? = some y) : Lib.join (x :: ws.take (m + 1)) [32] = Lib.join (x :: ws.take m) [32] ++ [32] ++ y := by
  rw [List.take_add_one, h]
  exact join_snoc x (ws.take m) y
theorem nums_take {ws : List (List UInt8)} {m : Nat} {y : List UInt8} (h : ws[m]? = some y) : (ws.take (m + 1)).map puN = (ws.take m).map puN ++ [puN y] := by
  rw [List.take_add_one, h, List.map_append]
  rfl
theorem join_len {x : List UInt8} {ws : List (List UInt8)} {m : Nat} (hm : m ≤ 3) (hl : ∀ y ∈ x :: ws, y.length ≤ 600) : (Lib.join (x :: ws.take m) [32]).length ≤ 3000 := by
  have h1 := hl x (by simp)
  have h2 := joinTail_len 600 (ws.take m) (fun y hy => hl y (by simp [List.mem_of_mem_take hy]))
  have h3 : (ws.take m).length ≤ 3 := by rw [List.length_take]; omega
  rw [Lib.join_cons, List.length_append]
  have h4 : (ws.take m).length * (600 + 1) ≤ 3 * 601 := Nat.mul_le_mul_right _ h3
  omega
theorem nums_at {ws : List (List UInt8)} (h : ws.length ≤ 3) {j : Nat} (hj : j < 3) : (ws.map puN ++ [0, 0, 0])[j]? = some (gN ws j) := by
  unfold gN
  by_cases hl : j < ws.length
  · rw [List.getElem?_append_left (by rw [List.length_map]; exact hl), List.getElem?_map, List.getD_eq_getElem?_getD, List.getElem?_eq_getElem hl]
    rfl
  · have e : ws.getD j [] = [] := by
      rw [List.getD_eq_getElem?_getD, List.getElem?_eq_none (by omega)]
      rfl
    rw [List.getElem?_append_right (by rw [List.length_map]; omega), List.length_map, e, puN_nil]
    have h3 : j - ws.length = 0 ∨ j - ws.length = 1 ∨ j - ws.length = 2 := by omega
    rcases h3 with e | e | e <;> rw [e] <;> rfl
set_option maxHeartbeats 3200000 in
theorem sPActNo (l : List UInt8) (w : World) (hl : l.length ≤ 1048576) (hs : sfB l = false) :
    Calls Tryz.prog 33 #[.string ⟨l.toArray⟩] w fun e w' => e = .returned (.tuple #[pActV l, .bool (pActB l)]) ∧ Below w.heap.size w w' := by
  have HSP := hid (fun w => sSplitFields l w hl)
  have HV := hid (pAct_no hs)
  rw [hs] at HSP
  clear hs
  go_enter Tryz.func33, Tryz.ntmps33
  have b_0 := (Below.refl w.heap.size w)
  have s_0 := b_0.size
  go_upto_region 1 with fail
  refine wp_forget1 (w0 := w) (B := w.heap.size) (b0 := w.heap.size) (t0 := 30) (c0 := #[.int .i64 0, .int .i64 0, .int .i64 0, .int .i64 0]) ?_ ?_ ?_
  (focus exact blkcBy)
  (focus (exact belBy))
  intro w1 r_1 hX1
  have sX1 := hX1.size
  have r_lt := r_1.lt
  have b_1 := b_0.trans (hX1.mono (by omega))
  clear b_0 hX1
  have cell_r := r_1.cell
  have froz_r := r_1.frozen
  have lt_r := r_1.lt
  have HB1 := hid b_1
  have HR1 := hid r_1
  clear b_1 cell_r froz_r r_1
  go_wp2_with fail
  refine (HSP.out _).mono ?_
  rintro e w2 ⟨n, A, c, rfl, hn, hb2⟩
  clear hn
  have hb := HB1.out.trans (hb2.mono HB1.out.size)
  have hr := Blk.past hb2 HR1.out
  clear hb2
  have b_10 := hb
  have s_10 := b_10.size
  have r_10 := hr
  clear hr
  have r_lt := r_10.lt
  have cell_r := r_10.cell
  have froz_r := r_10.frozen
  have lt_r := r_10.lt
  go_wp2_with fail
  ((try simp only [Exit.inBlock, Exit.then]); apply bodyPost_ret0; focus ((try simp only [results, Tryz.results33]); (try go_simp); (try rfl)))
  refine ⟨by rw [HV.out.1, HV.out.2], ?_⟩
  exact belBy
set_option maxHeartbeats 3200000 in
theorem sPActBad (l : List UInt8) (w : World) (hl : l.length ≤ 1048576) (hs : sfB l = true) (hf : ¬ (1 ≤ (flds l).length ∧ (flds l).length ≤ 4)) :
    Calls Tryz.prog 33 #[.string ⟨l.toArray⟩] w fun e w' => e = .returned (.tuple #[pActV l, .bool (pActB l)]) ∧ Below w.heap.size w w' := by
  have HSP := hid (fun w => sSplitFields l w hl)
  have hno : paB (flds l) = false := by
    cases h : flds l with
    | nil => rfl
    | cons x ws =>
      rw [h, List.length_cons] at hf
      exact pa_no2 (by unfold nfOf; split <;> omega)
  have HV := hid (And.intro ((pAct_ok hs).1.trans hno) ((pAct_ok hs).2.trans (paV_no hno)))
  rw [hs] at HSP
  obtain ⟨N, hN⟩ : ∃ N, (flds l).length = N := ⟨_, rfl⟩
  rw [hN] at HSP hf
  have HIN := hid (show inB (N : Int) 1 4 = false by
    cases h : inB (N : Int) 1 4
    · rfl
    · have := inB_iff.1 h
      omega)
  clear hs hno hf hN
  go_enter Tryz.func33, Tryz.ntmps33
  have b_0 := (Below.refl w.heap.size w)
  have s_0 := b_0.size
  go_upto_region 1 with fail
  refine wp_forget1 (w0 := w) (B := w.heap.size) (b0 := w.heap.size) (t0 := 30) (c0 := #[.int .i64 0, .int .i64 0, .int .i64 0, .int .i64 0]) ?_ ?_ ?_
  (focus exact blkcBy)
  (focus (exact belBy))
  intro w1 r_1 hX1
  have sX1 := hX1.size
  have r_lt := r_1.lt
  have b_1 := b_0.trans (hX1.mono (by omega))
  clear b_0 hX1
  have cell_r := r_1.cell
  have froz_r := r_1.frozen
  have lt_r := r_1.lt
  have HB1 := hid b_1
  have HR1 := hid r_1
  clear b_1 cell_r froz_r r_1
  go_wp2_with fail
  refine (HSP.out _).mono ?_
  rintro e w2 ⟨n, A, c, rfl, hn, hb2⟩
  have hh := (hn trivial).1
  clear hn
  subst hh
  have hb := HB1.out.trans (hb2.mono HB1.out.size)
  have hr := Blk.past hb2 HR1.out
  clear hb2
  have b_10 := hb
  have s_10 := b_10.size
  have r_10 := hr
  clear hr
  have r_lt := r_10.lt
  have cell_r := r_10.cell
  have froz_r := r_10.frozen
  have lt_r := r_10.lt
  have HW := hid (fun w => sWithin (n : Int) 1 4 w)
  rw [HIN.out] at HW
  go_wp2_with fail
  refine (HW.out _).mono ?_
  rintro e w' ⟨rfl, rfl⟩
  go_wp2_with fail
  ((try simp only [Exit.inBlock, Exit.then]); apply bodyPost_ret0; focus ((try simp only [results, Tryz.results33]); (try go_simp); (try rfl)))
  refine ⟨by rw [HV.out.1, HV.out.2], ?_⟩
  exact belBy
set_option maxRecDepth 100000 in
set_option maxHeartbeats 3200000 in
theorem sPActYes (l : List UInt8) (w : World) (hl : l.length ≤ 1048576) (he : Env w) (hs : sfB l = true) (x : List UInt8) (ws : List (List UInt8)) (hw : flds l = x :: ws) (h3 : ws.length ≤ 3) :
    Calls Tryz.prog 33 #[.string ⟨l.toArray⟩] w fun e w' => e = .returned (.tuple #[paV (flds l), .bool (paB (flds l))]) ∧ Below w.heap.size w w' := by
  have HT := hid he.tab
  clear he
  have HSP := hid (fun w => sSplitFields l w hl)
  have h600 : l.length ≤ 600 := by
    unfold sfB at hs
    simp at hs
    omega
  have HWL := hid (fun y (hy : y ∈ x :: ws) => Nat.le_trans (len_flds (l := l) y (by rw [hw]; exact hy)) h600)
  have HWW := hid (fun y (hy : y ∈ x :: ws) => flds_words l y (by rw [hw]; exact hy))
  rw [hs] at HSP
  rw [hw] at HSP ⊢
  have HW3 := hid h3
  obtain ⟨N, hN⟩ : ∃ N, ws.length = N := ⟨_, rfl⟩
  rw [hN] at h3
  have HN := hid hN
  have HIN := hid (show inB ((N + 1 : Nat) : Int) 1 4 = true by rw [inB_iff]; omega)
  clear hs hw hN
  go_enter Tryz.func33, Tryz.ntmps33
  have b_0 := (Below.refl w.heap.size w)
  have s_0 := b_0.size
  go_upto_region 1 with fail
  refine wp_forget1 (w0 := w) (B := w.heap.size) (b0 := w.heap.size) (t0 := 30) (c0 := #[.int .i64 0, .int .i64 0, .int .i64 0, .int .i64 0]) ?_ ?_ ?_
  (focus exact blkcBy)
  (focus (exact belBy))
  intro w1 r_1 hX1
  have sX1 := hX1.size
  have r_lt := r_1.lt
  have b_1 := b_0.trans (hX1.mono (by omega))
  clear b_0 hX1
  have cell_r := r_1.cell
  have froz_r := r_1.frozen
  have lt_r := r_1.lt
  have HB1 := hid b_1
  have HR1 := hid r_1
  clear b_1 cell_r froz_r
  go_wp2_with fail
  refine (HSP.out _).mono ?_
  rintro e w2 ⟨n, A, c, rfl, hn, hb2⟩
  have hh := hn trivial
  clear hn
  obtain ⟨hn, ho⟩ := hh
  have HB2 := hid (HB1.out.trans (hb2.mono HB1.out.size))
  have HR2 := hid (Blk.past hb2 HR1.out)
  replace hn := hn.trans (show (x :: ws).length = N + 1 by rw [← HN.out]; rfl)
  subst hn
  obtain ⟨g, rfl, hg0, hg1, _⟩ := own_at ho (by simp)
  have z1 := HR1.out.lt
  have hoi : ∀ q, (Value.slice (some ⟨g, 0, none⟩) (N + 1) c).ownBlock = some q → w1.heap.size ≤ q ∧ q < w2.heap.size := fun q hq => by
    have h := own_here q hq
    omega
  have hc0 : w2.cell? ⟨g, 0, none⟩ = some (.string ⟨x.toArray⟩) := (ho.cellAt 0 (by simp)).trans (strs_get (l := x) rfl)
  have HO := hid ho
  clear hb2 ho
  have HW := hid (fun w => sWithin ((N + 1 : Nat) : Int) 1 4 w)
  rw [HIN.out] at HW
  go_wp2_with fail
  refine (HW.out _).mono ?_
  rintro e w' ⟨rfl, rfl⟩
  have hn5 := own_lit (w := w2) (e := 3) (size := 1) (base := w2.heap.size) #[] 0 rfl (Nat.le_refl _) (Nat.zero_le _) rfl
  have HO5 := hid (show (w2.alloc (.cells #[] 3)).ownsRow w2.heap.size 3 1 (.slice (some ⟨w2.heap.size, 0, none⟩) 0 0) 0 (ints []) from hn5)
  have HB5 := hid ((Below.refl w2.heap.size w2).alloc (Nat.le_refl _) (.cells #[] 3))
  clear hn5
  have z2 := HB2.out.size
  go_wp2_with fail
  go_loopw [6, 7, 8, 9, 10] (fun s nn i _ _ wr => ∃ (m : Nat) (A : Option Addr) (cn : Nat), m ≤ N ∧ i = .int .i64 (m + 1 : Nat) ∧ s = .string ⟨(Lib.join (x :: ws.take m) [32]).toArray⟩ ∧ nn = .slice A m cn ∧ wr.ownsRow w2.heap.size 3 1 (.slice A m cn) m (ints ((ws.take m).map puN)) ∧
    Below w2.heap.size w2 wr) (fun _ _ i _ _ _ => N + 1 - (intOf i).toNat)
  case atStart => exact ⟨0, some ⟨w2.heap.size, 0, none⟩, 0, Nat.zero_le _, rfl, by rw [List.take_zero, Lib.join_one], rfl, HO5.out, HB5.out⟩
  case round =>
    clear hc0 HO5 HB5
    obtain ⟨m, A, cn, hm, rfl, rfl, rfl, hnr, hbw⟩ := hrel
    have zr := hbw.size
    have ho := own_below HO.out hbw
    have hr := Blk.past hbw HR2.out
    have hb := HB2.out.trans (hbw.mono z2)
    by_cases hlt : m < N
    · obtain ⟨y, hy⟩ : ∃ y, ws[m]? = some y := ⟨_, List.getElem?_eq_getElem (by rw [HN.out]; exact hlt)⟩
      have hlt' : ((m + 1 : Nat) : Int) < ((N + 1 : Nat) : Int) := by omega
      have hcy : wr.cell? ⟨g, m + 1, none⟩ = some (.string ⟨y.toArray⟩) := by
        have h1 := ho.cellAt (m + 1) (by simp; omega)
        exact h1.trans (strs_get (l := y) (by rw [List.getElem?_cons_succ]; exact hy))
      have hyl := HWL.out y (by simp [List.mem_of_getElem? hy])
      have hjl := join_len (x := x) (ws := ws) (m := m) (by omega) HWL.out
      have HJ := hid (join_take (x := x) hy)
      have HNT := hid (nums_take hy)
      have HPU := hid (fun w => sParseUint y w)
      obtain ⟨z, hz⟩ : ∃ z, puN y = z := ⟨_, rfl⟩
      obtain ⟨zb, hzb⟩ : ∃ zb, puB y = zb := ⟨_, rfl⟩
      obtain ⟨S, hS⟩ : ∃ S, Lib.join (x :: ws.take m) [32] = S := ⟨_, rfl⟩
      rw [hz, hzb] at HPU
      rw [hz] at HNT
      rw [hS] at HJ hjl ⊢
      clear hy hz hzb hS
      clear ho hr hb
      have b_20 := hbw
      have s_20 := b_20.size
      have nr_in := own_in hnr
      have nr_20 := hnr
      clear hnr
      go_wp2_with fail
      refine calls_forget0 (W := wr) ?_ ?_
      (focus (exact belBy))
      intro X21 hX21
      have sX21 := hX21.size
      refine (HPU.out _).mono ?_
      rintro e w21 ⟨rfl, hb21⟩
      have s21 := hb21.size
      have hT21 := hX21.trans (hb21.mono sX21)
      have b_21 := b_20.trans (hT21.mono (by omega))
      have nr_21 := own_below nr_20 hT21
      clear nr_20 b_20 hX21 hT21 hb21
      go_wp2_with (at_builtin; refine wpList_appi rfl _ _ 38 rfl w2.heap.size 3 (.int .i64 0) 1 8 Tryz.underlying38 infoInt rfl (by decide) _ m _ rfl (nr_21.alloc _) ⟨w21.heap.size, 0, none⟩ 1 1 _ rfl rfl (one_new _ _ _) (one_one _) (by omega) (by decide) (by simp; omega) ?_)
      intro A_nr c_nr w22 nr_22 hg22 li22
      have hg22 := grown_alloc hg22
      try simp only [World.size_alloc] at li22
      have s22 := hg22.size
      have b_22 := gr_below hg22 b_21 (by omega) (fun q hq => by have h1 := nr_in q hq; omega)
      have nr_ix := own_in nr_22
      clear nr_21 b_21 hg22 li22 nr_in
      have nr_in := nr_ix
      clear nr_ix
      go_wp2
      go_roundw
      case rel => exact ⟨m + 1, A_nr, c_nr, by omega, by go_num, (by rw [HJ.out]; simp only [ByteArray.mk_append_mk]), rfl, (by rw [HNT.out, ints_snoc]; simpa only [List.map_take] using nr_22), b_22⟩
      case measure => simp [intOf]; omega
    · obtain rfl : N = m := by omega
      have htk : ws.take N = ws := by rw [← HN.out, List.take_length]
      rw [htk] at hnr ⊢
      have hnm : ∀ j, j < 3 → (ints (ws.map puN) ++ [.int .i64 0, .int .i64 0, .int .i64 0])[j]? = some (.int .i64 (gN ws j)) := fun j hj => by
        have h := ints_get (nums_at HW3.out hj)
        rw [show ws.map puN ++ [0, 0, 0] = ws.map puN ++ [0, 0, 0] from rfl] at h
        unfold ints at h ⊢
        rw [List.map_append] at h
        exact h
      have HNM := hid hnm
      obtain ⟨J, hJ⟩ : ∃ J, Lib.join (x :: ws) [32] = J := ⟨_, rfl⟩
      rw [hJ]
      have HJ := hid hJ
      obtain ⟨n0, hn0⟩ : ∃ z, gN ws 0 = z := ⟨_, rfl⟩
      obtain ⟨n1, hn1⟩ : ∃ z, gN ws 1 = z := ⟨_, rfl⟩
      obtain ⟨n2, hn2⟩ : ∃ z, gN ws 2 = z := ⟨_, rfl⟩
      have hm0 := hnm 0 (by omega)
      have hm1 := hnm 1 (by omega)
      have hm2 := hnm 2 (by omega)
      rw [hn0] at hm0
      rw [hn1] at hm1
      rw [hn2] at hm2
      have HG := hid (And.intro hn0 (And.intro hn1 hn2))
      have HM := hid (And.intro hm0 (And.intro hm1 hm2))
      clear htk hnm hJ hn0 hn1 hn2 hm0 hm1 hm2 HNM ho hr hb
      have b_40 := hbw
      have s_40 := b_40.size
      have nr_in := own_in hnr
      have nr_40 := hnr
      clear hnr
      go_wp2_with (at_builtin; refine wpList_appi rfl _ _ 38 rfl w2.heap.size 3 (.int .i64 0) 1 8 Tryz.underlying38 infoInt rfl (by decide) _ N _ rfl (nr_40.alloc _) ⟨wr.heap.size, 0, none⟩ 3 3 _ rfl rfl (many_new _ _ _) (ints_one [0, 0, 0]) (by omega) (by decide) (by simp; omega) ?_)
      intro A_nr c_nr w41 nr_41 hg41 li41
      have hg41 := grown_alloc hg41
      try simp only [World.size_alloc] at li41
      have s41 := hg41.size
      have b_41 := gr_below hg41 b_40 (by omega) (fun q hq => by have h1 := nr_in q hq; omega)
      have nr_ix := own_in nr_41
      clear nr_40 b_40 hg41 li41 nr_in
      have nr_in := nr_ix
      clear nr_ix
      obtain ⟨gn, rfl, hgn0, hgn1, hgc⟩ := own_at nr_41 (by omega)
      have q0 := hgc 0 _ HM.out.1
      have q1 := hgc 1 _ HM.out.2.1
      have q2 := hgc 2 _ HM.out.2.2
      clear hgc nr_41 nr_in
      have j0 : (0 : Int) < (N : Int) + 3 := by omega
      have j1 : (1 : Int) < (N : Int) + 3 := by omega
      have j2 : (2 : Int) < (N : Int) + 3 := by omega
      go_upto_region 13 with fail
      go_still_tail 19, (by kernel_rfl)
      go_wp2_with fail
      have s41 := b_41.size
      have HB41 := hid b_41
      clear b_41 q0 q1 q2 j0 j1 j2 hgn0 hgn1
      have hKd : Blk (w41.alloc (.cells #[.int .i64 1, .int .i64 n0, .int .i64 n1, .int .i64 n2, .int .i64 2, .int .i64 0, .int .i64 0, .int .i64 n0, .int .i64 3, .int .i64 0, .int .i64 0, .int .i64 n0, .int .i64 4, .int .i64 0, .int .i64 0, .int .i64 0] 30)) w41.heap.size 30 #[.int .i64 1, .int .i64 n0, .int .i64 n1, .int .i64 n2, .int .i64 2, .int .i64 0, .int .i64 0, .int .i64 n0, .int .i64 3, .int .i64 0, .int .i64 0, .int .i64 n0, .int .i64 4, .int .i64 0, .int .i64 0, .int .i64 0] := Blk.new rfl
      have hBd := (HB41.out.alloc s41 (.cells #[.int .i64 1, .int .i64 n0, .int .i64 n1, .int .i64 n2, .int .i64 2, .int .i64 0, .int .i64 0, .int .i64 n0, .int .i64 3, .int .i64 0, .int .i64 0, .int .i64 n0, .int .i64 4, .int .i64 0, .int .i64 0, .int .i64 0] 30)).drew
      obtain ⟨W3, hW3⟩ : ∃ z, z = (w41.alloc (.cells #[.int .i64 1, .int .i64 n0, .int .i64 n1, .int .i64 n2, .int .i64 2, .int .i64 0, .int .i64 0, .int .i64 n0, .int .i64 3, .int .i64 0, .int .i64 0, .int .i64 n0, .int .i64 4, .int .i64 0, .int .i64 0, .int .i64 0] 30)).drew := ⟨_, rfl⟩
      have hKd3 : Blk W3 w41.heap.size 30 #[.int .i64 1, .int .i64 n0, .int .i64 n1, .int .i64 n2, .int .i64 2, .int .i64 0, .int .i64 0, .int .i64 n0, .int .i64 3, .int .i64 0, .int .i64 0, .int .i64 n0, .int .i64 4, .int .i64 0, .int .i64 0, .int .i64 0] := by
        rw [hW3]
        exact blkcBy
      rw [← hW3] at hBd ⊢
      have HKD := hid hKd3
      have HBD := hid hBd
      have z3 := hBd.size
      clear hKd hBd hW3 hKd3
      go_loopw [12, 13, 14] (fun i _ _ wr => ∃ j : Nat, j ≤ 4 ∧ i = .int .i64 j ∧ (∀ t, t < j → ¬ (actOkB (cK t) (cI ws t) (cD ws t) (cN ws t) = true ∧ actTxt (cK t) (cI ws t) (cD ws t) (cN ws t) = J)) ∧ Below W3.heap.size W3 wr) (fun i _ _ _ => 4 - (intOf i).toNat)
      case atStart => exact ⟨0, by omega, rfl, (fun t ht => absurd ht (Nat.not_lt_zero t)), Below.refl _ _⟩
      case round =>
        clear HB41
        obtain ⟨j, hj, rfl, hno, hbw⟩ := hrel
        have zr := hbw.size
        have hd := Blk.past hbw HKD.out
        have hbw2 := HBD.out.trans (hbw.mono z3)
        have hr := Blk.past hbw2 HR2.out
        have hb := HB2.out.trans (hbw2.mono z2)
        by_cases hlt : j < 4
        · have hlt' : (j : Int) < 4 := by omega
          obtain ⟨K, hK⟩ : ∃ z, cK j = z := ⟨_, rfl⟩
          obtain ⟨I, hI⟩ : ∃ z, cI ws j = z := ⟨_, rfl⟩
          obtain ⟨D, hD⟩ : ∃ z, cD ws j = z := ⟨_, rfl⟩
          obtain ⟨V, hV⟩ : ∃ z, cN ws j = z := ⟨_, rfl⟩
          have h4 : j = 0 ∨ j = 1 ∨ j = 2 ∨ j = 3 := by omega
          have hcl : wr.cell? ⟨w41.heap.size, j * 4, none⟩ = some (.int .i64 K) ∧ wr.cell? ⟨w41.heap.size, j * 4 + 1, none⟩ = some (.int .i64 I) ∧ wr.cell? ⟨w41.heap.size, j * 4 + 2, none⟩ = some (.int .i64 D) ∧ wr.cell? ⟨w41.heap.size, j * 4 + 3, none⟩ = some (.int .i64 V) := by
            rw [hd.cell, hd.cell, hd.cell, hd.cell, ← hK, ← hI, ← hD, ← hV]
            unfold cK cI cD cN
            rw [HG.out.1, HG.out.2.1, HG.out.2.2]
            rcases h4 with rfl | rfl | rfl | rfl <;> exact ⟨rfl, rfl, rfl, rfl⟩
          obtain ⟨hd0, hd1, hd2, hd3⟩ := hcl
          have HFA := hid (fun w ht => sFormatAct K I D V w ht)
          have hno2 : ¬ (actOkB K I D V = true ∧ actTxt K I D V = J) → ∀ t, t < j + 1 → ¬ (actOkB (cK t) (cI ws t) (cD ws t) (cN ws t) = true ∧ actTxt (cK t) (cI ws t) (cD ws t) (cN ws t) = J) := fun h t ht => by
            by_cases e : t = j
            · subst e
              rw [hK, hI, hD, hV]
              exact h
            · exact hno t (by omega)
          have HNO := hid hno2
          have ldd := hd.lt
          clear hd
          clear h4 hK hI hD hV hno hno2
          cases hok : actOkB K I D V
          · rw [hok] at HFA
            have HNO1 := hid (HNO.out (fun h => by rw [hok] at h; exact absurd h.1 (by decide)))
            clear hok
            have b_60 := hb
            have s_60 := b_60.size
            have r_60 := hr
            clear hr
            have r_lt := r_60.lt
            have cell_r := r_60.cell
            have froz_r := r_60.frozen
            have lt_r := r_60.lt
            have gh_60 := hbw
            have a0_60 := hd0
            clear hd0
            have lt_a0 : w41.heap.size < wr.heap.size := by omega
            have a1_60 := hd1
            clear hd1
            have lt_a1 : w41.heap.size < wr.heap.size := by omega
            have a2_60 := hd2
            clear hd2
            have lt_a2 : w41.heap.size < wr.heap.size := by omega
            have a3_60 := hd3
            clear hd3
            have lt_a3 : w41.heap.size < wr.heap.size := by omega
            go_wp2_with fail
            refine calls_forget0 (W := wr) ?_ ?_
            (focus (exact belBy))
            intro X61 hX61
            have sX61 := hX61.size
            refine (HFA.out _ (HT.out.step (b_60.trans (hX61.mono (by omega))) HT.out)).mono ?_
            rintro e w61 ⟨rfl, hb61⟩
            have s61 := hb61.size
            have hT61 := hX61.trans (hb61.mono sX61)
            have b_61 := b_60.trans (hT61.mono (by omega))
            have gh_61 := gh_60.trans (hT61.mono (by omega))
            have r_61 := Blk.past hT61 r_60
            have a0_61 := cell_kept a0_60 hT61 (by dsimp only; omega)
            have a1_61 := cell_kept a1_60 hT61 (by dsimp only; omega)
            have a2_61 := cell_kept a2_60 hT61 (by dsimp only; omega)
            have a3_61 := cell_kept a3_60 hT61 (by dsimp only; omega)
            clear gh_60 r_60 a0_60 a1_60 a2_60 a3_60 b_60 cell_r froz_r lt_r lt_a0 lt_a1 lt_a2 lt_a3 hX61 hT61 hb61
            have cell_r := r_61.cell
            have froz_r := r_61.frozen
            have lt_r := r_61.lt
            have lt_a0 : w41.heap.size < w61.heap.size := (by omega)
            have lt_a1 : w41.heap.size < w61.heap.size := (by omega)
            have lt_a2 : w41.heap.size < w61.heap.size := (by omega)
            have lt_a3 : w41.heap.size < w61.heap.size := (by omega)
            go_wp2
            go_roundw
            case rel => exact ⟨j + 1, by omega, by go_num, HNO1.out, gh_61⟩
            case measure => simp [intOf]; omega
          · rw [hok] at HFA
            have HOK := hid hok
            obtain ⟨T, hT⟩ : ∃ T, actTxt K I D V = T := ⟨_, rfl⟩
            rw [hT] at HFA HNO
            have HTT := hid hT
            clear hok hT
            by_cases hTJ : T = J
            · have hpa := paV_of (L := x :: ws) HOK.out HWW.out (by simp) (HTT.out.trans (hTJ.trans HJ.out.symm))
              have HPA := hid hpa
              subst hTJ
              clear hpa
              have b_60 := hb
              have s_60 := b_60.size
              have r_60 := hr
              clear hr
              have r_lt := r_60.lt
              have cell_r := r_60.cell
              have froz_r := r_60.frozen
              have lt_r := r_60.lt
              have gh_60 := hbw
              have a0_60 := hd0
              clear hd0
              have lt_a0 : w41.heap.size < wr.heap.size := by omega
              have a1_60 := hd1
              clear hd1
              have lt_a1 : w41.heap.size < wr.heap.size := by omega
              have a2_60 := hd2
              clear hd2
              have lt_a2 : w41.heap.size < wr.heap.size := by omega
              have a3_60 := hd3
              clear hd3
              have lt_a3 : w41.heap.size < wr.heap.size := by omega
              go_wp2_with fail
              refine calls_forget0 (W := wr) ?_ ?_
              (focus (exact belBy))
              intro X61 hX61
              have sX61 := hX61.size
              refine (HFA.out _ (HT.out.step (b_60.trans (hX61.mono (by omega))) HT.out)).mono ?_
              rintro e w61 ⟨rfl, hb61⟩
              have s61 := hb61.size
              have hT61 := hX61.trans (hb61.mono sX61)
              have b_61 := b_60.trans (hT61.mono (by omega))
              have gh_61 := gh_60.trans (hT61.mono (by omega))
              have r_61 := Blk.past hT61 r_60
              have a0_61 := cell_kept a0_60 hT61 (by dsimp only; omega)
              have a1_61 := cell_kept a1_60 hT61 (by dsimp only; omega)
              have a2_61 := cell_kept a2_60 hT61 (by dsimp only; omega)
              have a3_61 := cell_kept a3_60 hT61 (by dsimp only; omega)
              clear gh_60 r_60 a0_60 a1_60 a2_60 a3_60 b_60 cell_r froz_r lt_r lt_a0 lt_a1 lt_a2 lt_a3 hX61 hT61 hb61
              have cell_r := r_61.cell
              have froz_r := r_61.frozen
              have lt_r := r_61.lt
              have lt_a0 : w41.heap.size < w61.heap.size := (by omega)
              have lt_a1 : w41.heap.size < w61.heap.size := (by omega)
              have lt_a2 : w41.heap.size < w61.heap.size := (by omega)
              have lt_a3 : w41.heap.size < w61.heap.size := (by omega)
              go_wp2_with fail
              ((try simp only [Exit.inBlock, Exit.then]); apply bodyPost_ret0; focus ((try simp only [results, Tryz.results33]); (try go_simp); (try rfl)))
              refine ⟨by rw [HPA.out.1, HPA.out.2], ?_⟩
              clear gh_61
              exact belBy
            · have HNO1 := hid (HNO.out (fun h => hTJ h.2))
              have hTJ' : (T == J) = false := by simpa using hTJ
              clear hTJ
              have b_60 := hb
              have s_60 := b_60.size
              have r_60 := hr
              clear hr
              have r_lt := r_60.lt
              have cell_r := r_60.cell
              have froz_r := r_60.frozen
              have lt_r := r_60.lt
              have gh_60 := hbw
              have a0_60 := hd0
              clear hd0
              have lt_a0 : w41.heap.size < wr.heap.size := by omega
              have a1_60 := hd1
              clear hd1
              have lt_a1 : w41.heap.size < wr.heap.size := by omega
              have a2_60 := hd2
              clear hd2
              have lt_a2 : w41.heap.size < wr.heap.size := by omega
              have a3_60 := hd3
              clear hd3
              have lt_a3 : w41.heap.size < wr.heap.size := by omega
              go_wp2_with fail
              refine calls_forget0 (W := wr) ?_ ?_
              (focus (exact belBy))
              intro X61 hX61
              have sX61 := hX61.size
              refine (HFA.out _ (HT.out.step (b_60.trans (hX61.mono (by omega))) HT.out)).mono ?_
              rintro e w61 ⟨rfl, hb61⟩
              have s61 := hb61.size
              have hT61 := hX61.trans (hb61.mono sX61)
              have b_61 := b_60.trans (hT61.mono (by omega))
              have gh_61 := gh_60.trans (hT61.mono (by omega))
              have r_61 := Blk.past hT61 r_60
              have a0_61 := cell_kept a0_60 hT61 (by dsimp only; omega)
              have a1_61 := cell_kept a1_60 hT61 (by dsimp only; omega)
              have a2_61 := cell_kept a2_60 hT61 (by dsimp only; omega)
              have a3_61 := cell_kept a3_60 hT61 (by dsimp only; omega)
              clear gh_60 r_60 a0_60 a1_60 a2_60 a3_60 b_60 cell_r froz_r lt_r lt_a0 lt_a1 lt_a2 lt_a3 hX61 hT61 hb61
              have cell_r := r_61.cell
              have froz_r := r_61.frozen
              have lt_r := r_61.lt
              have lt_a0 : w41.heap.size < w61.heap.size := (by omega)
              have lt_a1 : w41.heap.size < w61.heap.size := (by omega)
              have lt_a2 : w41.heap.size < w61.heap.size := (by omega)
              have lt_a3 : w41.heap.size < w61.heap.size := (by omega)
              go_wp2
              go_roundw
              case rel => exact ⟨j + 1, by omega, by go_num, HNO1.out, gh_61⟩
              case measure => simp [intOf]; omega
        · obtain rfl : j = 4 := by omega
          have hno' : paB (x :: ws) = false := cand_none (fun t ht => by rw [HJ.out]; exact hno t ht)
          have HNO := hid (And.intro hno' (paV_no hno'))
          clear hno hno'
          have b_60 := hb
          have s_60 := b_60.size
          have r_60 := hr
          clear hr
          have r_lt := r_60.lt
          have cell_r := r_60.cell
          have froz_r := r_60.frozen
          have lt_r := r_60.lt
          go_wp2_with fail
          ((try simp only [Exit.inBlock, Exit.then]); apply bodyPost_ret0; focus ((try simp only [results, Tryz.results33]); (try go_simp); (try rfl)))
          refine ⟨by rw [HNO.out.1, HNO.out.2], ?_⟩
          exact belBy
theorem sParseAct (l : List UInt8) (w : World) (hl : l.length ≤ 1048576) (he : Env w) :
    Calls Tryz.prog 33 #[.string ⟨l.toArray⟩] w fun e w' => e = .returned (.tuple #[pActV l, .bool (pActB l)]) ∧ Below w.heap.size w w' := by
  cases hs : sfB l
  · exact sPActNo l w hl hs
  · by_cases hf : 1 ≤ (flds l).length ∧ (flds l).length ≤ 4
    · cases hL : flds l with
      | nil =>
        rw [hL] at hf
        exact absurd hf.1 (by decide)
      | cons x ws =>
        rw [hL, List.length_cons] at hf
        rw [(pAct_ok hs).1, (pAct_ok hs).2]
        exact sPActYes l w hl he hs x ws hL (by omega)
    · exact sPActBad l w hl hs hf
end Go.Proofs.YtjknadnknainbaaGreatDoor
