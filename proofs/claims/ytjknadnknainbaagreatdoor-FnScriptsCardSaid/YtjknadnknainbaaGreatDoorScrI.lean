/- RunScript, in the program. -/
import Derived.Test.YtjknadnknainbaaGreatDoorMem
import Derived.Test.YtjknadnknainbaaGreatDoorScriptP
import Derived.Test.YtjknadnknainbaaGreatDoorFmtSchedL
namespace Go.Proofs.YtjknadnknainbaaGreatDoor
open Go.RowKit

theorem infoActR : (Tryz.prog.info? 30).map (fun i => (i.zero, i.size, i.bytes)) = some (some (.agg #[.int .i64 0, .int .i64 0, .int .i64 0, .int .i64 0]), 4, 32) := by kernel_rfl
theorem iLinesLib (l : List UInt8) (w : World) (hl : l.length ≤ 1048576) (he : Env w) :
    Calls Tryz.prog 21 #[.string ⟨l.toArray⟩, .string ⟨#[10]⟩] w fun e w' => e = .returned (.slice (some ⟨w.heap.size, 0, none⟩) (lns l).length (lns l).length) ∧ w' = w.alloc (.cells (strs (lns l)).toArray 9) := by
  obtain ⟨m, hm⟩ := he.max
  have h := Tryz.strings_Split ⟨l.toArray⟩ ⟨#[10]⟩ m w (Nat.lt_of_le_of_lt (size_le hl) (by decide)) hm (by decide)
  have h1 : (Lib.splitB ⟨#[10]⟩ 0 (Lib.countB ⟨l.toArray⟩ ⟨#[10]⟩) ⟨l.toArray⟩).map (·.data.toList) = lns l := by
    rw [Lib.splitB_data]
    exact splitK_lns l
  have h2 := mk_back _ _ h1
  have h3 : Lib.countB ⟨l.toArray⟩ ⟨#[10]⟩ + 1 = (lns l).length := by
    rw [← h1, List.length_map]
    exact (Lib.splitB_all ⟨#[10]⟩ (by decide) 0 _ _ rfl).symm
  rw [h2, h3] at h
  exact h
theorem iFieldsYes (l : List UInt8) (w : World) (hl : l.length ≤ 1048576) (he : Env w) (h : skipB l = true) :
    Calls Tryz.prog 22 #[.string ⟨l.toArray⟩] w fun e w' => ∃ (A : Option Addr) (c : Nat), e = .returned (.tuple #[.slice A 0 c, .bool true]) ∧ Below w.heap.size w w' := by
  obtain ⟨h1, h2⟩ := skip_yes h
  refine (iSplitFields l w hl he).mono ?_
  rintro e w' ⟨n, A, c, rfl, hn, hb⟩
  obtain ⟨rfl, _⟩ := hn h1
  rw [h1, h2]
  exact ⟨A, c, rfl, hb⟩
theorem iFieldsNo (l : List UInt8) (w : World) (hl : l.length ≤ 1048576) (he : Env w) (h : skipB l = false) :
    Calls Tryz.prog 22 #[.string ⟨l.toArray⟩] w fun e w' => ∃ (n : Nat) (A : Option Addr) (c : Nat) (b : Bool), (b = true → ((n : Int) == 0) = false) ∧ e = .returned (.tuple #[.slice A n c, .bool b]) ∧ Below w.heap.size w w' := by
  refine (iSplitFields l w hl he).mono ?_
  rintro e w' ⟨n, A, c, rfl, hn, hb⟩
  refine ⟨n, A, c, sfB l, fun hs => ?_, rfl, hb⟩
  have h1 := skip_not h hs
  rw [← (hn hs).1] at h1
  simp
  omega
theorem iParseYes (l : List UInt8) (w : World) (hl : l.length ≤ 1048576) (he : Env w) (x0 x1 x2 x3 : Int) (hv : pActV l = .agg #[.int .i64 x0, .int .i64 x1, .int .i64 x2, .int .i64 x3]) (b : Bool) (hb : pActB l = b) :
    Calls Tryz.prog 23 #[.string ⟨l.toArray⟩] w fun e w' => e = .returned (.tuple #[.agg #[.int .i64 x0, .int .i64 x1, .int .i64 x2, .int .i64 x3], .bool b]) ∧ Below w.heap.size w w' := by
  rw [← hv, ← hb]
  exact iParseAct l w hl he
theorem strs_one (L : List (List UInt8)) : ∀ u ∈ strs L, u.oneCell' = true := by
  intro u hu
  obtain ⟨_, _, rfl⟩ := List.mem_map.1 hu
  rfl
theorem int4_one (a b c d : Int) : ∀ u ∈ [Value.int .i64 a, .int .i64 b, .int .i64 c, .int .i64 d], u.oneCell' = true := by
  intro u hu
  simp at hu
  rcases hu with rfl | rfl | rfl | rfl <;> rfl
set_option linter.unusedVariables false in
set_option maxRecDepth 100000 in
set_option maxHeartbeats 6400000 in
theorem iRunScript (z : Int) (t : List UInt8) (w : World) (hl : t.length ≤ 1048576) (he : Env w) :
    Calls Tryz.prog 8 #[.int .i64 z, .string ⟨t.toArray⟩] w (GivesSc w z t) := by
  have HT := hid he
  clear he
  by_cases h1 : 20000 < t.length
  · have HNO := hid (gives_no (w := w) (w' := w) (z := z) (sc_long h1) (Below.refl _ _))
    have h1' : (20000 : Int) < (t.length : Int) := by omega
    clear h1
    go_enter Tryz.func8, Tryz.ntmps8
    go_wp2
    go_returns
    exact HNO.out
  have h1' : ¬ (20000 : Int) < (t.length : Int) := by omega
  have H20 := hid (show t.length ≤ 20000 by omega)
  have HSL := hid (fun w he => iLinesLib t w hl he)
  have hlen := len_lns t
  have hcnt := lns_len t
  obtain ⟨L, hL⟩ : ∃ L, lns t = L := ⟨_, rfl⟩
  rw [hL] at HSL hlen hcnt
  obtain ⟨N, hN⟩ : ∃ N, L.length = N := ⟨_, rfl⟩
  rw [hN] at HSL hcnt
  have HLN := hid hN
  have HLT := hid hL
  have HLEN := hid hlen
  clear hL hN hlen h1
  go_enter Tryz.func8, Tryz.ntmps8
  go_wp2_with fail
  refine (HSL.out _ (HT.out.step ((Below.refl w.heap.size w).alloc (Nat.le_refl _) _) HT.out)).mono ?_
  rintro e w2 ⟨rfl, rfl⟩
  have HA := hid (show ((w.alloc (.cells #[] 30)).alloc (.cells (strs L).toArray 9)).ownsRow w.heap.size 30 4 (.slice (some ⟨w.heap.size, 0, none⟩) 0 0) 0 (ints []) from World.ownsRow.alloc (own_lit (size := 4) #[] 0 rfl (Nat.le_refl _) (Nat.zero_le _) rfl) _)
  have HL := hid (show ((w.alloc (.cells #[] 30)).alloc (.cells (strs L).toArray 9)).ownsRow w.heap.size 9 1 (.slice (some ⟨(w.alloc (.cells #[] 30)).heap.size, 0, none⟩) N N) N (strs L) from own_lit (size := 1) (strs L).toArray N rfl (by simp) (by unfold maxLen; omega) (by simp [strs, HLN.out]))
  have HB := hid (show Below w.heap.size w ((w.alloc (.cells #[] 30)).alloc (.cells (strs L).toArray 9)) from ((Below.refl w.heap.size w).alloc (Nat.le_refl _) _).alloc (by simp) _)
  have hz : (w.alloc (.cells #[] 30)).heap.size = w.heap.size + 1 := by simp
  rw [hz] at HL
  rw [hz]
  obtain ⟨w2, hw2⟩ : ∃ w2, w2 = (w.alloc (.cells #[] 30)).alloc (.cells (strs L).toArray 9) := ⟨_, rfl⟩
  rw [← hw2] at HA HL HB
  rw [← hw2]
  clear hw2 hz HSL
  go_wp2_with fail
  go_loopw [6, 8, 9, 10, 11, 12, 27] (fun o _ _ _ _ _ i wr => ∃ (k m : Nat) (A : Option Addr) (c : Nat), k ≤ N ∧ i = .int .i64 k ∧ o = .slice A m c ∧ scrN (L.take k) = m ∧ scrB (L.take k) = true ∧ wr.ownsRow w.heap.size 30 4 (.slice A m c) m (ints (scrX (L.take k))) ∧
    wr.ownsRow w.heap.size 9 1 (.slice (some ⟨w.heap.size + 1, 0, none⟩) N N) N (strs L) ∧ Below w.heap.size w wr) (fun _ _ _ _ _ _ i _ => N - (intOf i).toNat)
  case atStart => exact ⟨0, 0, some ⟨w.heap.size, 0, none⟩, 0, Nat.zero_le _, rfl, rfl, rfl, rfl, HA.out, HL.out, HB.out⟩
  case round =>
    clear HA HL HB
    obtain ⟨k, m, A, c, hk, rfl, rfl, hm, hsb, hown, hln, hb⟩ := hrel
    have zb := hb.size
    by_cases hlt : k < N
    · obtain ⟨y, hy⟩ : ∃ x, L[k]? = some x := ⟨_, List.getElem?_eq_getElem (by rw [HLN.out]; exact hlt)⟩
      have hyl : y.length ≤ 1048576 := by have := HLEN.out y (List.mem_of_getElem? hy); omega
      have hlt' : (k : Int) < (N : Int) := by omega
      have hmk : m ≤ 20001 := by have := scrN_le L k; omega
      have hlg : w.heap.size + 1 < wr.heap.size := by
        obtain ⟨_, e, h1, h2, _⟩ := own_at hln (by omega)
        injection e with e
        injection e with e
        omega
      have d0 : wr.cell? ⟨w.heap.size + 1, k, none⟩ = some (.string ⟨y.toArray⟩) := by
        have h2 := (hln.cellAt k (by omega)).trans (strs_get hy)
        simpa [txt] using h2
      cases hsk : skipB y
      · obtain ⟨x0, x1, x2, x3, hv⟩ := pActV_agg y
        have HFN := hid (fun w he => iFieldsNo y w hyl he hsk)
        obtain ⟨pb, hpb⟩ : ∃ b, pActB y = b := ⟨_, rfl⟩
        have HPY := hid (fun w he => iParseYes y w hyl he x0 x1 x2 x3 hv pb hpb)
        have HY := hid hy
        have HSK := hid hsk
        have HV := hid hv
        have HM := hid hm
        have HSB := hid hsb
        clear hy hsk hv hm hsb
        have ACI := hid (own_in hown)
        have b_30 := hb
        have s_30 := b_30.size
        have ac_in := own_in hown
        have ac_30 := hown
        clear hown
        have ln_in := own_in hln
        have ln_30 := hln
        clear hln
        have q_30 := d0
        clear d0
        have lt_q : w.heap.size + 1 < wr.heap.size := by omega
        go_wp2_with fail
        refine calls_forget0 (W := wr) ?_ ?_
        (focus (exact belBy))
        intro X31 hX31
        have sX31 := hX31.size
        refine (HFN.out _ (HT.out.step (b_30.trans (hX31.mono (by omega))) HT.out)).mono ?_
        rintro e w31 ⟨nf, Af, cf, bf, hbf, rfl, hb31⟩
        have s31 := hb31.size
        have hT31 := hX31.trans (hb31.mono sX31)
        have b_31 := b_30.trans (hT31.mono (by omega))
        have ac_31 := own_below ac_30 hT31
        have ln_31 := own_below ln_30 hT31
        have q_31 := cell_kept q_30 hT31 (by dsimp only; omega)
        clear ac_30 ln_30 q_30 b_30 lt_q hX31 hT31 hb31
        have lt_q : w.heap.size + 1 < w31.heap.size := (by omega)
        have HBF := hid hbf
        clear hbf
        cases bf
        all_goals
          (try have hq0 := HBF.out rfl)
          go_wp2_with fail
          refine calls_forget0 (W := w31) ?_ ?_
          (focus (exact belBy))
          intro X32 hX32
          have sX32 := hX32.size
          refine (HPY.out _ (HT.out.step (b_31.trans (hX32.mono (by omega))) HT.out)).mono ?_
          rintro e w32 ⟨rfl, hb32⟩
          have s32 := hb32.size
          have hT32 := hX32.trans (hb32.mono sX32)
          have b_32 := b_31.trans (hT32.mono (by omega))
          have ac_32 := own_below ac_31 hT32
          have ln_32 := own_below ln_31 hT32
          have q_32 := cell_kept q_31 hT32 (by dsimp only; omega)
          clear ac_31 ln_31 q_31 b_31 lt_q hX32 hT32 hb32
          have lt_q : w.heap.size + 1 < w32.heap.size := (by omega)
          go_upto_region 10 with fail
          refine wp_forget1 (w0 := w32) (B := w32.heap.size) (b0 := w32.heap.size) (t0 := 30) (c0 := #[.int .i64 x0, .int .i64 x1, .int .i64 x2, .int .i64 x3]) ?_ ?_ ?_
          (focus exact blkcBy)
          (focus (exact belBy))
          intro w33 x_33 hX33
          have sX33 := hX33.size
          have x_lt := x_33.lt
          have b_33 := b_32.trans (hX33.mono (by omega))
          have ac_33 := own_below ac_32 hX33
          have ln_33 := own_below ln_32 hX33
          have q_33 := cell_kept q_32 hX33 (by dsimp only; omega)
          clear ac_32 ln_32 q_32 b_32 lt_q hX33
          have cell_x := x_33.cell
          have froz_x := x_33.frozen
          have lt_x := x_33.lt
          have lt_q : w.heap.size + 1 < w33.heap.size := (by omega)
          have K1 := hid ac_33
          have K2 := hid ln_33
          have K3 := hid b_33
          have K4 := hid x_33
          clear ac_33 ln_33 b_33 x_33 q_33 lt_q
          cases hpe : pb
          · have hno := scrB_no HY.out (by rw [HSK.out, hpb, hpe]; rfl)
            have HNO := hid (gives_no (w := w) (w' := w33) (z := z) (t := t) (sc_bad (by rw [HLT.out]; exact hno)) K3.out)
            clear hpb hpe hno
            go_wp2
            go_returns
            exact HNO.out
          · subst hpe
            obtain ⟨p, i, d, n, hao, hai, hav⟩ := actI_is hpb
            have hxs := scrX_act HY.out HSK.out
            have hsb2 := scrB_snoc HY.out HSB.out (by rw [HSK.out, hpb]; rfl)
            have hx4 : actI y = [x0, x1, x2, x3] := by
              have h := HV.out.symm.trans hav
              injection h with h
              simp at h
              obtain ⟨rfl, rfl, rfl, rfl⟩ := h
              exact hai
            rw [hx4] at hxs
            have HX := hid hxs
            have HSB2 := hid hsb2
            clear hao hai hav hxs hx4 hsb2 hpb
            have kb := K3.out
            have ka := K1.out
            have kl := K2.out
            have kx := K4.out
            have b_40 := kb
            have s_40 := b_40.size
            have ac_in := ACI.out
            have ac_40 := ka
            clear ka
            have ln_in := own_in kl
            have ln_40 := kl
            clear kl
            have x_40 := kx
            clear kx
            have x_lt := x_40.lt
            have cell_x := x_40.cell
            have froz_x := x_40.frozen
            have lt_x := x_40.lt
            go_wp2_with (at_builtin; refine wpList_appi rfl _ _ 24 rfl w.heap.size 30 (.agg #[.int .i64 0, .int .i64 0, .int .i64 0, .int .i64 0]) 4 32 Tryz.underlying24 infoActR rfl (by decide) _ m _ rfl (ac_40.alloc _) ⟨w33.heap.size, 0, none⟩ 1 1 _ rfl rfl (many_new _ [.int .i64 x0, .int .i64 x1, .int .i64 x2, .int .i64 x3] _) (int4_one _ _ _ _) (by omega) (by decide) (by simp; omega) ?_)
            intro A_ac c_ac w41 ac_41 hg41 li41
            have hg41 := grown_alloc hg41
            try simp only [World.size_alloc] at li41
            have s41 := hg41.size
            have b_41 := gr_below hg41 b_40 (by omega) (fun q hq => by have h1 := ac_in q hq; omega)
            have ln_41 := gr_own hg41 ln_40 (fun q p hq hp => by first | (have h1 := ac_in q hq; have h2 := ln_in p hp; omega) | exact own_ne ac_40 ln_40 (by decide) q p hq hp | exact ne_ac_ln q p hq hp | exact (ne_ln_ac p q hp hq).symm)
            have x_41 := gr_blk hg41 x_40 (fun q hq => by have h1 := ac_in q hq; omega)
            have ac_ix := own_in ac_41
            clear ac_40 ln_40 x_40 b_40 cell_x froz_x lt_x hg41 li41 ac_in
            have ac_in := ac_ix
            clear ac_ix
            have cell_x := x_41.cell
            have froz_x := x_41.frozen
            have lt_x := x_41.lt
            have P1 := hid (show World.ownsRow _ w.heap.size 30 4 (.slice A_ac (m + 1) c_ac) (m + 1) (ints (scrX (L.take (k + 1)))) by rw [HX.out.1, show ints (scrX (L.take k) ++ [x0, x1, x2, x3]) = ints (scrX (L.take k)) ++ ints [x0, x1, x2, x3] from List.map_append]; exact ac_41)
            have P2 := hid ln_41
            have P3 := hid b_41
            clear ac_41 ln_41 b_41
            go_wp2
            go_roundw
            case rel => exact ⟨k + 1, m + 1, A_ac, c_ac, by omega, by go_num, rfl, by rw [HX.out.2, HM.out], HSB2.out, P1.out, P2.out, P3.out⟩
            case measure => simp [intOf]; omega
      · have HFY := hid (fun w he => iFieldsYes y w hyl he hsk)
        have HX := hid (scrX_skip hy hsk)
        have HSB2 := hid (scrB_snoc hy hsb (by rw [hsk]; rfl))
        have HM := hid hm
        clear hy hsk hsb hm
        have b_30 := hb
        have s_30 := b_30.size
        have ac_in := own_in hown
        have ac_30 := hown
        clear hown
        have ln_in := own_in hln
        have ln_30 := hln
        clear hln
        have q_30 := d0
        clear d0
        have lt_q : w.heap.size + 1 < wr.heap.size := by omega
        go_wp2_with fail
        refine calls_forget0 (W := wr) ?_ ?_
        (focus (exact belBy))
        intro X31 hX31
        have sX31 := hX31.size
        refine (HFY.out _ (HT.out.step (b_30.trans (hX31.mono (by omega))) HT.out)).mono ?_
        rintro e w31 ⟨Af, cf, rfl, hb31⟩
        have s31 := hb31.size
        have hT31 := hX31.trans (hb31.mono sX31)
        have b_31 := b_30.trans (hT31.mono (by omega))
        have ac_31 := own_below ac_30 hT31
        have ln_31 := own_below ln_30 hT31
        have q_31 := cell_kept q_30 hT31 (by dsimp only; omega)
        clear ac_30 ln_30 q_30 b_30 lt_q hX31 hT31 hb31
        have lt_q : w.heap.size + 1 < w31.heap.size := (by omega)
        have P1 := hid ac_31
        have P2 := hid ln_31
        have P3 := hid b_31
        clear ac_31 ln_31 b_31 q_31 lt_q
        go_wp2
        go_roundw
        case rel => exact ⟨k + 1, m, A, c, by omega, by go_num, rfl, by rw [HX.out.2, HM.out], HSB2.out, by rw [HX.out.1]; exact P1.out, P2.out, P3.out⟩
        case measure => simp [intOf]; omega
    · obtain rfl : k = N := by omega
      have hLk : L.take k = L := by rw [← HLN.out, List.take_length]
      rw [hLk] at hm hsb hown
      have HSB := hid (show scrB (lns t) = true by rw [HLT.out]; exact hsb)
      have HM := hid (show scrN (lns t) = m by rw [HLT.out]; exact hm)
      have hmk : m ≤ 20001 := by have := scrN_le L k; rw [hLk] at this; omega
      have hxl := scrX_len L hsb
      rw [hm] at hxl
      obtain ⟨X, hX⟩ : ∃ X, scrX L = X := ⟨_, rfl⟩
      rw [hX] at hown hxl
      have HX := hid (show scrX (lns t) = X by rw [HLT.out]; exact hX)
      have HXL := hid hxl
      clear hLk hm hsb hX hxl
      have HN := hid (fun w => iSchedNew z w)
      cases hz : inB z 1 1000
      · have HNO := hid (sc_size (t := t) hz)
        rw [hz, pick_no] at HN
        clear hz
        have b_50 := hb
        have s_50 := b_50.size
        go_wp2_with fail
        refine calls_forget0 (W := wr) ?_ ?_
        (focus (exact belBy))
        intro X51 hX51
        have sX51 := hX51.size
        refine (HN.out _).mono ?_
        rintro e w51 ⟨rfl, hb51⟩
        have s51 := hb51.size
        have hT51 := hX51.trans (hb51.mono sX51)
        have b_51 := b_50.trans (hT51.mono (by omega))
        clear b_50 hX51 hT51 hb51
        go_upto_region 15 with fail
        refine wp_forget1 (w0 := w51) (B := w51.heap.size) (b0 := w51.heap.size) (t0 := 40) (c0 := #[.int .i64 0, .int .i64 0, .int .i64 0, .slice none 0 0, .slice none 0 0, .slice none 0 0]) ?_ ?_ ?_
        (focus exact blkcBy)
        (focus (exact belBy))
        intro w52 s_52 hX52
        have sX52 := hX52.size
        have s_lt := s_52.lt
        have b_52 := b_51.trans (hX52.mono (by omega))
        clear b_51 hX52
        have cell_s := s_52.cell
        have froz_s := s_52.frozen
        have lt_s := s_52.lt
        have HR := hid (gives_no HNO.out b_52)
        clear b_52
        go_wp2
        go_returns
        exact HR.out
      have HZ := hid hz
      rw [hz, pick_yes] at HN
      clear hz
      by_cases h60 : 60 < m
      · have HNO := hid (sc_many (z := z) (t := t) (by rw [HM.out]; exact h60))
        have h60' : (60 : Int) < (m : Int) := by omega
        have b_50 := hb
        have s_50 := b_50.size
        go_wp2_with fail
        refine calls_forget0 (W := wr) ?_ ?_
        (focus (exact belBy))
        intro X51 hX51
        have sX51 := hX51.size
        refine (HN.out _).mono ?_
        rintro e w51 ⟨rfl, hb51⟩
        have s51 := hb51.size
        have hT51 := hX51.trans (hb51.mono sX51)
        have b_51 := b_50.trans (hT51.mono (by omega))
        clear b_50 hX51 hT51 hb51
        go_upto_region 15 with fail
        refine wp_forget1 (w0 := w51) (B := w51.heap.size) (b0 := w51.heap.size) (t0 := 40) (c0 := #[.int .i64 z, .int .i64 0, .int .i64 0, .slice none 0 0, .slice none 0 0, .slice none 0 0]) ?_ ?_ ?_
        (focus exact blkcBy)
        (focus (exact belBy))
        intro w52 s_52 hX52
        have sX52 := hX52.size
        have s_lt := s_52.lt
        have b_52 := b_51.trans (hX52.mono (by omega))
        clear b_51 hX52
        have cell_s := s_52.cell
        have froz_s := s_52.frozen
        have lt_s := s_52.lt
        have HR := hid (gives_no HNO.out b_52)
        clear b_52
        go_wp2
        go_returns
        exact HR.out
      have h60' : ¬ (60 : Int) < (m : Int) := by omega
      have HOK := hid (sc_yes H20.out HSB.out HZ.out (by rw [HM.out]; omega))
      have HOKS := hid (okS_to HZ.out X m)
      have HRUN := hid (fun A c w hc => iRunActs z A c m X w hc HXL.out)
      have hr : raB z m = true := by unfold raB; rw [HZ.out, decide_eq_true (by omega)]; rfl
      have hlen := codesTo_length z X m
      have HC64 := hid (codes64 z X m)
      have HF64 := hid (fs64 z X m)
      have HRES := hid (show scRes z t = scTxt z X m by unfold scRes; rw [HOK.out, if_pos rfl, HM.out, HX.out])
      unfold scTxt at HRES
      unfold raS raL at HRUN
      rw [if_pos hr, if_pos hr] at HRUN
      unfold GivesRun at HRUN
      have hst := stTo_len z X m
      obtain ⟨S, hS⟩ : ∃ S, stTo z X m = S := ⟨_, rfl⟩
      obtain ⟨C, hC⟩ : ∃ C, codesTo z X m = C := ⟨_, rfl⟩
      rw [hS] at HOKS HF64 HRES HRUN hst
      rw [hC] at HC64 HRES HRUN hlen
      rw [hlen] at HRUN
      have hok := schedOkB_yes HOKS.out.1
      have HTL := hid (schedTxt_length hok)
      have HFM := hid (fun J T F cj ct cf w h ht => iFmtYes S hok J T F cj ct cf w h (by omega) HF64.out ht)
      have HCL := hid hlen
      have hj16 : S.js.length ≤ 16 := HOKS.out.1.2.1
      clear hS hC hlen hok hst
      have b_50 := hb
      have s_50 := b_50.size
      have ac_in := own_in hown
      have ac_50 := hown
      clear hown
      go_wp2_with fail
      refine calls_forget0 (W := wr) ?_ ?_
      (focus (exact belBy))
      intro X51 hX51
      have sX51 := hX51.size
      refine (HN.out _).mono ?_
      rintro e w51 ⟨rfl, hb51⟩
      have s51 := hb51.size
      have hT51 := hX51.trans (hb51.mono sX51)
      have b_51 := b_50.trans (hT51.mono (by omega))
      have ac_51 := own_below ac_50 hT51
      clear ac_50 b_50 hX51 hT51 hb51
      go_upto_region 15 with fail
      refine wp_forget1 (w0 := w51) (B := w51.heap.size) (b0 := w51.heap.size) (t0 := 40) (c0 := #[.int .i64 z, .int .i64 0, .int .i64 0, .slice none 0 0, .slice none 0 0, .slice none 0 0]) ?_ ?_ ?_
      (focus exact blkcBy)
      (focus (exact belBy))
      intro w52 s0_52 hX52
      have sX52 := hX52.size
      have s0_lt := s0_52.lt
      have b_52 := b_51.trans (hX52.mono (by omega))
      have ac_52 := own_below ac_51 hX52
      clear ac_51 b_51 hX52
      have cell_s0 := s0_52.cell
      have froz_s0 := s0_52.frozen
      have lt_s0 := s0_52.lt
      clear cell_s0 froz_s0 lt_s0
      clear s0_52
      go_wp2_with fail
      refine calls_forget0 (W := w52) ?_ ?_
      (focus (exact belBy))
      intro X53 hX53
      have sX53 := hX53.size
      refine (HRUN.out _ _ _ (Cells.of_own (own_below ac_52 hX53))).mono ?_
      rintro e w53 ⟨J, cj, T, tc, F, cf, G, cg, hne, rfl, rj_53, rt_53, rf_53, rc_53, hb53⟩
      have s53 := hb53.size
      have hT53 := hX53.trans (hb53.mono sX53)
      have b_53 := b_52.trans (hT53.mono (by omega))
      have ac_53 := own_below ac_52 hT53
      have rj_in := own_in rj_53
      have rt_in := own_in rt_53
      have rf_in := own_in rf_53
      have rc_in := own_in rc_53
      clear ac_52 b_52 hX53 hT53 hb53
      clear hne
      clear ac_53
      go_upto_region 18 with fail
      refine wp_forget1 (w0 := w53) (B := w53.heap.size) (b0 := w53.heap.size) (t0 := 40) (c0 := #[.int .i64 S.z, .int .i64 S.n, .int .i64 S.b, .slice J S.js.length cj, .slice T S.ts.length tc, .slice F S.fs.length cf]) ?_ ?_ ?_
      (focus exact blkcBy)
      (focus (exact belBy))
      intro w54 s_54 hX54
      have sX54 := hX54.size
      have s_lt := s_54.lt
      have b_54 := b_53.trans (hX54.mono (by omega))
      have rj_54 := own_below rj_53 hX54
      have rt_54 := own_below rt_53 hX54
      have rf_54 := own_below rf_53 hX54
      have rc_54 := own_below rc_53 hX54
      clear rj_53 rt_53 rf_53 rc_53 b_53 hX54
      have cell_s := s_54.cell
      have froz_s := s_54.frozen
      have lt_s := s_54.lt
      have K1 := hid rj_54
      have K2 := hid rt_54
      have K3 := hid rf_54
      have K4 := hid rc_54
      have K5 := hid s_54
      have K6 := hid b_54
      clear rj_54 rt_54 rf_54 rc_54 s_54 b_54 cell_s froz_s lt_s
      go_wp2_with fail
      go_loopw [17, 19, 75] (fun o _ i wr => ∃ (k : Nat) (A : Option Addr) (c : Nat), k ≤ m ∧ i = .int .i64 k ∧ o = .slice A k c ∧ wr.ownsRow w54.heap.size 9 1 (.slice A k c) k (strs ((C.map Lib.itoa).take k)) ∧ Below w54.heap.size w54 wr) (fun _ _ i _ => m - (intOf i).toNat)
      case atStart => exact ⟨0, some ⟨w54.heap.size, 0, none⟩, 0, Nat.zero_le _, rfl, rfl, own_lit (size := 1) #[] 0 rfl (Nat.le_refl _) (Nat.zero_le _) rfl, (Below.refl _ _).alloc (Nat.le_refl _) _⟩
      case round =>
        obtain ⟨k, A, c, hk, rfl, rfl, hown, hbw⟩ := hrel
        have zb := hbw.size
        have hb := K6.out.trans (hbw.mono K6.out.size)
        by_cases hlt : k < m
        · obtain ⟨x, hx⟩ : ∃ x, C[k]? = some x := ⟨_, List.getElem?_eq_getElem (by rw [HCL.out]; exact hlt)⟩
          have hlt' : (k : Int) < (m : Int) := by omega
          have H64 := hid (HC64.out x (List.mem_of_getElem? hx))
          obtain ⟨g, rfl, _, hg1, _⟩ := own_at K4.out (by omega)
          have d0 := ((own_below K4.out hbw).cellAt k (by omega)).trans (ints_get hx)
          have HS := hid (show strs ((C.map Lib.itoa).take (k + 1)) = strs ((C.map Lib.itoa).take k) ++ [txt (Lib.itoa x)] by rw [List.take_add_one, List.getElem?_map, hx, ← strs_snoc]; rfl)
          have HT := hid (HT.out.step K6.out HT.out)
          clear hx hb
          have b_60 := hbw
          have s_60 := b_60.size
          have o_in := own_in hown
          have o_60 := hown
          clear hown
          have q_60 := d0
          clear d0
          have lt_q : g < wr.heap.size := by omega
          go_wp2_with fail
          refine calls_forget0 (W := wr) ?_ ?_
          (focus (exact belBy))
          intro X61 hX61
          have sX61 := hX61.size
          refine (iFormatIntW x _ H64.out ((HT.out.step (b_60.trans (hX61.mono (by omega))) HT.out)).tab).mono ?_
          rintro e w61 ⟨rfl, hb61⟩
          have s61 := hb61.size
          have hT61 := hX61.trans (hb61.mono sX61)
          have b_61 := b_60.trans (hT61.mono (by omega))
          have o_61 := own_below o_60 hT61
          have q_61 := cell_kept q_60 hT61 (by dsimp only; omega)
          clear o_60 q_60 b_60 lt_q hX61 hT61 hb61
          have lt_q : g < w61.heap.size := (by omega)
          go_wp2_with (at_builtin; refine wpList_appi rfl _ _ 31 rfl w54.heap.size 9 (.string ⟨#[]⟩) 1 16 Tryz.underlying31 infoStr rfl (by decide) _ k _ rfl (o_61.alloc _) ⟨w61.heap.size, 0, none⟩ 1 1 _ rfl rfl (one_new _ _ _) (txt_one _) (by omega) (by decide) (by simp; omega) ?_)
          intro A_o c_o w62 o_62 hg62 li62
          have hg62 := grown_alloc hg62
          try simp only [World.size_alloc] at li62
          have s62 := hg62.size
          have b_62 := gr_below hg62 b_61 (by omega) (fun q hq => by have h1 := o_in q hq; omega)
          have q_62 := gr_cell hg62 q_61 (by dsimp only; omega) (fun q hq => by have h1 := o_in q hq; dsimp only; omega)
          have o_ix := own_in o_62
          clear o_61 q_61 b_61 lt_q hg62 li62 o_in
          have o_in := o_ix
          clear o_ix
          have lt_q : g < w62.heap.size := (by omega)
          have P1 := hid (show World.ownsRow _ w54.heap.size 9 1 (.slice A_o (k + 1) c_o) (k + 1) (strs ((C.map Lib.itoa).take (k + 1))) by rw [HS.out]; exact o_62)
          have P2 := hid b_62
          clear o_62 b_62 q_62 lt_q
          go_wp2
          go_roundw
          case rel => exact ⟨k + 1, A_o, c_o, by omega, by go_num, rfl, P1.out, P2.out⟩
          case measure => simp [intOf]; omega
        · obtain rfl : k = m := by omega
          have hTk : (C.map Lib.itoa).take k = C.map Lib.itoa := List.take_of_length_le (by rw [List.length_map, HCL.out]; omega)
          rw [hTk] at hown
          have r1 := own_below K1.out hbw
          have r2 := own_below K2.out hbw
          have r3 := own_below K3.out hbw
          have r5 := Blk.past hbw K5.out
          have lo := own_lo hown
          clear hbw hTk
          have b_70 := hb
          have s_70 := b_70.size
          have o_in := own_in hown
          have o_70 := hown
          clear hown
          have rj_in := own_in r1
          have rj_70 := r1
          clear r1
          have rt_in := own_in r2
          have rt_70 := r2
          clear r2
          have rf_in := own_in r3
          have rf_70 := r3
          clear r3
          have s_70 := r5
          clear r5
          have s_lt := s_70.lt
          have cell_s := s_70.cell
          have froz_s := s_70.frozen
          have lt_s := s_70.lt
          go_wp2_with fail
          refine calls_forget0 (W := wr) ?_ ?_
          (focus (exact belBy))
          intro X71 hX71
          have sX71 := hX71.size
          refine (HFM.out _ _ _ _ _ _ _ ⟨own_weak (own_below rj_70 hX71) (Nat.zero_le _), own_weak (own_below rt_70 hX71) (Nat.zero_le _), own_weak (own_below rf_70 hX71) (Nat.zero_le _)⟩ ((HT.out.step (b_70.trans (hX71.mono (by omega))) HT.out)).tab).mono ?_
          rintro e w71 ⟨Au, cu, rfl, u_71, hb71⟩
          have s71 := hb71.size
          have hT71 := hX71.trans (hb71.mono sX71)
          have b_71 := b_70.trans (hT71.mono (by omega))
          have o_71 := own_below o_70 hT71
          have rj_71 := own_below rj_70 hT71
          have rt_71 := own_below rt_70 hT71
          have rf_71 := own_below rf_70 hT71
          have s_71 := Blk.past hT71 s_70
          have u_in := own_in u_71
          clear o_70 rj_70 rt_70 rf_70 s_70 b_70 cell_s froz_s lt_s hX71 hT71 hb71
          have cell_s := s_71.cell
          have froz_s := s_71.frozen
          have lt_s := s_71.lt
          have U1 := hid o_71
          have U2 := hid u_71
          have U3 := hid b_71
          clear o_71 u_71 b_71 rj_71 rt_71 rf_71 s_71 cell_s froz_s lt_s
          obtain ⟨g, rfl, _, hg1, _⟩ := own_at U2.out (by omega)
          have H7 := hid (row_news U2.out)
          go_wp2_with (at_builtin; go_loud (refine wpList_appi rfl _ _ 31 rfl w54.heap.size 9 (.string ⟨#[]⟩) 1 16 Tryz.underlying31 infoStr rfl (by decide) _ k _ rfl U1.out ⟨g, 0, none⟩ (S.js.length + 3) cu (strs (schedTxt S)) rfl (by rw [strs_length, HTL.out, Nat.mul_one]) H7.out (strs_one _) (by omega) (by decide) (by have := U3.out.size; omega) ?_))
          intro A73 c73 w73 ho73 hg73 li73
          have s0 := U3.out.size
          have HB73 := hid (gr_below hg73 U3.out (by omega) (fun q hq => by have h1 := lo q hq; omega))
          have HO73 := hid ho73
          clear hg73 li73 ho73 lo
          go_wp2
          go_returns
          have hl : (scRes z t).length = k + (S.js.length + 3) := by rw [HRES.out, List.length_append, List.length_map, HCL.out, HTL.out]
          refine ⟨A73, c73, by rw [hl, HOK.out]; rfl, ?_, HB73.out⟩
          rw [hl, HRES.out, show strs (C.map Lib.itoa ++ schedTxt S) = strs (C.map Lib.itoa) ++ strs (schedTxt S) from List.map_append]
          exact own_weak HO73.out (by omega)
end Go.Proofs.YtjknadnknainbaaGreatDoor
