/- RunScript, in the reference. -/
import Derived.Test.YtjknadnknainbaaGreatDoorMem
import Derived.Test.YtjknadnknainbaaGreatDoorScrI
import Derived.Test.YtjknadnknainbaaGreatDoorSPAct
namespace Go.Proofs.YtjknadnknainbaaGreatDoor
open Go.RowKit

theorem sFieldsYes (l : List UInt8) (w : World) (hl : l.length ≤ 1048576) (_he : Env w) (h : skipB l = true) :
    Calls Tryz.prog 32 #[.string ⟨l.toArray⟩] w fun e w' => ∃ (A : Option Addr) (c : Nat), e = .returned (.tuple #[.slice A 0 c, .bool true]) ∧ Below w.heap.size w w' := by
  obtain ⟨h1, h2⟩ := skip_yes h
  refine (sSplitFields l w hl).mono ?_
  rintro e w' ⟨n, A, c, rfl, hn, hb⟩
  obtain ⟨rfl, _⟩ := hn h1
  rw [h1, h2]
  exact ⟨A, c, rfl, hb⟩
theorem sFieldsNo (l : List UInt8) (w : World) (hl : l.length ≤ 1048576) (_he : Env w) (h : skipB l = false) :
    Calls Tryz.prog 32 #[.string ⟨l.toArray⟩] w fun e w' => ∃ (n : Nat) (A : Option Addr) (c : Nat) (b : Bool), (b = true → ((n : Int) == 0) = false) ∧ e = .returned (.tuple #[.slice A n c, .bool b]) ∧ Below w.heap.size w w' := by
  refine (sSplitFields l w hl).mono ?_
  rintro e w' ⟨n, A, c, rfl, hn, hb⟩
  refine ⟨n, A, c, sfB l, fun hs => ?_, rfl, hb⟩
  have h1 := skip_not h hs
  rw [← (hn hs).1] at h1
  simp
  omega
theorem sParseYes (l : List UInt8) (w : World) (hl : l.length ≤ 1048576) (he : Env w) (x0 x1 x2 x3 : Int) (hv : pActV l = .agg #[.int .i64 x0, .int .i64 x1, .int .i64 x2, .int .i64 x3]) (b : Bool) (hb : pActB l = b) :
    Calls Tryz.prog 33 #[.string ⟨l.toArray⟩] w fun e w' => e = .returned (.tuple #[.agg #[.int .i64 x0, .int .i64 x1, .int .i64 x2, .int .i64 x3], .bool b]) ∧ Below w.heap.size w w' := by
  rw [← hv, ← hb]
  exact sParseAct l w hl he
/-- Where the reading stands: i bytes are read, the open line begins at b, k lines lie before it. -/
def LInv (t : List UInt8) (L : List (List UInt8)) (i b k : Nat) : Prop := b ≤ i ∧ k ≤ L.length ∧ (i ≤ t.length → lscan (cut t b i) (t.drop i) = L.drop k) ∧ (i = t.length + 1 → k = L.length)
theorem linv_start (t : List UInt8) : LInv t (lns t) 0 0 0 := ⟨Nat.le_refl _, Nat.zero_le _, fun _ => by
  rw [cut_none]
  exact lns_lscan t, fun h => absurd h (by omega)⟩
theorem linv_char {t : List UInt8} {L : List (List UInt8)} {i b k : Nat} {x : UInt8} (h : LInv t L i b k) (hx : t[i]? = some x) (hne : x ≠ 10) : LInv t L (i + 1) b k := by
  obtain ⟨h1, h2, h3, h4⟩ := h
  have hk := (List.getElem?_eq_some_iff.1 hx).1
  refine ⟨by omega, h2, fun _ => ?_, fun e => absurd e (by omega)⟩
  have h5 := h3 (by omega)
  rw [drop_at hx, lscan, if_neg hne, ← cut_next hx h1] at h5
  exact h5
theorem drop_head {L : List (List UInt8)} {k : Nat} {a : List UInt8} {r : List (List UInt8)} (h : a :: r = L.drop k) : L[k]? = some a ∧ L.drop (k + 1) = r := by
  refine ⟨?_, ?_⟩
  · have h2 : (L.drop k)[0]? = some a := by rw [← h]; rfl
    rw [List.getElem?_drop] at h2
    exact h2
  · rw [← List.drop_drop, ← h]
    rfl
theorem linv_flush {t : List UInt8} {L : List (List UInt8)} {i b k : Nat} (h : LInv t L i b k) (hx : t[i]? = some 10 ∨ i = t.length) : L[k]? = some (cut t b i) ∧ LInv t L (i + 1) (i + 1) (k + 1) := by
  obtain ⟨h1, h2, h3, h4⟩ := h
  rcases hx with hx | rfl
  · have hk := (List.getElem?_eq_some_iff.1 hx).1
    have h5 := h3 (by omega)
    rw [drop_at hx, lscan, if_pos rfl] at h5
    obtain ⟨h6, h7⟩ := drop_head h5
    refine ⟨h6, Nat.le_refl _, (List.getElem?_eq_some_iff.1 h6).1, fun _ => ?_, fun e => absurd e (by omega)⟩
    rw [cut_none, h7]
  · have h5 := h3 (Nat.le_refl _)
    rw [List.drop_length, lscan] at h5
    obtain ⟨h6, h7⟩ := drop_head h5
    refine ⟨h6, Nat.le_refl _, (List.getElem?_eq_some_iff.1 h6).1, fun e => absurd e (by omega), fun _ => ?_⟩
    have := List.drop_eq_nil_iff.1 h7
    have := (List.getElem?_eq_some_iff.1 h6).1
    omega
theorem gives_none {w w' : World} {z : Int} {t : List UInt8} {A : Option Addr} {c : Nat} (h : scOk z t = false) (hn : w'.ownsRow w.heap.size 9 1 (.slice A 0 c) 0 (strs [])) (hb : Below w.heap.size w w') : GivesSc w z t (.returned (.tuple #[.slice A 0 c, .bool false])) w' := by
  obtain ⟨h1, h2⟩ := sc_no h
  refine ⟨A, c, ?_, ?_, hb⟩
  · rw [h1, h2]
    rfl
  · rw [h2]
    exact hn
set_option linter.unusedVariables false in
set_option maxRecDepth 100000 in
set_option maxHeartbeats 6400000 in
theorem sRunScript (z : Int) (t : List UInt8) (w : World) (hl : t.length ≤ 1048576) (he : Env w) :
    Calls Tryz.prog 13 #[.int .i64 z, .string ⟨t.toArray⟩] w (GivesSc w z t) := by
  have HT := hid he
  clear he
  have HN := hid (fun w => sSchedNew z w)
  have h0 : ∃ L, lns t = L := ⟨_, rfl⟩
  obtain ⟨L, hL⟩ := h0
  have HLT := hid hL
  have HLEN := hid (len_lns t)
  have hcnt := lns_len t
  rw [hL] at HLEN hcnt
  have HI0 := hid (linv_start t)
  rw [hL] at HI0
  clear hL
  go_enter Tryz.func13, Tryz.ntmps13
  go_upto_region 2 with fail
  obtain ⟨w1, hw1⟩ : ∃ w1, w1 = w.alloc (.cells #[] 9) := ⟨_, rfl⟩
  have hnn : w1.ownsRow w.heap.size 9 1 (.slice (some ⟨w.heap.size, 0, none⟩) 0 0) 0 (strs []) := by
    rw [hw1]
    exact own_lit (size := 1) #[] 0 rfl (Nat.le_refl _) (Nat.zero_le _) rfl
  have hb1 : Below w.heap.size w w1 := by
    rw [hw1]
    exact (Below.refl _ _).alloc (Nat.le_refl _) _
  rw [← hw1]
  clear hw1
  cases hz : inB z 1 1000
  · have HNO := hid (sc_size (t := t) hz)
    rw [hz, pick_no] at HN
    clear hz
    have b_1 := hb1
    have s_1 := b_1.size
    have nn_in := own_in hnn
    have nn_1 := hnn
    clear hnn
    go_wp2_with fail
    refine calls_forget0 (W := w1) ?_ ?_
    (focus (exact belBy))
    intro X2 hX2
    have sX2 := hX2.size
    refine (HN.out _).mono ?_
    rintro e w2 ⟨rfl, hb2⟩
    have s2 := hb2.size
    have hT2 := hX2.trans (hb2.mono sX2)
    have b_2 := b_1.trans (hT2.mono (by omega))
    have nn_2 := own_below nn_1 hT2
    clear nn_1 b_1 hX2 hT2 hb2
    go_upto_region 3 with fail
    refine wp_forget1 (w0 := w2) (B := w2.heap.size) (b0 := w2.heap.size) (t0 := 40) (c0 := #[.int .i64 0, .int .i64 0, .int .i64 0, .slice none 0 0, .slice none 0 0, .slice none 0 0]) ?_ ?_ ?_
    (focus exact blkcBy)
    (focus (exact belBy))
    intro w3 s_3 hX3
    have sX3 := hX3.size
    have s_lt := s_3.lt
    have b_3 := b_2.trans (hX3.mono (by omega))
    have nn_3 := own_below nn_2 hX3
    clear nn_2 b_2 hX3
    have cell_s := s_3.cell
    have froz_s := s_3.frozen
    have lt_s := s_3.lt
    have HR := hid (gives_none HNO.out nn_3 b_3)
    clear b_3 nn_3
    by_cases h1 : 20000 < (t.length : Int)
    all_goals
    go_wp2
    go_returns
    exact HR.out
  have HZ := hid hz
  rw [hz, pick_yes] at HN
  clear hz
  by_cases h1 : 20000 < t.length
  · have HNO := hid (sc_long (z := z) h1)
    have h1' : (20000 : Int) < (t.length : Int) := by omega
    clear h1
    have b_1 := hb1
    have s_1 := b_1.size
    have nn_in := own_in hnn
    have nn_1 := hnn
    clear hnn
    go_wp2_with fail
    refine calls_forget0 (W := w1) ?_ ?_
    (focus (exact belBy))
    intro X2 hX2
    have sX2 := hX2.size
    refine (HN.out _).mono ?_
    rintro e w2 ⟨rfl, hb2⟩
    have s2 := hb2.size
    have hT2 := hX2.trans (hb2.mono sX2)
    have b_2 := b_1.trans (hT2.mono (by omega))
    have nn_2 := own_below nn_1 hT2
    clear nn_1 b_1 hX2 hT2 hb2
    go_upto_region 3 with fail
    refine wp_forget1 (w0 := w2) (B := w2.heap.size) (b0 := w2.heap.size) (t0 := 40) (c0 := #[.int .i64 z, .int .i64 0, .int .i64 0, .slice none 0 0, .slice none 0 0, .slice none 0 0]) ?_ ?_ ?_
    (focus exact blkcBy)
    (focus (exact belBy))
    intro w3 s_3 hX3
    have sX3 := hX3.size
    have s_lt := s_3.lt
    have b_3 := b_2.trans (hX3.mono (by omega))
    have nn_3 := own_below nn_2 hX3
    clear nn_2 b_2 hX3
    have cell_s := s_3.cell
    have froz_s := s_3.frozen
    have lt_s := s_3.lt
    have HR := hid (gives_none HNO.out nn_3 b_3)
    clear b_3 nn_3
    go_wp2
    go_returns
    exact HR.out
  have h1' : ¬ (20000 : Int) < (t.length : Int) := by omega
  have H20 := hid (show t.length ≤ 20000 by omega)
  have b_1 := hb1
  have s_1 := b_1.size
  have nn_in := own_in hnn
  have nn_1 := hnn
  clear hnn
  go_wp2_with fail
  refine calls_forget0 (W := w1) ?_ ?_
  (focus (exact belBy))
  intro X2 hX2
  have sX2 := hX2.size
  refine (HN.out _).mono ?_
  rintro e w2 ⟨rfl, hb2⟩
  have s2 := hb2.size
  have hT2 := hX2.trans (hb2.mono sX2)
  have b_2 := b_1.trans (hT2.mono (by omega))
  have nn_2 := own_below nn_1 hT2
  clear nn_1 b_1 hX2 hT2 hb2
  go_upto_region 3 with fail
  refine wp_forget1 (w0 := w2) (B := w2.heap.size) (b0 := w2.heap.size) (t0 := 40) (c0 := #[.int .i64 z, .int .i64 0, .int .i64 0, .slice none 0 0, .slice none 0 0, .slice none 0 0]) ?_ ?_ ?_
  (focus exact blkcBy)
  (focus (exact belBy))
  intro w3 s0_3 hX3
  have sX3 := hX3.size
  have s0_lt := s0_3.lt
  have b_3 := b_2.trans (hX3.mono (by omega))
  have nn_3 := own_below nn_2 hX3
  clear nn_2 b_2 hX3
  have cell_s0 := s0_3.cell
  have froz_s0 := s0_3.frozen
  have lt_s0 := s0_3.lt
  clear cell_s0 froz_s0 lt_s0
  clear s0_3
  have E1 := hid nn_3
  have E2 := hid b_3
  clear nn_3 b_3 HN h1
  go_wp2_with fail
  go_loopw [9, 10, 11, 12, 13, 14, 15, 16] (fun o bg i _ _ _ _ _ wr => ∃ (j b k m : Nat) (A : Option Addr) (c : Nat), j ≤ t.length + 1 ∧ i = .int .i64 j ∧ bg = .int .i64 b ∧ o = .slice A m c ∧ LInv t L j b k ∧ scrN (L.take k) = m ∧ scrB (L.take k) = true ∧ wr.ownsRow w.heap.size 30 4 (.slice A m c) m (ints (scrX (L.take k))) ∧
    wr.ownsRow w.heap.size 9 1 (.slice (some ⟨w.heap.size, 0, none⟩) 0 0) 0 (strs []) ∧ Below w.heap.size w wr) (fun _ _ i _ _ _ _ _ _ => t.length + 1 - (intOf i).toNat)
  case atStart =>
    have ez := E2.out.size
    exact ⟨0, 0, 0, 0, some ⟨w3.heap.size, 0, none⟩, 0, by omega, rfl, rfl, rfl, HI0.out, rfl, rfl, own_weak (own_lit (size := 4) #[] 0 rfl (Nat.le_refl _) (Nat.zero_le _) rfl) ez, E1.out.alloc _, E2.out.alloc ez _⟩
  case round =>
    clear E1 E2
    obtain ⟨j, b, k, m, A, c, hj, rfl, rfl, rfl, hinv, hm, hsb, hown, hnn, hb⟩ := hrel
    have zb := hb.size
    have hbj := hinv.1
    have HI := hid hinv
    by_cases hch : ∃ x, t[j]? = some x ∧ x ≠ 10
    · obtain ⟨x, hx, hx10⟩ := hch
      have hlt := (List.getElem?_eq_some_iff.1 hx).1
      have hlt' : (j : Int) < (t.length : Int) := by omega
      have hle' : (j : Int) ≤ (t.length : Int) := by omega
      have hix := index_byte t j x hx
      have h6 : ¬ (x.toNat : Int) = 10 := fun e => hx10 (UInt8.toNat_inj.1 (show x.toNat = 10 by omega))
      have HC := hid (linv_char HI.out hx hx10)
      have Q1 := hid hown
      have Q2 := hid hnn
      have Q3 := hid hb
      have HM := hid hm
      have HSB := hid hsb
      clear hx hx10 hown hnn hb hm hsb hinv
      go_wp2
      go_roundw
      case rel => exact ⟨j + 1, b, k, m, A, c, by omega, by go_num, rfl, rfl, HC.out, HM.out, HSB.out, Q1.out, Q2.out, Q3.out⟩
      case measure => simp [intOf]; omega
    by_cases hle : j ≤ t.length
    · have hfl : t[j]? = some 10 ∨ j = t.length := by
        rcases Nat.lt_or_ge j t.length with h | h
        · obtain ⟨x, hx⟩ : ∃ x, t[j]? = some x := ⟨_, List.getElem?_eq_getElem h⟩
          by_cases h10 : x = 10
          · exact .inl (h10 ▸ hx)
          · exact absurd ⟨x, hx, h10⟩ hch
        · exact .inr (by omega)
      obtain ⟨hy, hinv2⟩ := linv_flush HI.out hfl
      obtain ⟨y, hyc⟩ : ∃ y, cut t b j = y := ⟨_, rfl⟩
      have hex := ext_cut t b j
      rw [hyc] at hy hex
      have hyl : y.length ≤ 1048576 := by have := HLEN.out y (List.mem_of_getElem? hy); omega
      have hle' : (j : Int) ≤ (t.length : Int) := by omega
      have hbj' : (b : Int) ≤ (j : Int) := by omega
      have hmk : m ≤ 20001 := by have := scrN_le L k; have := HI.out.2.1; omega
      have HV2 := hid hinv2
      clear hyc hinv hinv2 hch
      cases hsk : skipB y
      · obtain ⟨x0, x1, x2, x3, hv⟩ := pActV_agg y
        have HFN := hid (fun w he => sFieldsNo y w hyl he hsk)
        obtain ⟨pb, hpb⟩ : ∃ b, pActB y = b := ⟨_, rfl⟩
        have HPY := hid (fun w he => sParseYes y w hyl he x0 x1 x2 x3 hv pb hpb)
        rw [← hex] at HFN HPY
        have HY := hid hy
        have HSK := hid hsk
        have HV := hid hv
        have HM := hid hm
        have HSB := hid hsb
        clear hy hsk hv hm hsb hex
        have ACI := hid (own_in hown)
        rcases hfl with hx | hx
        all_goals
          first
          | (have hlt := (List.getElem?_eq_some_iff.1 hx).1
             have hlt' : (j : Int) < (t.length : Int) := by omega
             have hix := index_byte t j 10 hx
             clear hx)
          | (have hlt' : ¬ (j : Int) < (t.length : Int) := by omega
             clear hx)
          have b_30 := hb
          have s_30 := b_30.size
          have ac_in := own_in hown
          have ac_30 := hown
          clear hown
          have nn_in := own_in hnn
          have nn_30 := hnn
          clear hnn
          go_wp2_with fail
          refine calls_forget0 (W := wr) ?_ ?_
          (focus (exact belBy))
          intro X31 hX31
          have sX31 := hX31.size
          refine (HFN.out _ (HT.out.step (b_30.trans (hX31.mono (by omega))) HT.out)).mono ?_
          rintro e w31 ⟨nf, Af, cf, bf, hbf, rfl, hb31⟩
          have s31 := hb31.size
          have hT31 := hX31.trans (hb31.mono sX31)
          have b_31 := b_30.trans (hT31.mono (by omega))
          have ac_31 := own_below ac_30 hT31
          have nn_31 := own_below nn_30 hT31
          clear ac_30 nn_30 b_30 hX31 hT31 hb31
          have HBF := hid hbf
          clear hbf
          cases bf
          all_goals
            (try have hq0 := HBF.out rfl)
            go_wp2_with fail
            refine calls_forget0 (W := w31) ?_ ?_
            (focus (exact belBy))
            intro X32 hX32
            have sX32 := hX32.size
            refine (HPY.out _ (HT.out.step (b_31.trans (hX32.mono (by omega))) HT.out)).mono ?_
            rintro e w32 ⟨rfl, hb32⟩
            have s32 := hb32.size
            have hT32 := hX32.trans (hb32.mono sX32)
            have b_32 := b_31.trans (hT32.mono (by omega))
            have ac_32 := own_below ac_31 hT32
            have nn_32 := own_below nn_31 hT32
            clear ac_31 nn_31 b_31 hX32 hT32 hb32
            go_upto_region 16 with fail
            refine wp_forget1 (w0 := w32) (B := w32.heap.size) (b0 := w32.heap.size) (t0 := 30) (c0 := #[.int .i64 x0, .int .i64 x1, .int .i64 x2, .int .i64 x3]) ?_ ?_ ?_
            (focus exact blkcBy)
            (focus (exact belBy))
            intro w33 x_33 hX33
            have sX33 := hX33.size
            have x_lt := x_33.lt
            have b_33 := b_32.trans (hX33.mono (by omega))
            have ac_33 := own_below ac_32 hX33
            have nn_33 := own_below nn_32 hX33
            clear ac_32 nn_32 b_32 hX33
            have cell_x := x_33.cell
            have froz_x := x_33.frozen
            have lt_x := x_33.lt
            have K1 := hid ac_33
            have K2 := hid nn_33
            have K3 := hid b_33
            have K4 := hid x_33
            clear ac_33 nn_33 b_33 x_33
            cases hpe : pb
            · have hno := scrB_no HY.out (by rw [HSK.out, hpb, hpe]; rfl)
              have HNO := hid (gives_none (w := w) (w' := w33) (z := z) (t := t) (sc_bad (by rw [HLT.out]; exact hno)) K2.out K3.out)
              clear hpb hpe hno
              go_wp2
              go_returns
              exact HNO.out
            · subst hpe
              obtain ⟨p, i, d, n, hao, hai, hav⟩ := actI_is hpb
              have hxs := scrX_act HY.out HSK.out
              have hsb2 := scrB_snoc HY.out HSB.out (by rw [HSK.out, hpb]; rfl)
              have hx4 : actI y = [x0, x1, x2, x3] := by
                have h := HV.out.symm.trans hav
                injection h with h
                simp at h
                obtain ⟨rfl, rfl, rfl, rfl⟩ := h
                exact hai
              rw [hx4] at hxs
              have HX := hid hxs
              have HSB2 := hid hsb2
              clear hao hai hav hxs hx4 hsb2 hpb
              have kb := K3.out
              have ka := K1.out
              have kl := K2.out
              have kx := K4.out
              have b_40 := kb
              have s_40 := b_40.size
              have ac_in := ACI.out
              have ac_40 := ka
              clear ka
              have nn_in := own_in kl
              have nn_40 := kl
              clear kl
              have x_40 := kx
              clear kx
              have x_lt := x_40.lt
              have cell_x := x_40.cell
              have froz_x := x_40.frozen
              have lt_x := x_40.lt
              go_wp2_with (at_builtin; refine wpList_appi rfl _ _ 24 rfl w.heap.size 30 (.agg #[.int .i64 0, .int .i64 0, .int .i64 0, .int .i64 0]) 4 32 Tryz.underlying24 infoActR rfl (by decide) _ m _ rfl (ac_40.alloc _) ⟨w33.heap.size, 0, none⟩ 1 1 _ rfl rfl (many_new _ [.int .i64 x0, .int .i64 x1, .int .i64 x2, .int .i64 x3] _) (int4_one _ _ _ _) (by omega) (by decide) (by simp; omega) ?_)
              intro A_ac c_ac w41 ac_41 hg41 li41
              have hg41 := grown_alloc hg41
              try simp only [World.size_alloc] at li41
              have s41 := hg41.size
              have b_41 := gr_below hg41 b_40 (by omega) (fun q hq => by have h1 := ac_in q hq; omega)
              have nn_41 := gr_own hg41 nn_40 (fun q p hq hp => by first | (have h1 := ac_in q hq; have h2 := nn_in p hp; omega) | exact own_ne ac_40 nn_40 (by decide) q p hq hp | exact ne_ac_nn q p hq hp | exact (ne_nn_ac p q hp hq).symm)
              have x_41 := gr_blk hg41 x_40 (fun q hq => by have h1 := ac_in q hq; omega)
              have ac_ix := own_in ac_41
              clear ac_40 nn_40 x_40 b_40 cell_x froz_x lt_x hg41 li41 ac_in
              have ac_in := ac_ix
              clear ac_ix
              have cell_x := x_41.cell
              have froz_x := x_41.frozen
              have lt_x := x_41.lt
              have P1 := hid (show World.ownsRow _ w.heap.size 30 4 (.slice A_ac (m + 1) c_ac) (m + 1) (ints (scrX (L.take (k + 1)))) by rw [HX.out.1, show ints (scrX (L.take k) ++ [x0, x1, x2, x3]) = ints (scrX (L.take k)) ++ ints [x0, x1, x2, x3] from List.map_append]; exact ac_41)
              have P2 := hid nn_41
              have P3 := hid b_41
              clear ac_41 nn_41 b_41
              go_wp2
              go_roundw
              case rel => exact ⟨j + 1, j + 1, k + 1, m + 1, A_ac, c_ac, by omega, by go_num, by go_num, rfl, HV2.out, by rw [HX.out.2, HM.out], HSB2.out, P1.out, P2.out, P3.out⟩
              case measure => simp [intOf]; omega
      · have HFY := hid (fun w he => sFieldsYes y w hyl he hsk)
        rw [← hex] at HFY
        have HX := hid (scrX_skip hy hsk)
        have HSB2 := hid (scrB_snoc hy hsb (by rw [hsk]; rfl))
        have HM := hid hm
        clear hy hsk hsb hm hex
        rcases hfl with hx | hx
        all_goals
          first
          | (have hlt := (List.getElem?_eq_some_iff.1 hx).1
             have hlt' : (j : Int) < (t.length : Int) := by omega
             have hix := index_byte t j 10 hx
             clear hx)
          | (have hlt' : ¬ (j : Int) < (t.length : Int) := by omega
             clear hx)
          have b_30 := hb
          have s_30 := b_30.size
          have ac_in := own_in hown
          have ac_30 := hown
          clear hown
          have nn_in := own_in hnn
          have nn_30 := hnn
          clear hnn
          go_wp2_with fail
          refine calls_forget0 (W := wr) ?_ ?_
          (focus (exact belBy))
          intro X31 hX31
          have sX31 := hX31.size
          refine (HFY.out _ (HT.out.step (b_30.trans (hX31.mono (by omega))) HT.out)).mono ?_
          rintro e w31 ⟨Af, cf, rfl, hb31⟩
          have s31 := hb31.size
          have hT31 := hX31.trans (hb31.mono sX31)
          have b_31 := b_30.trans (hT31.mono (by omega))
          have ac_31 := own_below ac_30 hT31
          have nn_31 := own_below nn_30 hT31
          clear ac_30 nn_30 b_30 hX31 hT31 hb31
          have P1 := hid ac_31
          have P2 := hid nn_31
          have P3 := hid b_31
          clear ac_31 nn_31 b_31
          go_wp2
          go_roundw
          case rel => exact ⟨j + 1, j + 1, k + 1, m, A, c, by omega, by go_num, by go_num, rfl, HV2.out, by rw [HX.out.2, HM.out], HSB2.out, by rw [HX.out.1]; exact P1.out, P2.out, P3.out⟩
          case measure => simp [intOf]; omega
    · have hle' : ¬ (j : Int) ≤ (t.length : Int) := by omega
      have hkL := HI.out.2.2.2 (by omega)
      have hLk : L.take k = L := by rw [hkL, List.take_length]
      rw [hLk] at hm hsb hown
      have HSB := hid (show scrB (lns t) = true by rw [HLT.out]; exact hsb)
      have HM := hid (show scrN (lns t) = m by rw [HLT.out]; exact hm)
      have hmk : m ≤ 20001 := by have := scrN_le L k; have := HI.out.2.1; rw [hLk] at *; omega
      have hxl := scrX_len L hsb
      rw [hm] at hxl
      obtain ⟨X, hX⟩ : ∃ X, scrX L = X := ⟨_, rfl⟩
      rw [hX] at hown hxl
      have HX := hid (show scrX (lns t) = X by rw [HLT.out]; exact hX)
      have HXL := hid hxl
      clear hLk hm hsb hX hxl
      clear hch hinv
      by_cases h60 : 60 < m
      · have HNO := hid (sc_many (z := z) (t := t) (by rw [HM.out]; exact h60))
        have h60' : (60 : Int) < (m : Int) := by omega
        have HR := hid (gives_none HNO.out hnn hb)
        clear hown hnn hb
        go_wp2
        go_returns
        exact HR.out
      have h60' : ¬ (60 : Int) < (m : Int) := by omega
      have HOK := hid (sc_yes H20.out HSB.out HZ.out (by rw [HM.out]; omega))
      have HOKS := hid (okS_to HZ.out X m)
      have HRUN := hid (fun A c w hc => sRunActs z A c m X w hc HXL.out)
      have hr : raB z m = true := by unfold raB; rw [HZ.out, decide_eq_true (by omega)]; rfl
      have hlen := codesTo_length z X m
      have HC64 := hid (codes64 z X m)
      have HF64 := hid (fs64 z X m)
      have HRES := hid (show scRes z t = scTxt z X m by unfold scRes; rw [HOK.out, if_pos rfl, HM.out, HX.out])
      unfold scTxt at HRES
      unfold raS raL at HRUN
      rw [if_pos hr, if_pos hr] at HRUN
      unfold GivesRun at HRUN
      have hst := stTo_len z X m
      obtain ⟨S, hS⟩ : ∃ S, stTo z X m = S := ⟨_, rfl⟩
      obtain ⟨C, hC⟩ : ∃ C, codesTo z X m = C := ⟨_, rfl⟩
      rw [hS] at HOKS HF64 HRES HRUN hst
      rw [hC] at HC64 HRES HRUN hlen
      rw [hlen] at HRUN
      have hok := schedOkB_yes HOKS.out.1
      have HTL := hid (schedTxt_length hok)
      have HFM := hid (fun J T F cj ct cf w h ht => sFmtYes S hok J T F cj ct cf w h (by omega) HF64.out ht)
      have HCL := hid hlen
      have hj16 : S.js.length ≤ 16 := HOKS.out.1.2.1
      clear hS hC hlen hok hst
      have b_50 := hb
      have s_50 := b_50.size
      have ac_in := own_in hown
      have ac_50 := hown
      clear hown
      go_wp2_with fail
      refine calls_forget0 (W := wr) ?_ ?_
      (focus (exact belBy))
      intro X51 hX51
      have sX51 := hX51.size
      refine (HRUN.out _ _ _ (Cells.of_own (own_below ac_50 hX51))).mono ?_
      rintro e w51 ⟨J, cj, T, tc, F, cf, G, cg, hne, rfl, rj_51, rt_51, rf_51, rc_51, hb51⟩
      have s51 := hb51.size
      have hT51 := hX51.trans (hb51.mono sX51)
      have b_51 := b_50.trans (hT51.mono (by omega))
      have ac_51 := own_below ac_50 hT51
      have rj_in := own_in rj_51
      have rt_in := own_in rt_51
      have rf_in := own_in rf_51
      have rc_in := own_in rc_51
      clear ac_50 b_50 hX51 hT51 hb51
      clear hne
      clear ac_51
      go_upto_region 22 with fail
      refine wp_forget1 (w0 := w51) (B := w51.heap.size) (b0 := w51.heap.size) (t0 := 40) (c0 := #[.int .i64 S.z, .int .i64 S.n, .int .i64 S.b, .slice J S.js.length cj, .slice T S.ts.length tc, .slice F S.fs.length cf]) ?_ ?_ ?_
      (focus exact blkcBy)
      (focus (exact belBy))
      intro w52 s_52 hX52
      have sX52 := hX52.size
      have s_lt := s_52.lt
      have b_52 := b_51.trans (hX52.mono (by omega))
      have rj_52 := own_below rj_51 hX52
      have rt_52 := own_below rt_51 hX52
      have rf_52 := own_below rf_51 hX52
      have rc_52 := own_below rc_51 hX52
      clear rj_51 rt_51 rf_51 rc_51 b_51 hX52
      have cell_s := s_52.cell
      have froz_s := s_52.frozen
      have lt_s := s_52.lt
      have K1 := hid rj_52
      have K2 := hid rt_52
      have K3 := hid rf_52
      have K4 := hid rc_52
      have K5 := hid s_52
      have K6 := hid b_52
      clear rj_52 rt_52 rf_52 rc_52 s_52 b_52 cell_s froz_s lt_s
      go_wp2_with fail
      go_loopw [19, 20] (fun o i wr => ∃ (k : Nat) (A : Option Addr) (c : Nat), k ≤ m ∧ i = .int .i64 k ∧ o = .slice A k c ∧ wr.ownsRow w52.heap.size 9 1 (.slice A k c) k (strs ((C.map Lib.itoa).take k)) ∧ Below w52.heap.size w52 wr) (fun _ i _ => m - (intOf i).toNat)
      case atStart => exact ⟨0, some ⟨w52.heap.size, 0, none⟩, 0, Nat.zero_le _, rfl, rfl, own_lit (size := 1) #[] 0 rfl (Nat.le_refl _) (Nat.zero_le _) rfl, (Below.refl _ _).alloc (Nat.le_refl _) _⟩
      case round =>
        obtain ⟨k, A, c, hk, rfl, rfl, hown, hbw⟩ := hrel
        have zb := hbw.size
        have hb := K6.out.trans (hbw.mono K6.out.size)
        by_cases hlt : k < m
        · obtain ⟨x, hx⟩ : ∃ x, C[k]? = some x := ⟨_, List.getElem?_eq_getElem (by rw [HCL.out]; exact hlt)⟩
          have hlt' : (k : Int) < (m : Int) := by omega
          have H64 := hid (HC64.out x (List.mem_of_getElem? hx))
          obtain ⟨g, rfl, _, hg1, _⟩ := own_at K4.out (by omega)
          have d0 := ((own_below K4.out hbw).cellAt k (by omega)).trans (ints_get hx)
          have HS := hid (show strs ((C.map Lib.itoa).take (k + 1)) = strs ((C.map Lib.itoa).take k) ++ [txt (Lib.itoa x)] by rw [List.take_add_one, List.getElem?_map, hx, ← strs_snoc]; rfl)
          have HT := hid (HT.out.step K6.out HT.out)
          clear hx hb
          have b_60 := hbw
          have s_60 := b_60.size
          have o_in := own_in hown
          have o_60 := hown
          clear hown
          have q_60 := d0
          clear d0
          have lt_q : g < wr.heap.size := by omega
          go_wp2_with fail
          refine calls_forget0 (W := wr) ?_ ?_
          (focus (exact belBy))
          intro X61 hX61
          have sX61 := hX61.size
          refine (sFormatIntW x _ H64.out ((HT.out.step (b_60.trans (hX61.mono (by omega))) HT.out)).tab).mono ?_
          rintro e w61 ⟨rfl, hb61⟩
          have s61 := hb61.size
          have hT61 := hX61.trans (hb61.mono sX61)
          have b_61 := b_60.trans (hT61.mono (by omega))
          have o_61 := own_below o_60 hT61
          have q_61 := cell_kept q_60 hT61 (by dsimp only; omega)
          clear o_60 q_60 b_60 lt_q hX61 hT61 hb61
          have lt_q : g < w61.heap.size := (by omega)
          go_wp2_with (at_builtin; refine wpList_appi rfl _ _ 31 rfl w52.heap.size 9 (.string ⟨#[]⟩) 1 16 Tryz.underlying31 infoStr rfl (by decide) _ k _ rfl (o_61.alloc _) ⟨w61.heap.size, 0, none⟩ 1 1 _ rfl rfl (one_new _ _ _) (txt_one _) (by omega) (by decide) (by simp; omega) ?_)
          intro A_o c_o w62 o_62 hg62 li62
          have hg62 := grown_alloc hg62
          try simp only [World.size_alloc] at li62
          have s62 := hg62.size
          have b_62 := gr_below hg62 b_61 (by omega) (fun q hq => by have h1 := o_in q hq; omega)
          have q_62 := gr_cell hg62 q_61 (by dsimp only; omega) (fun q hq => by have h1 := o_in q hq; dsimp only; omega)
          have o_ix := own_in o_62
          clear o_61 q_61 b_61 lt_q hg62 li62 o_in
          have o_in := o_ix
          clear o_ix
          have lt_q : g < w62.heap.size := (by omega)
          have P1 := hid (show World.ownsRow _ w52.heap.size 9 1 (.slice A_o (k + 1) c_o) (k + 1) (strs ((C.map Lib.itoa).take (k + 1))) by rw [HS.out]; exact o_62)
          have P2 := hid b_62
          clear o_62 b_62 q_62 lt_q
          go_wp2
          go_roundw
          case rel => exact ⟨k + 1, A_o, c_o, by omega, by go_num, rfl, P1.out, P2.out⟩
          case measure => simp [intOf]; omega
        · obtain rfl : k = m := by omega
          have hTk : (C.map Lib.itoa).take k = C.map Lib.itoa := List.take_of_length_le (by rw [List.length_map, HCL.out]; omega)
          rw [hTk] at hown
          have r1 := own_below K1.out hbw
          have r2 := own_below K2.out hbw
          have r3 := own_below K3.out hbw
          have r5 := Blk.past hbw K5.out
          have lo := own_lo hown
          clear hbw hTk
          have b_70 := hb
          have s_70 := b_70.size
          have o_in := own_in hown
          have o_70 := hown
          clear hown
          have rj_in := own_in r1
          have rj_70 := r1
          clear r1
          have rt_in := own_in r2
          have rt_70 := r2
          clear r2
          have rf_in := own_in r3
          have rf_70 := r3
          clear r3
          have s_70 := r5
          clear r5
          have s_lt := s_70.lt
          have cell_s := s_70.cell
          have froz_s := s_70.frozen
          have lt_s := s_70.lt
          go_wp2_with fail
          refine calls_forget0 (W := wr) ?_ ?_
          (focus (exact belBy))
          intro X71 hX71
          have sX71 := hX71.size
          refine (HFM.out _ _ _ _ _ _ _ ⟨own_weak (own_below rj_70 hX71) (Nat.zero_le _), own_weak (own_below rt_70 hX71) (Nat.zero_le _), own_weak (own_below rf_70 hX71) (Nat.zero_le _)⟩ ((HT.out.step (b_70.trans (hX71.mono (by omega))) HT.out)).tab).mono ?_
          rintro e w71 ⟨Au, cu, rfl, u_71, hb71⟩
          have s71 := hb71.size
          have hT71 := hX71.trans (hb71.mono sX71)
          have b_71 := b_70.trans (hT71.mono (by omega))
          have o_71 := own_below o_70 hT71
          have rj_71 := own_below rj_70 hT71
          have rt_71 := own_below rt_70 hT71
          have rf_71 := own_below rf_70 hT71
          have s_71 := Blk.past hT71 s_70
          have u_in := own_in u_71
          clear o_70 rj_70 rt_70 rf_70 s_70 b_70 cell_s froz_s lt_s hX71 hT71 hb71
          have cell_s := s_71.cell
          have froz_s := s_71.frozen
          have lt_s := s_71.lt
          have U1 := hid o_71
          have U2 := hid u_71
          have U3 := hid b_71
          clear o_71 u_71 b_71 rj_71 rt_71 rf_71 s_71 cell_s froz_s lt_s
          obtain ⟨g, rfl, _, hg1, _⟩ := own_at U2.out (by omega)
          have H7 := hid (row_news U2.out)
          go_wp2_with (at_builtin; go_loud (refine wpList_appi rfl _ _ 31 rfl w52.heap.size 9 (.string ⟨#[]⟩) 1 16 Tryz.underlying31 infoStr rfl (by decide) _ k _ rfl U1.out ⟨g, 0, none⟩ (S.js.length + 3) cu (strs (schedTxt S)) rfl (by rw [strs_length, HTL.out, Nat.mul_one]) H7.out (strs_one _) (by omega) (by decide) (by have := U3.out.size; omega) ?_))
          intro A73 c73 w73 ho73 hg73 li73
          have s0 := U3.out.size
          have HB73 := hid (gr_below hg73 U3.out (by omega) (fun q hq => by have h1 := lo q hq; omega))
          have HO73 := hid ho73
          clear hg73 li73 ho73 lo
          go_wp2
          go_returns
          have hl : (scRes z t).length = k + (S.js.length + 3) := by rw [HRES.out, List.length_append, List.length_map, HCL.out, HTL.out]
          refine ⟨A73, c73, by rw [hl, HOK.out]; rfl, ?_, HB73.out⟩
          rw [hl, HRES.out, show strs (C.map Lib.itoa ++ schedTxt S) = strs (C.map Lib.itoa) ++ strs (schedTxt S) from List.map_append]
          exact own_weak HO73.out (by omega)
end Go.Proofs.YtjknadnknainbaaGreatDoor
