/- The coins of a run, in the reference. -/
import Derived.Test.YtgkkljcboicipaaCoins2
import Derived.StillTailTactics
namespace Go.Proofs.Ytgkkljcboicipaa
open Go.RowKit

theorem sFAdd_y (p a b : Int) (w : World) (n : Nat) (hp : fieldOkB p = true) :
    Calls Try.prog 48 #[.int .i64 p, .int .i64 a, .int .i64 b] (w.drewN n) fun e w' => e = .returned (.int .i64 (addI p a b)) ∧ w' = w.drewN n :=
  (sFAdd p a b (w.drewN n) hp).mono fun _ _ ⟨he, hw⟩ => ⟨he, hw.symm⟩
theorem givesInts_lit (w : World) (xs : List Int) (h : xs = []) {X w' : World} {b : Nat} (hx : b = X.heap.size) (hle : w.heap.size ≤ b) (hw : w' = X.alloc (.cells #[] 3)) (hb : Below w.heap.size w w') : GivesInts w xs (.returned (.slice (some ⟨b, 0, none⟩) 0 0)) w' := by
  subst h hw
  exact ⟨some ⟨b, 0, none⟩, 0, rfl, own_lit #[] 0 hx hle (Nat.zero_le _) rfl, hb⟩
set_option maxRecDepth 100000 in
set_option maxHeartbeats 3200000 in
theorem sCoinsOf (p : Int) (B : Option Addr) (d n : Nat) (ms : List Int) (r : Int) (w : World) (hq : Cells w w.heap.size B (ints ms)) (hl : ms.length = n * 3) (hn : n ≤ 1000000000) :
    Calls Try.prog 20 #[.int .i64 p, .slice B n d, .int .i64 r] w (GivesInts w (coinsL p r ms n)) := by
  have HL := hid hl
  have HQ := hid hq
  clear hl hq
  cases hp : fieldOkB p
  · go_enter Try.func20, Try.ntmps20
    go_wp2_with (go_at_call 34; refine (sFieldOk _ _).mono ?_; rintro e w' ⟨rfl, rfl⟩)
    go_ret
    exact givesInts_lit _ _ (coinsL_no (by rw [hp]; rfl)) rfl (Nat.le_refl _) rfl (by repeat (first | (with_reducible exact Below.refl _ _) | (with_reducible refine Below.trans ?_ (Below.mono (by assumption) (by first | omega | (simp; done) | (simp; omega) | (simp [*]; done)))) | (with_reducible refine Below.alloc ?_ (by first | omega | (simp; done) | (simp; omega) | (simp [*]; done)) _) | (with_reducible refine Below.setCell ?_ (by first | omega | (simp; done) | (simp; omega) | (simp [*]; done)) _) | (with_reducible refine Below.drew ?_) | (with_reducible refine below_drewN ?_)))
  cases hr : inB r 0 12
  · go_enter Try.func20, Try.ntmps20
    go_wp2_with (first | (go_at_call 34; refine (sFieldOk _ _).mono ?_; rintro e w' ⟨rfl, rfl⟩) | (go_at_call 36; refine (sWithin _ _ _ _).mono ?_; rintro e w' ⟨rfl, rfl⟩))
    go_ret
    exact givesInts_lit _ _ (coinsL_no (by rw [hr]; simp)) rfl (Nat.le_refl _) rfl (by repeat (first | (with_reducible exact Below.refl _ _) | (with_reducible refine Below.trans ?_ (Below.mono (by assumption) (by first | omega | (simp; done) | (simp; omega) | (simp [*]; done)))) | (with_reducible refine Below.alloc ?_ (by first | omega | (simp; done) | (simp; omega) | (simp [*]; done)) _) | (with_reducible refine Below.setCell ?_ (by first | omega | (simp; done) | (simp; omega) | (simp [*]; done)) _) | (with_reducible refine Below.drew ?_) | (with_reducible refine below_drewN ?_)))
  obtain ⟨hr0, hr1⟩ := inB_iff.1 hr
  obtain ⟨R, rfl⟩ := Int.eq_ofNat_of_zero_le hr0
  have HP := hid hp
  have HR := hid hr
  obtain ⟨hp0, hp1⟩ := field_range hp
  go_enter Try.func20, Try.ntmps20
  go_wp2_with (first | (go_at_call 34; refine (sFieldOk _ _).mono ?_; rintro e w' ⟨rfl, rfl⟩) | (go_at_call 36; refine (sWithin _ _ _ _).mono ?_; rintro e w' ⟨rfl, rfl⟩))
  clear hp hr
  go_loopw [7, 8] (fun o i wr => ∃ (k : Nat) (A2 : Option Addr) (c2 : Nat), k ≤ R ∧ i = .int .i64 k ∧ o = .slice A2 k c2 ∧ wr.ownsRow w.heap.size 3 1 (.slice A2 k c2) k (ints (List.replicate k 0)) ∧ Below w.heap.size w wr) (fun _ i _ => R - (intOf i).toNat)
  case atStart => exact ⟨0, some ⟨w.heap.size, 0, none⟩, 0, Nat.zero_le _, rfl, rfl, own_lit (size := 1) #[] 0 rfl (Nat.le_refl _) (Nat.zero_le _) rfl, by repeat (first | (with_reducible exact Below.refl _ _) | (with_reducible refine Below.trans ?_ (Below.mono (by assumption) (by first | omega | (simp; done) | (simp; omega) | (simp [*]; done)))) | (with_reducible refine Below.alloc ?_ (by first | omega | (simp; done) | (simp; omega) | (simp [*]; done)) _) | (with_reducible refine Below.setCell ?_ (by first | omega | (simp; done) | (simp; omega) | (simp [*]; done)) _) | (with_reducible refine Below.drew ?_) | (with_reducible refine below_drewN ?_))⟩
  case round =>
    obtain ⟨k, A2, c2, hk, rfl, rfl, hown, hb⟩ := hrel
    by_cases hkl : k < R
    · have hkR : (k : Int) < (R : Int) := by omega
      have b_30 := hb
      have s_30 := b_30.size
      have o_in := own_in hown
      have o_30 := hown
      clear hown
      go_wp2_with (at_builtin; refine wpList_appi rfl _ _ 30 rfl w.heap.size 3 (.int .i64 0) 1 8 Try.underlying30 infoInt rfl (by decide) _ k _ rfl (o_30.alloc _) ⟨wr.heap.size, 0, none⟩ 1 1 _ rfl rfl (one_new _ _ _) (one_one _) (by omega) (by decide) (by simp; omega) ?_)
      intro A_o c_o w31 o_31 hg31 li31
      have hg31 := grown_alloc hg31
      try simp only [World.size_alloc] at li31
      have s31 := hg31.size
      have b_31 := gr_below hg31 b_30 (by omega) (fun q hq => by have h1 := o_in q hq; omega)
      have o_ix := own_in o_31
      clear o_30 b_30 hg31 li31 o_in
      have o_in := o_ix
      clear o_ix
      go_wp2
      go_roundw
      case rel => exact ⟨k + 1, A_o, c_o, by omega, by go_num, rfl, by rw [List.replicate_succ', ints_append]; exact o_31, b_31⟩
      case measure => simp [intOf]; omega
    · obtain rfl : k = R := by omega
      have HO := hid hown
      have HB := hid hb
      clear hown hb
      obtain ⟨wo, rfl⟩ : ∃ wo : World, wo = wr := ⟨_, rfl⟩
      go_wp2_with fail
      go_loopw [9, 10] (fun i _ wr => ∃ j : Nat, j ≤ n ∧ i = .int .i64 j ∧ wr.ownsRow w.heap.size 3 1 (.slice A2 k c2) k (ints (coinsTo p k ms j)) ∧ Below w.heap.size w wr ∧ valsB p ms j = true) (fun i _ _ => n - (intOf i).toNat)
      case atStart => exact ⟨0, Nat.zero_le _, rfl, HO.out, HB.out, rfl⟩
      case round =>
        obtain ⟨j, hj, rfl, hown, hb, hv⟩ := hrel
        have HV := hid hv
        have zr := hb.size
        clear hv
        by_cases hlt : j < n
        · obtain ⟨x0, f0⟩ : ∃ x, ms[j * 3]? = some x := ⟨_, List.getElem?_eq_getElem (by have := HL.out; omega)⟩
          obtain ⟨ro, f1⟩ : ∃ x, ms[j * 3 + 1]? = some x := ⟨_, List.getElem?_eq_getElem (by have := HL.out; omega)⟩
          obtain ⟨va, f2⟩ : ∃ x, ms[j * 3 + 2]? = some x := ⟨_, List.getElem?_eq_getElem (by have := HL.out; omega)⟩
          obtain ⟨b, off, rfl, hbB, hcl⟩ := HQ.out (by rw [ints_length]; have := HL.out; omega)
          have hd0 := (hb.cell (p := ⟨b, off + j * 3, none⟩) hbB).trans (hcl (j * 3) _ (ints_get f0))
          have hd1 := (hb.cell (p := ⟨b, off + j * 3 + 1, none⟩) hbB).trans (hcl (j * 3 + 1) _ (ints_get f1))
          have hd2 := (hb.cell (p := ⟨b, off + j * 3 + 2, none⟩) hbB).trans (hcl (j * 3 + 2) _ (ints_get f2))
          have F1 := hid f1
          have F2 := hid f2
          clear hcl f0 f1 f2
          cases hva : inB va 0 (p - 1)
          · have hel : elemB p va = false := by rw [elem_iff HP.out, hva]
            clear hown
            go_wp2_with (go_at_call 47; refine (sIsElement _ _ _).mono ?_; rintro e w' ⟨rfl, rfl⟩)
            go_ret
            exact givesInts_lit _ _ (coinsL_no (by rw [valsB_no hlt F2.out hva]; simp)) (World.size_alloc _ _).symm (by first | omega | (simp; omega)) rfl (by repeat (first | (with_reducible exact Below.refl _ _) | (with_reducible refine Below.trans ?_ (Below.mono (by assumption) (by first | omega | (simp; done) | (simp; omega) | (simp [*]; done)))) | (with_reducible refine Below.alloc ?_ (by first | omega | (simp; done) | (simp; omega) | (simp [*]; done)) _) | (with_reducible refine Below.setCell ?_ (by first | omega | (simp; done) | (simp; omega) | (simp [*]; done)) _) | (with_reducible refine Below.drew ?_) | (with_reducible refine below_drewN ?_)))
          have hel : elemB p va = true := by rw [elem_iff HP.out, hva]
          have HVA := hid hva
          clear hva
          cases hin : inB ro 0 (k - 1)
          · have HIN := hid hin
            have b_30 := hb
            have s_30 := b_30.size
            have o_in := own_in hown
            have o_30 := hown
            clear hown
            go_upto_region 12 with fail
            refine wp_forget1 (w0 := wr) (B := wr.heap.size) (b0 := wr.heap.size) (t0 := 23) (c0 := #[.int .i64 x0, .int .i64 ro, .int .i64 va]) ?_ ?_ ?_
            (focus (first | ((repeat (first | (with_reducible assumption) | (with_reducible apply Blk.drew) | (with_reducible apply Blk.drewN) | (with_reducible apply Blk.new; first | rfl | (simp; done)) | (with_reducible apply Blk.alloc) | (with_reducible apply Blk.set_) | (with_reducible apply Blk.past; focus assumption) | (with_reducible apply Blk.far; focus (first | (simp; done) | (simp; omega) | (dsimp only; omega))))); done) | (apply Blk.cast; (case h => (repeat (first | (with_reducible assumption) | (with_reducible apply Blk.drew) | (with_reducible apply Blk.drewN) | (with_reducible apply Blk.new; first | rfl | (simp; done)) | (with_reducible apply Blk.alloc) | (with_reducible apply Blk.set_) | (with_reducible apply Blk.past; focus assumption) | (with_reducible apply Blk.far; focus (first | (simp; done) | (simp; omega) | (dsimp only; omega)))))); (case e => rfl))))
            (focus (repeat (first | (with_reducible exact Below.refl _ _) | (with_reducible refine Below.trans ?_ (Below.mono (by assumption) (by first | omega | (simp; done) | (simp; omega) | (simp [*]; done)))) | (with_reducible refine Below.alloc ?_ (by first | omega | (simp; done) | (simp; omega) | (simp [*]; done)) _) | (with_reducible refine Below.setCell ?_ (by first | omega | (simp; done) | (simp; omega) | (simp [*]; done)) _) | (with_reducible refine Below.drew ?_) | (with_reducible refine below_drewN ?_))))
            intro w31 m_31 hX31
            have sX31 := hX31.size
            have m_lt := m_31.lt
            have b_31 := b_30.trans (hX31.mono (by omega))
            have o_31 := own_below o_30 hX31
            clear o_30 b_30 hX31
            have cell_m := m_31.cell
            have froz_m := m_31.frozen
            have lt_m := m_31.lt
            go_wp2_with fail
            refine calls_forget0 (W := w31) ?_ ?_
            (focus (repeat (first | (with_reducible exact Below.refl _ _) | (with_reducible refine Below.trans ?_ (Below.mono (by assumption) (by first | omega | (simp; done) | (simp; omega) | (simp [*]; done)))) | (with_reducible refine Below.alloc ?_ (by first | omega | (simp; done) | (simp; omega) | (simp [*]; done)) _) | (with_reducible refine Below.setCell ?_ (by first | omega | (simp; done) | (simp; omega) | (simp [*]; done)) _) | (with_reducible refine Below.drew ?_) | (with_reducible refine below_drewN ?_))))
            intro X32 hX32
            have sX32 := hX32.size
            refine (sIsElement _ _ _).mono ?_
            rintro e w' ⟨rfl, rfl⟩
            have b_32 := b_31.trans (hX32.mono (by omega))
            have o_32 := own_below o_31 hX32
            have m_32 := Blk.past hX32 m_31
            clear o_31 m_31 b_31 cell_m froz_m lt_m hX32
            have cell_m := m_32.cell
            have froz_m := m_32.frozen
            have lt_m := m_32.lt
            go_wp2_with fail
            refine calls_forget0 (W := X32) ?_ ?_
            (focus (repeat (first | (with_reducible exact Below.refl _ _) | (with_reducible refine Below.trans ?_ (Below.mono (by assumption) (by first | omega | (simp; done) | (simp; omega) | (simp [*]; done)))) | (with_reducible refine Below.alloc ?_ (by first | omega | (simp; done) | (simp; omega) | (simp [*]; done)) _) | (with_reducible refine Below.setCell ?_ (by first | omega | (simp; done) | (simp; omega) | (simp [*]; done)) _) | (with_reducible refine Below.drew ?_) | (with_reducible refine below_drewN ?_))))
            intro X33 hX33
            have sX33 := hX33.size
            refine (sWithin _ _ _ _).mono ?_
            rintro e w' ⟨rfl, rfl⟩
            have b_33 := b_32.trans (hX33.mono (by omega))
            have o_33 := own_below o_32 hX33
            have m_33 := Blk.past hX33 m_32
            clear o_32 m_32 b_32 cell_m froz_m lt_m hX33
            have cell_m := m_33.cell
            have froz_m := m_33.frozen
            have lt_m := m_33.lt
            go_wp2_with fail
            go_roundw
            case rel => exact ⟨j + 1, by omega, by go_num, by rw [coinsTo_out F1.out F2.out HIN.out]; (first | exact o_33 | (have o := o_33; repeat (first | (with_reducible assumption) | (with_reducible apply World.ownsRow.drew) | (with_reducible apply own_drewN) | (with_reducible apply World.ownsRow.alloc) | (with_reducible refine own_set ?_ _ _ (by first | omega | (simp; omega) | (dsimp only; omega)))))), by repeat (first | (with_reducible exact Below.refl _ _) | (with_reducible refine Below.trans ?_ (Below.mono (by assumption) (by first | omega | (simp; done) | (simp; omega) | (simp [*]; done)))) | (with_reducible refine Below.alloc ?_ (by first | omega | (simp; done) | (simp; omega) | (simp [*]; done)) _) | (with_reducible refine Below.setCell ?_ (by first | omega | (simp; done) | (simp; omega) | (simp [*]; done)) _) | (with_reducible refine Below.drew ?_) | (with_reducible refine below_drewN ?_)), valsB_succ HV.out F2.out HVA.out⟩
            case measure => simp [intOf]; omega
          · obtain ⟨ho0, ho1⟩ := inB_iff.1 hin
            obtain ⟨q, rfl⟩ := Int.eq_ofNat_of_zero_le ho0
            have hq : q < k := by omega
            have hqR : (q : Int) < (k : Int) := by omega
            have hCL := coinsTo_length p k ms j
            obtain ⟨y, hy⟩ : ∃ y, (coinsTo p k ms j)[q]? = some y := ⟨_, List.getElem?_eq_getElem (by rw [hCL]; simpa using hq)⟩
            have HY := hid hy
            have HIN := hid hin
            obtain ⟨g, rfl, hg0, hg1, hgc⟩ := own_at hown (by omega)
            clear hCL hy hgc
            have b_30 := hb
            have s_30 := b_30.size
            have o_in := own_in hown
            have o_30 := hown
            clear hown
            go_upto_region 12 with fail
            refine wp_forget1 (w0 := wr) (B := wr.heap.size) (b0 := wr.heap.size) (t0 := 23) (c0 := #[.int .i64 x0, .int .i64 q, .int .i64 va]) ?_ ?_ ?_
            (focus (first | ((repeat (first | (with_reducible assumption) | (with_reducible apply Blk.drew) | (with_reducible apply Blk.drewN) | (with_reducible apply Blk.new; first | rfl | (simp; done)) | (with_reducible apply Blk.alloc) | (with_reducible apply Blk.set_) | (with_reducible apply Blk.past; focus assumption) | (with_reducible apply Blk.far; focus (first | (simp; done) | (simp; omega) | (dsimp only; omega))))); done) | (apply Blk.cast; (case h => (repeat (first | (with_reducible assumption) | (with_reducible apply Blk.drew) | (with_reducible apply Blk.drewN) | (with_reducible apply Blk.new; first | rfl | (simp; done)) | (with_reducible apply Blk.alloc) | (with_reducible apply Blk.set_) | (with_reducible apply Blk.past; focus assumption) | (with_reducible apply Blk.far; focus (first | (simp; done) | (simp; omega) | (dsimp only; omega)))))); (case e => rfl))))
            (focus (repeat (first | (with_reducible exact Below.refl _ _) | (with_reducible refine Below.trans ?_ (Below.mono (by assumption) (by first | omega | (simp; done) | (simp; omega) | (simp [*]; done)))) | (with_reducible refine Below.alloc ?_ (by first | omega | (simp; done) | (simp; omega) | (simp [*]; done)) _) | (with_reducible refine Below.setCell ?_ (by first | omega | (simp; done) | (simp; omega) | (simp [*]; done)) _) | (with_reducible refine Below.drew ?_) | (with_reducible refine below_drewN ?_))))
            intro w31 m_31 hX31
            have sX31 := hX31.size
            have m_lt := m_31.lt
            have b_31 := b_30.trans (hX31.mono (by omega))
            have o_31 := own_below o_30 hX31
            clear o_30 b_30 hX31
            have cell_m := m_31.cell
            have froz_m := m_31.frozen
            have lt_m := m_31.lt
            go_wp2_with fail
            refine calls_forget0 (W := w31) ?_ ?_
            (focus (repeat (first | (with_reducible exact Below.refl _ _) | (with_reducible refine Below.trans ?_ (Below.mono (by assumption) (by first | omega | (simp; done) | (simp; omega) | (simp [*]; done)))) | (with_reducible refine Below.alloc ?_ (by first | omega | (simp; done) | (simp; omega) | (simp [*]; done)) _) | (with_reducible refine Below.setCell ?_ (by first | omega | (simp; done) | (simp; omega) | (simp [*]; done)) _) | (with_reducible refine Below.drew ?_) | (with_reducible refine below_drewN ?_))))
            intro X32 hX32
            have sX32 := hX32.size
            refine (sIsElement _ _ _).mono ?_
            rintro e w' ⟨rfl, rfl⟩
            have b_32 := b_31.trans (hX32.mono (by omega))
            have o_32 := own_below o_31 hX32
            have m_32 := Blk.past hX32 m_31
            clear o_31 m_31 b_31 cell_m froz_m lt_m hX32
            have cell_m := m_32.cell
            have froz_m := m_32.frozen
            have lt_m := m_32.lt
            go_wp2_with fail
            refine calls_forget0 (W := X32) ?_ ?_
            (focus (repeat (first | (with_reducible exact Below.refl _ _) | (with_reducible refine Below.trans ?_ (Below.mono (by assumption) (by first | omega | (simp; done) | (simp; omega) | (simp [*]; done)))) | (with_reducible refine Below.alloc ?_ (by first | omega | (simp; done) | (simp; omega) | (simp [*]; done)) _) | (with_reducible refine Below.setCell ?_ (by first | omega | (simp; done) | (simp; omega) | (simp [*]; done)) _) | (with_reducible refine Below.drew ?_) | (with_reducible refine below_drewN ?_))))
            intro X33 hX33
            have sX33 := hX33.size
            refine (sWithin _ _ _ _).mono ?_
            rintro e w' ⟨rfl, rfl⟩
            have b_33 := b_32.trans (hX33.mono (by omega))
            have o_33 := own_below o_32 hX33
            have m_33 := Blk.past hX33 m_32
            clear o_32 m_32 b_32 cell_m froz_m lt_m hX33
            have cell_m := m_33.cell
            have froz_m := m_33.frozen
            have lt_m := m_33.lt
            go_upto_region 15 with fail
            have hcy : X33.cell? ⟨g, q, none⟩ = some (.int .i64 y) := by
              rw [o_33.cellAt q (by omega)]
              exact ints_get HY.out
            have hfy := o_33.frozenAt q
            have hst := (o_33.drew.stored q (.int .i64 (addI p y va))).1
            rw [ints_set] at hst
            have HST := hid hst
            have HBB := hid b_33
            clear o_33 b_33 hb hst
            go_still_tail 13, (by kernel_rfl)
            still_call (sFAdd_y _ _ _ _ _ HP.out)
            repeat still_step
            try refine wpStill_nil ?_
            go_wp2_with fail
            go_roundw
            case rel => exact ⟨j + 1, by omega, by go_num, by rw [coinsTo_in F1.out F2.out HIN.out, show (q : Int).toNat = q from rfl, getD_some HY.out]; (first | exact HST.out | (have hs := HST.out; repeat (first | (with_reducible assumption) | (with_reducible apply World.ownsRow.drew) | (with_reducible apply own_drewN) | (with_reducible apply World.ownsRow.alloc) | (with_reducible refine own_set ?_ _ _ (by first | omega | (simp; omega) | (dsimp only; omega)))))), by (have hb := HBB.out); repeat (first | (with_reducible exact Below.refl _ _) | (with_reducible refine Below.trans ?_ (Below.mono (by assumption) (by first | omega | (simp; done) | (simp; omega) | (simp [*]; done)))) | (with_reducible refine Below.alloc ?_ (by first | omega | (simp; done) | (simp; omega) | (simp [*]; done)) _) | (with_reducible refine Below.setCell ?_ (by first | omega | (simp; done) | (simp; omega) | (simp [*]; done)) _) | (with_reducible refine Below.drew ?_) | (with_reducible refine below_drewN ?_)), valsB_succ HV.out F2.out HVA.out⟩
            case measure => simp [intOf]; omega
        · obtain rfl : j = n := by omega
          have HO2 := hid hown
          have HB2 := hid hb
          clear hown hb
          go_wp2_with fail
          go_ret
          have e := coinsL_yes HP.out HR.out HV.out
          have el : (coinsL p k ms j).length = k := by rw [e, coinsTo_length]; rfl
          unfold GivesInts
          rw [el, e]
          exact ⟨A2, c2, rfl, HO2.out, HB2.out⟩
end Go.Proofs.Ytgkkljcboicipaa
