/- The coins of a run, in the program and in the reference. -/
import Derived.Test.YtgkkljcboicipaaCoins
namespace Go.Proofs.Ytgkkljcboicipaa
open Go.RowKit

/-! plain -/
noncomputable def coinStep (p r : Int) (out : List Int) (ro va : Int) : List Int := if inB ro 0 (r - 1) then out.set ro.toNat (addI p (out.getD ro.toNat 0) va) else out
noncomputable def coinsTo (p r : Int) (ms : List Int) : Nat → List Int
  | 0 => List.replicate r.toNat 0
  | j + 1 => coinStep p r (coinsTo p r ms j) (ms.getD (j * 3 + 1) 0) (ms.getD (j * 3 + 2) 0)
theorem coinStep_length (p r : Int) (out : List Int) (ro va : Int) : (coinStep p r out ro va).length = out.length := by
  unfold coinStep
  split <;> simp
theorem coinsTo_length (p r : Int) (ms : List Int) (j : Nat) : (coinsTo p r ms j).length = r.toNat := by
  induction j with
  | zero => simp [coinsTo]
  | succ j ih => rw [coinsTo, coinStep_length, ih]
theorem coinsTo_in {p r ro va : Int} {ms : List Int} {j : Nat} (h1 : ms[j * 3 + 1]? = some ro) (h2 : ms[j * 3 + 2]? = some va) (h : inB ro 0 (r - 1) = true) :
    coinsTo p r ms (j + 1) = (coinsTo p r ms j).set ro.toNat (addI p ((coinsTo p r ms j).getD ro.toNat 0) va) := by
  rw [coinsTo, getD_some h1, getD_some h2]
  unfold coinStep
  rw [h]
  rfl
theorem coinsTo_out {p r ro va : Int} {ms : List Int} {j : Nat} (h1 : ms[j * 3 + 1]? = some ro) (h2 : ms[j * 3 + 2]? = some va) (h : inB ro 0 (r - 1) = false) :
    coinsTo p r ms (j + 1) = coinsTo p r ms j := by
  rw [coinsTo, getD_some h1, getD_some h2]
  unfold coinStep
  rw [h]
  rfl
def valsB (p : Int) (ms : List Int) (n : Nat) : Bool := (List.range n).all fun i => inB (ms.getD (i * 3 + 2) 0) 0 (p - 1)
theorem valsB_succ {p va : Int} {ms : List Int} {j : Nat} (h : valsB p ms j = true) (h2 : ms[j * 3 + 2]? = some va) (hv : inB va 0 (p - 1) = true) : valsB p ms (j + 1) = true := by
  unfold valsB at *
  rw [List.range_succ, List.all_append, h]
  simp [h2, hv]
theorem valsB_no {p va : Int} {ms : List Int} {j n : Nat} (hj : j < n) (h2 : ms[j * 3 + 2]? = some va) (hv : inB va 0 (p - 1) = false) : valsB p ms n = false := by
  unfold valsB
  rw [List.all_eq_false]
  exact ⟨j, List.mem_range.2 hj, by rw [getD_some h2, hv]; simp⟩
noncomputable def coinsL (p r : Int) (ms : List Int) (n : Nat) : List Int := if fieldOkB p && inB r 0 12 && valsB p ms n then coinsTo p r ms n else []
theorem coinsL_no {p r : Int} {ms : List Int} {n : Nat} (h : (fieldOkB p && inB r 0 12 && valsB p ms n) = false) : coinsL p r ms n = [] := by unfold coinsL; rw [h]; rfl
theorem coinsL_yes {p r : Int} {ms : List Int} {n : Nat} (h1 : fieldOkB p = true) (h2 : inB r 0 12 = true) (h3 : valsB p ms n = true) : coinsL p r ms n = coinsTo p r ms n := by unfold coinsL; rw [h1, h2, h3]; rfl
theorem coinsL_length (p r : Int) (ms : List Int) (n : Nat) : (coinsL p r ms n).length ≤ 12 := by
  unfold coinsL
  split
  · next h =>
    simp only [Bool.and_eq_true] at h
    have := inB_iff.1 h.1.2
    rw [coinsTo_length]
    omega
  · simp
theorem givesInts_nil (w : World) (xs : List Int) (h : xs = []) {w' : World} (hb : Below w.heap.size w w') : GivesInts w xs (.returned (.slice none 0 0)) w' := by
  subst h
  exact ⟨none, 0, rfl, World.ownsRow_nil _ _ _ _, hb⟩
theorem made1 (n : Nat) : (madeCells #[Value.int IntKind.i64 0] n).toList = ints (List.replicate n 0) := by
  have h : (madeCells #[Value.int IntKind.i64 0] n).toList = List.replicate n (.int .i64 0) := made_all _ _ _ fun q => by
    show #[Value.int IntKind.i64 0][q % 1]! = _
    rw [Nat.mod_one]
    rfl
  rw [h]
  simp [ints]
theorem ints_set (xs : List Int) (k : Nat) (x : Int) : (ints xs).set k (.int .i64 x) = ints (xs.set k x) := by simp [ints, List.map_set]

/-! walks -/
set_option maxRecDepth 100000 in
set_option maxHeartbeats 3200000 in
theorem iCoinsOf (p : Int) (B : Option Addr) (d n : Nat) (ms : List Int) (r : Int) (w : World) (hq : Cells w w.heap.size B (ints ms)) (hl : ms.length = n * 3) (hn : n ≤ 1000000000) :
    Calls Try.prog 22 #[.int .i64 p, .slice B n d, .int .i64 r] w (GivesInts w (coinsL p r ms n)) := by
  have HL := hid hl
  have HQ := hid hq
  clear hl hq
  cases hp : fieldOkB p
  · go_enter Try.func22, Try.ntmps22
    go_wp2_with (go_at_call 38; refine (iFieldOk _ _).mono ?_; rintro e w' ⟨rfl, rfl⟩)
    go_ret
    exact givesInts_nil _ _ (coinsL_no (by rw [hp]; rfl)) (Below.refl _ _)
  cases hr : inB r 0 12
  · go_enter Try.func22, Try.ntmps22
    go_wp2_with (first | (go_at_call 38; refine (iFieldOk _ _).mono ?_; rintro e w' ⟨rfl, rfl⟩) | (go_at_call 40; refine (iWithin _ _ _ _).mono ?_; rintro e w' ⟨rfl, rfl⟩))
    go_ret
    exact givesInts_nil _ _ (coinsL_no (by rw [hr]; simp)) (Below.refl _ _)
  obtain ⟨hr0, hr1⟩ := inB_iff.1 hr
  obtain ⟨R, rfl⟩ := Int.eq_ofNat_of_zero_le hr0
  obtain ⟨i0, hi, hz0, hz1, hz2⟩ := info_parts infoInt
  go_enter Try.func22, Try.ntmps22
  go_wp2_with (first | (go_at_call 38; refine (iFieldOk _ _).mono ?_; rintro e w' ⟨rfl, rfl⟩) | (go_at_call 40; refine (iWithin _ _ _ _).mono ?_; rintro e w' ⟨rfl, rfl⟩) | (at_make; refine wpList_make_full _ rfl _ _ 30 rfl w.heap.size 3 i0 (.int .i64 0) 1 Try.underlying30 hi hz0 hz1 _ _ _ _ R rfl rfl rfl rfl (by rw [hz2]; omega) (by unfold maxLen; omega) (Nat.le_refl _) ?_))
  intro w1 hown1 hg1
  have hb1 : Below w.heap.size w w1 := (Below.refl _ _).grown hg1 (Nat.le_refl _) (fun k hk => by cases hk)
  have hsz1 := hb1.size
  rw [made1] at hown1
  have HO := hid hown1
  have HB := hid hb1
  have HP := hid hp
  have HR := hid hr
  obtain ⟨hp0, hp1⟩ := field_range hp
  clear hi hz0 hz1 hz2 hg1 hown1 hb1 hp hr
  go_wp2_with fail
  go_loopw [9, 22] (fun _ i wr => ∃ j : Nat, j ≤ n ∧ i = .int .i64 j ∧ wr.ownsRow w.heap.size 3 1 (.slice (some ⟨w.heap.size, 0, none⟩) R R) R (ints (coinsTo p R ms j)) ∧ Below w.heap.size w wr ∧ valsB p ms j = true) (fun _ i _ => n - (intOf i).toNat)
  case atStart => exact ⟨0, Nat.zero_le _, rfl, HO.out, HB.out, rfl⟩
  case round =>
    obtain ⟨j, hj, rfl, hown, hb, hv⟩ := hrel
    have HV := hid hv
    have zr := hb.size
    have hz1 : w.heap.size < wr.heap.size := (hown.lt w.heap.size rfl).2
    clear hv
    by_cases hlt : j < n
    · obtain ⟨x0, f0⟩ : ∃ x, ms[j * 3]? = some x := ⟨_, List.getElem?_eq_getElem (by have := HL.out; omega)⟩
      obtain ⟨ro, f1⟩ : ∃ x, ms[j * 3 + 1]? = some x := ⟨_, List.getElem?_eq_getElem (by have := HL.out; omega)⟩
      obtain ⟨va, f2⟩ : ∃ x, ms[j * 3 + 2]? = some x := ⟨_, List.getElem?_eq_getElem (by have := HL.out; omega)⟩
      obtain ⟨b, off, rfl, hbB, hcl⟩ := HQ.out (by rw [ints_length]; have := HL.out; omega)
      have hd0 := (hb.cell (p := ⟨b, off + j * 3, none⟩) hbB).trans (hcl (j * 3) _ (ints_get f0))
      have hd1 := (hb.cell (p := ⟨b, off + j * 3 + 1, none⟩) hbB).trans (hcl (j * 3 + 1) _ (ints_get f1))
      have hd2 := (hb.cell (p := ⟨b, off + j * 3 + 2, none⟩) hbB).trans (hcl (j * 3 + 2) _ (ints_get f2))
      have F1 := hid f1
      have F2 := hid f2
      clear hcl f0 f1 f2
      cases hva : inB va 0 (p - 1)
      · have hel : elemB p va = false := by rw [elem_iff HP.out, hva]
        clear hown
        go_wp2_with (go_at_call 50; refine (iIsElement _ _ _).mono ?_; rintro e w' ⟨rfl, rfl⟩)
        go_ret
        refine givesInts_nil _ _ (coinsL_no (by rw [valsB_no hlt F2.out hva]; simp)) ?_
        repeat (first | (with_reducible exact Below.refl _ _) | (with_reducible refine Below.trans ?_ (Below.mono (by assumption) (by first | omega | (simp; done) | (simp; omega) | (simp [*]; done)))) | (with_reducible refine Below.alloc ?_ (by first | omega | (simp; done) | (simp; omega) | (simp [*]; done)) _) | (with_reducible refine Below.setCell ?_ (by first | omega | (simp; done) | (simp; omega) | (simp [*]; done)) _) | (with_reducible refine Below.drew ?_) | (with_reducible refine below_drewN ?_))
      have hel : elemB p va = true := by rw [elem_iff HP.out, hva]
      have HVA := hid hva
      have hro : ro - 0 = ro := by omega
      clear hro hva
      cases hin : inB ro 0 (R - 1)
      · have HIN := hid hin
        have b_30 := hb
        have s_30 := b_30.size
        have o_in := own_in hown
        have o_30 := hown
        clear hown
        go_upto_region 7 with fail
        refine wp_forget1 (w0 := wr) (B := wr.heap.size) (b0 := wr.heap.size) (t0 := 23) (c0 := #[.int .i64 x0, .int .i64 ro, .int .i64 va]) ?_ ?_ ?_
        (focus (first | ((repeat (first | (with_reducible assumption) | (with_reducible apply Blk.drew) | (with_reducible apply Blk.drewN) | (with_reducible apply Blk.new; first | rfl | (simp; done)) | (with_reducible apply Blk.alloc) | (with_reducible apply Blk.set_) | (with_reducible apply Blk.past; focus assumption) | (with_reducible apply Blk.far; focus (first | (simp; done) | (simp; omega) | (dsimp only; omega))))); done) | (apply Blk.cast; (case h => (repeat (first | (with_reducible assumption) | (with_reducible apply Blk.drew) | (with_reducible apply Blk.drewN) | (with_reducible apply Blk.new; first | rfl | (simp; done)) | (with_reducible apply Blk.alloc) | (with_reducible apply Blk.set_) | (with_reducible apply Blk.past; focus assumption) | (with_reducible apply Blk.far; focus (first | (simp; done) | (simp; omega) | (dsimp only; omega)))))); (case e => rfl))))
        (focus (repeat (first | (with_reducible exact Below.refl _ _) | (with_reducible refine Below.trans ?_ (Below.mono (by assumption) (by first | omega | (simp; done) | (simp; omega) | (simp [*]; done)))) | (with_reducible refine Below.alloc ?_ (by first | omega | (simp; done) | (simp; omega) | (simp [*]; done)) _) | (with_reducible refine Below.setCell ?_ (by first | omega | (simp; done) | (simp; omega) | (simp [*]; done)) _) | (with_reducible refine Below.drew ?_) | (with_reducible refine below_drewN ?_))))
        intro w31 m_31 hX31
        have sX31 := hX31.size
        have m_lt := m_31.lt
        have b_31 := b_30.trans (hX31.mono (by omega))
        have o_31 := own_below o_30 hX31
        clear o_30 b_30 hX31
        have cell_m := m_31.cell
        have froz_m := m_31.frozen
        have lt_m := m_31.lt
        go_wp2_with fail
        refine calls_forget0 (W := w31) ?_ ?_
        (focus (repeat (first | (with_reducible exact Below.refl _ _) | (with_reducible refine Below.trans ?_ (Below.mono (by assumption) (by first | omega | (simp; done) | (simp; omega) | (simp [*]; done)))) | (with_reducible refine Below.alloc ?_ (by first | omega | (simp; done) | (simp; omega) | (simp [*]; done)) _) | (with_reducible refine Below.setCell ?_ (by first | omega | (simp; done) | (simp; omega) | (simp [*]; done)) _) | (with_reducible refine Below.drew ?_) | (with_reducible refine below_drewN ?_))))
        intro X32 hX32
        have sX32 := hX32.size
        refine (iIsElement _ _ _).mono ?_
        rintro e w' ⟨rfl, rfl⟩
        have b_32 := b_31.trans (hX32.mono (by omega))
        have o_32 := own_below o_31 hX32
        have m_32 := Blk.past hX32 m_31
        clear o_31 m_31 b_31 cell_m froz_m lt_m hX32
        have cell_m := m_32.cell
        have froz_m := m_32.frozen
        have lt_m := m_32.lt
        go_wp2_with fail
        refine calls_forget0 (W := X32) ?_ ?_
        (focus (repeat (first | (with_reducible exact Below.refl _ _) | (with_reducible refine Below.trans ?_ (Below.mono (by assumption) (by first | omega | (simp; done) | (simp; omega) | (simp [*]; done)))) | (with_reducible refine Below.alloc ?_ (by first | omega | (simp; done) | (simp; omega) | (simp [*]; done)) _) | (with_reducible refine Below.setCell ?_ (by first | omega | (simp; done) | (simp; omega) | (simp [*]; done)) _) | (with_reducible refine Below.drew ?_) | (with_reducible refine below_drewN ?_))))
        intro X33 hX33
        have sX33 := hX33.size
        refine (iWithin _ _ _ _).mono ?_
        rintro e w' ⟨rfl, rfl⟩
        have b_33 := b_32.trans (hX33.mono (by omega))
        have o_33 := own_below o_32 hX33
        have m_33 := Blk.past hX33 m_32
        clear o_32 m_32 b_32 cell_m froz_m lt_m hX33
        have cell_m := m_33.cell
        have froz_m := m_33.frozen
        have lt_m := m_33.lt
        go_wp2_with fail
        go_roundw
        case rel => exact ⟨j + 1, by omega, by go_num, by rw [coinsTo_out F1.out F2.out HIN.out]; (first | exact o_33 | (have o := o_33; repeat (first | (with_reducible assumption) | (with_reducible apply World.ownsRow.drew) | (with_reducible apply own_drewN) | (with_reducible apply World.ownsRow.alloc) | (with_reducible refine own_set ?_ _ _ (by first | omega | (simp; omega) | (dsimp only; omega)))))), by repeat (first | (with_reducible exact Below.refl _ _) | (with_reducible refine Below.trans ?_ (Below.mono (by assumption) (by first | omega | (simp; done) | (simp; omega) | (simp [*]; done)))) | (with_reducible refine Below.alloc ?_ (by first | omega | (simp; done) | (simp; omega) | (simp [*]; done)) _) | (with_reducible refine Below.setCell ?_ (by first | omega | (simp; done) | (simp; omega) | (simp [*]; done)) _) | (with_reducible refine Below.drew ?_) | (with_reducible refine below_drewN ?_)), valsB_succ HV.out F2.out HVA.out⟩
        case measure => simp [intOf]; omega
      · obtain ⟨ho0, ho1⟩ := inB_iff.1 hin
        obtain ⟨k, rfl⟩ := Int.eq_ofNat_of_zero_le ho0
        have hk : k < R := by omega
        have hkR : (k : Int) < (R : Int) := by omega
        have hCL := coinsTo_length p R ms j
        obtain ⟨y, hy⟩ : ∃ y, (coinsTo p R ms j)[k]? = some y := ⟨_, List.getElem?_eq_getElem (by rw [hCL]; simpa using hk)⟩
        have HY := hid hy
        have HIN := hid hin
        clear hCL hy
        have b_30 := hb
        have s_30 := b_30.size
        have o_in := own_in hown
        have o_30 := hown
        clear hown
        go_upto_region 7 with fail
        refine wp_forget1 (w0 := wr) (B := wr.heap.size) (b0 := wr.heap.size) (t0 := 23) (c0 := #[.int .i64 x0, .int .i64 k, .int .i64 va]) ?_ ?_ ?_
        (focus (first | ((repeat (first | (with_reducible assumption) | (with_reducible apply Blk.drew) | (with_reducible apply Blk.drewN) | (with_reducible apply Blk.new; first | rfl | (simp; done)) | (with_reducible apply Blk.alloc) | (with_reducible apply Blk.set_) | (with_reducible apply Blk.past; focus assumption) | (with_reducible apply Blk.far; focus (first | (simp; done) | (simp; omega) | (dsimp only; omega))))); done) | (apply Blk.cast; (case h => (repeat (first | (with_reducible assumption) | (with_reducible apply Blk.drew) | (with_reducible apply Blk.drewN) | (with_reducible apply Blk.new; first | rfl | (simp; done)) | (with_reducible apply Blk.alloc) | (with_reducible apply Blk.set_) | (with_reducible apply Blk.past; focus assumption) | (with_reducible apply Blk.far; focus (first | (simp; done) | (simp; omega) | (dsimp only; omega)))))); (case e => rfl))))
        (focus (repeat (first | (with_reducible exact Below.refl _ _) | (with_reducible refine Below.trans ?_ (Below.mono (by assumption) (by first | omega | (simp; done) | (simp; omega) | (simp [*]; done)))) | (with_reducible refine Below.alloc ?_ (by first | omega | (simp; done) | (simp; omega) | (simp [*]; done)) _) | (with_reducible refine Below.setCell ?_ (by first | omega | (simp; done) | (simp; omega) | (simp [*]; done)) _) | (with_reducible refine Below.drew ?_) | (with_reducible refine below_drewN ?_))))
        intro w31 m_31 hX31
        have sX31 := hX31.size
        have m_lt := m_31.lt
        have b_31 := b_30.trans (hX31.mono (by omega))
        have o_31 := own_below o_30 hX31
        clear o_30 b_30 hX31
        have cell_m := m_31.cell
        have froz_m := m_31.frozen
        have lt_m := m_31.lt
        go_wp2_with fail
        refine calls_forget0 (W := w31) ?_ ?_
        (focus (repeat (first | (with_reducible exact Below.refl _ _) | (with_reducible refine Below.trans ?_ (Below.mono (by assumption) (by first | omega | (simp; done) | (simp; omega) | (simp [*]; done)))) | (with_reducible refine Below.alloc ?_ (by first | omega | (simp; done) | (simp; omega) | (simp [*]; done)) _) | (with_reducible refine Below.setCell ?_ (by first | omega | (simp; done) | (simp; omega) | (simp [*]; done)) _) | (with_reducible refine Below.drew ?_) | (with_reducible refine below_drewN ?_))))
        intro X32 hX32
        have sX32 := hX32.size
        refine (iIsElement _ _ _).mono ?_
        rintro e w' ⟨rfl, rfl⟩
        have b_32 := b_31.trans (hX32.mono (by omega))
        have o_32 := own_below o_31 hX32
        have m_32 := Blk.past hX32 m_31
        clear o_31 m_31 b_31 cell_m froz_m lt_m hX32
        have cell_m := m_32.cell
        have froz_m := m_32.frozen
        have lt_m := m_32.lt
        go_wp2_with fail
        refine calls_forget0 (W := X32) ?_ ?_
        (focus (repeat (first | (with_reducible exact Below.refl _ _) | (with_reducible refine Below.trans ?_ (Below.mono (by assumption) (by first | omega | (simp; done) | (simp; omega) | (simp [*]; done)))) | (with_reducible refine Below.alloc ?_ (by first | omega | (simp; done) | (simp; omega) | (simp [*]; done)) _) | (with_reducible refine Below.setCell ?_ (by first | omega | (simp; done) | (simp; omega) | (simp [*]; done)) _) | (with_reducible refine Below.drew ?_) | (with_reducible refine below_drewN ?_))))
        intro X33 hX33
        have sX33 := hX33.size
        refine (iWithin _ _ _ _).mono ?_
        rintro e w' ⟨rfl, rfl⟩
        have b_33 := b_32.trans (hX33.mono (by omega))
        have o_33 := own_below o_32 hX33
        have m_33 := Blk.past hX33 m_32
        clear o_32 m_32 b_32 cell_m froz_m lt_m hX33
        have cell_m := m_33.cell
        have froz_m := m_33.frozen
        have lt_m := m_33.lt
        go_upto_region 10 with fail
        have hcy : X33.cell? ⟨w.heap.size, k, none⟩ = some (.int .i64 y) := by
          rw [o_33.cellAt k (by omega)]
          exact ints_get HY.out
        have HOO := hid o_33
        have HBB := hid b_33
        have hwl : w.heap.size < X33.heap.size := by omega
        clear o_33 b_33 hb
        go_region_with ((go_at_call 51; refine (iFAdd _ _ _ _ HP.out).mono ?_; rintro e w2 ⟨rfl, hb2⟩; have hX : Below X33.heap.size X33 w2 := (by repeat (first | (with_reducible exact Below.refl _ _) | (with_reducible refine Below.trans ?_ (Below.mono (by assumption) (by first | omega | (simp; done) | (simp; omega) | (simp [*]; done)))) | (with_reducible refine Below.alloc ?_ (by first | omega | (simp; done) | (simp; omega) | (simp [*]; done)) _) | (with_reducible refine Below.setCell ?_ (by first | omega | (simp; done) | (simp; omega) | (simp [*]; done)) _) | (with_reducible refine Below.drew ?_) | (with_reducible refine below_drewN ?_))); have hcw := cell_kept hcy hX hwl; have hfw := (own_below HOO.out hX).frozenAt k; have hm1 := cell_kept (m_33.cell 1) hX lt_m; have hm2 := cell_kept (m_33.cell 2) hX lt_m))
        all_goals
          have hst := ((own_below HOO.out hX).stored k (.int .i64 (addI p y va))).1
          rw [ints_set] at hst
          have hbs : Below w.heap.size w (w2.setCell ⟨w.heap.size, k, none⟩ (.int .i64 (addI p y va))) := by
            have hb := HBB.out
            repeat (first | (with_reducible exact Below.refl _ _) | (with_reducible refine Below.trans ?_ (Below.mono (by assumption) (by first | omega | (simp; done) | (simp; omega) | (simp [*]; done)))) | (with_reducible refine Below.alloc ?_ (by first | omega | (simp; done) | (simp; omega) | (simp [*]; done)) _) | (with_reducible refine Below.setCell ?_ (by first | omega | (simp; done) | (simp; omega) | (simp [*]; done)) _) | (with_reducible refine Below.drew ?_) | (with_reducible refine below_drewN ?_))
          have HST := hid hst
          have HBS := hid hbs
          clear hst hbs hX hb2 hcw hfw hm1 hm2
          go_wp2_with fail
          go_roundw
          case rel => exact ⟨j + 1, by omega, by go_num, by rw [coinsTo_in F1.out F2.out HIN.out, show (k : Int).toNat = k from rfl, getD_some HY.out]; exact HST.out, HBS.out, valsB_succ HV.out F2.out HVA.out⟩
          case measure => simp [intOf]; omega
    · obtain rfl : j = n := by omega
      have HO2 := hid hown
      have HB2 := hid hb
      clear hown hb
      go_wp2_with fail
      go_ret
      have e := coinsL_yes HP.out HR.out HV.out
      have el : (coinsL p R ms j).length = R := by rw [e, coinsTo_length]; rfl
      unfold GivesInts
      rw [el, e]
      exact ⟨some ⟨w.heap.size, 0, none⟩, R, rfl, HO2.out, HB2.out⟩
end Go.Proofs.Ytgkkljcboicipaa
