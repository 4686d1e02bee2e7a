/- Whether there is an honest run, and the honest run, in the program and in the reference. -/
import Derived.Test.YtgkkljcboicipaaJudge
import Derived.Test.YtgkkljcboicipaaMsgS
import Derived.Test.YtgkkljcboicipaaIntS
namespace Go.Proofs.Ytgkkljcboicipaa
open Go.RowKit

/-! plain -/
noncomputable def mayB (p : Int) (xs : List Int) (r : Int) : Bool := wordsB xs && (fieldOkB p && inB xs.length 1 5 && inB r 0 12)
theorem mayB_words {p r : Int} {xs : List Int} (h : wordsB xs = false) : mayB p xs r = false := by unfold mayB; rw [h]; rfl
theorem mayB_rest {p r : Int} {xs : List Int} (h : wordsB xs = true) : mayB p xs r = (fieldOkB p && inB xs.length 1 5 && inB r 0 12) := by unfold mayB; rw [h]; rfl
structure May (p : Int) (xs : List Int) (r : Int) : Prop where
  words : wordsB xs = true
  field : fieldOkB p = true
  n1 : 1 ≤ xs.length
  n5 : xs.length ≤ 5
  r0 : 0 ≤ r
  r12 : r ≤ 12
theorem mayB_of {p r : Int} {xs : List Int} (h : mayB p xs r = true) : May p xs r := by
  unfold mayB at h
  simp only [Bool.and_eq_true] at h
  have h1 := inB_iff.1 h.2.1.2
  have h2 := inB_iff.1 h.2.2
  exact ⟨h.1, h.2.1.1, by omega, by omega, h2.1, h2.2⟩
theorem word_at {xs : List Int} {j : Nat} {x : Int} (h : wordsB xs = true) (hx : xs[j]? = some x) : isWordB x = true := by
  unfold wordsB at h
  rw [List.all_eq_true] at h
  exact h x (List.mem_of_getElem? hx)
theorem msgB_may {p r x : Int} {xs : List Int} {j k : Nat} (h : May p xs r) (hx : xs[j]? = some x) (hk : (k : Int) < r) : msgB p x j k = true := by
  have hj := (List.getElem?_eq_some_iff.1 hx).1
  have h5 := h.n5
  have hr := h.r12
  have e1 : inB (j : Int) 0 4 = true := inB_iff.2 (by omega)
  have e2 : inB (k : Int) 0 11 = true := inB_iff.2 (by omega)
  unfold msgB
  rw [h.field, word_at h.words hx, e1, e2]
  rfl
def msg3 (p x : Int) (j k : Nat) : List Int := [(j : Int), (k : Int), belowI x k p]
def honRow (p : Int) (xs : List Int) (k : Nat) : Nat → List Int
  | 0 => []
  | j + 1 => honRow p xs k j ++ msg3 p (xs.getD j 0) j k
def honTo (p : Int) (xs : List Int) : Nat → List Int
  | 0 => []
  | k + 1 => honTo p xs k ++ honRow p xs k xs.length
theorem honRow_length (p : Int) (xs : List Int) (k j : Nat) : (honRow p xs k j).length = j * 3 := by
  induction j with
  | zero => rfl
  | succ j ih => simp [honRow, ih, msg3]; omega
theorem honTo_length (p : Int) (xs : List Int) (k : Nat) : (honTo p xs k).length = k * xs.length * 3 := by
  induction k with
  | zero => simp [honTo]
  | succ k ih => simp only [honTo, List.length_append, ih, honRow_length, Nat.add_mul, Nat.one_mul]
theorem honRow_succ {p x : Int} {xs : List Int} {k j : Nat} (h : xs[j]? = some x) : honRow p xs k (j + 1) = honRow p xs k j ++ msg3 p x j k := by
  show honRow p xs k j ++ msg3 p (xs.getD j 0) j k = _
  rw [List.getD_eq_getElem?_getD, h]
  rfl
noncomputable def honN (p : Int) (xs : List Int) (r : Int) : Nat := if mayB p xs r then r.toNat * xs.length else 0
noncomputable def honL (p : Int) (xs : List Int) (r : Int) : List Int := if mayB p xs r then honTo p xs r.toNat else []
theorem honL_length (p : Int) (xs : List Int) (r : Int) : (honL p xs r).length = honN p xs r * 3 := by
  unfold honL honN
  split
  · exact honTo_length _ _ _
  · rfl
theorem honN_le (p : Int) (xs : List Int) (r : Int) : honN p xs r ≤ 60 := by
  unfold honN
  split
  · next h =>
    have h' := mayB_of h
    have h5 := h'.n5
    have hr := h'.r12
    have h0 := h'.r0
    exact Nat.mul_le_mul (show r.toNat ≤ 12 by omega) h5
  · omega
theorem hon_no {p r : Int} {xs : List Int} (h : mayB p xs r = false) : honN p xs r = 0 ∧ honL p xs r = [] := by
  unfold honN honL
  rw [h]
  exact ⟨rfl, rfl⟩
theorem hon_yes {p r : Int} {xs : List Int} (h : mayB p xs r = true) : honN p xs r = r.toNat * xs.length ∧ honL p xs r = honTo p xs r.toNat := by
  unfold honN honL
  rw [h]
  exact ⟨rfl, rfl⟩
theorem ints_three (a b c : Int) : ints [a, b, c] = [.int .i64 a, .int .i64 b, .int .i64 c] := rfl
theorem ints_append (xs ys : List Int) : ints (xs ++ ys) = ints xs ++ ints ys := by simp [ints]
theorem msg_one (p x : Int) (j k : Nat) : ∀ u ∈ ints (msg3 p x j k), u.oneCell' = true := ints_one _

/-! walks -/
theorem iMayRun (p : Int) (A : Option Addr) (c : Nat) (xs : List Int) (r : Int) (w : World) (hc : Cells w w.heap.size A (ints xs)) (hn : xs.length ≤ 1000000000) :
    Calls Try.prog 46 #[.int .i64 p, .slice A xs.length c, .int .i64 r] w fun e w' => e = .returned (.bool (mayB p xs r)) ∧ w = w' := by
  go_enter Try.func46, Try.ntmps46
  go_wp2
  go_loop [8, 11] (fun _ i => ∃ j : Nat, j ≤ xs.length ∧ i = .int .i64 j ∧ wordsB (xs.take j) = true) (fun _ i => xs.length - (intOf i).toNat)
  case atStart => exact ⟨0, Nat.zero_le _, rfl, rfl⟩
  case round =>
    obtain ⟨j, hj, rfl, hw⟩ := hrel
    by_cases hlt : j < xs.length
    · obtain ⟨x, hx⟩ : ∃ x, xs[j]? = some x := ⟨_, List.getElem?_eq_getElem hlt⟩
      obtain ⟨b, off, rfl, hB, hcl⟩ := hc (by rw [ints_length]; omega)
      have hcell : w.cell? ⟨b, off + j, none⟩ = some (.int .i64 x) := hcl j _ (ints_get hx)
      have HW := hid hw
      have HX := hid hx
      clear hcl hc hw hx
      cases hb : isWordB x
      · go_wp2_with (go_at_call 39; refine (iIsWord _ _).mono ?_; rintro e w' ⟨rfl, rfl⟩)
        go_ret
        exact ⟨ret_bool (by rw [mayB_words (wordsB_no HX.out hb)]), rfl⟩
      · go_wp2_with (go_at_call 39; refine (iIsWord _ _).mono ?_; rintro e w' ⟨rfl, rfl⟩)
        go_round
        case rel => exact ⟨j + 1, by omega, by go_num, wordsB_snoc HX.out HW.out hb⟩
        case measure => simp [intOf]; omega
    · obtain rfl : j = xs.length := by omega
      rw [List.take_length] at hw
      have HE := hid (mayB_rest (p := p) (r := r) hw)
      clear hw
      cases h1 : fieldOkB p; rotate_left
      cases h2 : inB xs.length 1 5
      all_goals
        go_wp2_with (first | (go_at_call 38; refine (iFieldOk _ _).mono ?_; rintro e w' ⟨rfl, rfl⟩) | (go_at_call 40; refine (iWithin _ _ _ _).mono ?_; rintro e w' ⟨rfl, rfl⟩))
        go_ret
        exact ⟨ret_bool (by rw [HE.out]; simp [*]), rfl⟩
theorem sMayRun (p : Int) (A : Option Addr) (c : Nat) (xs : List Int) (r : Int) (w : World) (hc : Cells w w.heap.size A (ints xs)) (hn : xs.length ≤ 1000000000) :
    Calls Try.prog 52 #[.int .i64 p, .slice A xs.length c, .int .i64 r] w fun e w' => e = .returned (.bool (mayB p xs r)) ∧ w = w' := by
  go_enter Try.func52, Try.ntmps52
  go_wp2
  go_loop [7] (fun i => ∃ j : Nat, j ≤ xs.length ∧ i = .int .i64 j ∧ wordsB (xs.take j) = true) (fun i => xs.length - (intOf i).toNat)
  case atStart => exact ⟨0, Nat.zero_le _, rfl, rfl⟩
  case round =>
    obtain ⟨j, hj, rfl, hw⟩ := hrel
    by_cases hlt : j < xs.length
    · obtain ⟨x, hx⟩ : ∃ x, xs[j]? = some x := ⟨_, List.getElem?_eq_getElem hlt⟩
      obtain ⟨b, off, rfl, hB, hcl⟩ := hc (by rw [ints_length]; omega)
      have hcell : w.cell? ⟨b, off + j, none⟩ = some (.int .i64 x) := hcl j _ (ints_get hx)
      have HW := hid hw
      have HX := hid hx
      clear hcl hc hw hx
      cases hb : isWordB x
      · go_wp2_with (go_at_call 35; refine (sIsWord _ _).mono ?_; rintro e w' ⟨rfl, rfl⟩)
        go_ret
        exact ⟨ret_bool (by rw [mayB_words (wordsB_no HX.out hb)]), rfl⟩
      · go_wp2_with (go_at_call 35; refine (sIsWord _ _).mono ?_; rintro e w' ⟨rfl, rfl⟩)
        go_round
        case rel => exact ⟨j + 1, by omega, by go_num, wordsB_snoc HX.out HW.out hb⟩
        case measure => simp [intOf]; omega
    · obtain rfl : j = xs.length := by omega
      rw [List.take_length] at hw
      have HE := hid (mayB_rest (p := p) (r := r) hw)
      clear hw
      cases h1 : fieldOkB p; rotate_left
      cases h2 : inB xs.length 1 5
      all_goals
        go_wp2_with (first | (go_at_call 34; refine (sFieldOk _ _).mono ?_; rintro e w' ⟨rfl, rfl⟩) | (go_at_call 36; refine (sWithin _ _ _ _).mono ?_; rintro e w' ⟨rfl, rfl⟩))
        go_ret
        exact ⟨ret_bool (by rw [HE.out]; simp [*]), rfl⟩
theorem iExp_ok (p s : Int) (f r : Nat) (w : World) (h : msgB p s f r = true) :
    Calls Try.prog 12 #[.int .i64 p, .int .i64 s, .int .i64 f, .int .i64 r] w fun e w' =>
      e = .returned (.tuple #[.agg #[.int .i64 f, .int .i64 r, .int .i64 (belowI s r p)], .bool true]) ∧ Below w.heap.size w w' := by
  have h0 := iExpectedMsg p s f r w
  unfold expI at h0
  rw [h] at h0
  exact h0
theorem sExp_ok (p s : Int) (f r : Nat) (w : World) (h : msgB p s f r = true) :
    Calls Try.prog 11 #[.int .i64 p, .int .i64 s, .int .i64 f, .int .i64 r] w fun e w' =>
      e = .returned (.tuple #[.agg #[.int .i64 f, .int .i64 r, .int .i64 (belowI s r p)], .bool true]) ∧ Below w.heap.size w w' := by
  have h0 := sExpectedMsg p s f r w
  unfold expI at h0
  rw [h] at h0
  exact h0
/-- The honest run as a result. -/
def GivesHon (w : World) (p : Int) (xs : List Int) (r : Int) (e : Ending) (w' : World) : Prop :=
  ∃ A c, e = .returned (.slice A (honN p xs r) c) ∧ w'.ownsRow w.heap.size 23 3 (.slice A (honN p xs r) c) (honN p xs r) (ints (honL p xs r)) ∧ Below w.heap.size w w'
set_option maxRecDepth 100000 in
set_option maxHeartbeats 3200000 in
theorem iHonestRun (p : Int) (A : Option Addr) (c : Nat) (xs : List Int) (r : Int) (w : World) (hc : Cells w w.heap.size A (ints xs)) (hn : xs.length ≤ 1000000000) :
    Calls Try.prog 17 #[.int .i64 p, .slice A xs.length c, .int .i64 r] w (GivesHon w p xs r) := by
  cases hm : mayB p xs r
  · go_enter Try.func17, Try.ntmps17
    go_wp2_with (go_at_call 46; refine (iMayRun _ _ _ _ _ _ hc hn).mono ?_; rintro e w' ⟨rfl, rfl⟩)
    go_ret
    unfold GivesHon
    rw [(hon_no hm).1, (hon_no hm).2]
    exact ⟨none, 0, rfl, World.ownsRow_nil _ _ _ _, Below.refl _ _⟩
  have HM := hid (mayB_of hm)
  have HY := hid (hon_yes hm)
  have HC := hid hc
  have hr0 := HM.out.r0
  have hr12 := HM.out.r12
  have hn1 := HM.out.n1
  have hn5 := HM.out.n5
  obtain ⟨R, rfl⟩ := Int.eq_ofNat_of_zero_le hr0
  go_enter Try.func17, Try.ntmps17
  go_wp2_with (go_at_call 46; refine (iMayRun _ _ _ _ _ _ HC.out hn).mono ?_; rintro e w' ⟨rfl, rfl⟩)
  clear hc hm hr0
  go_loopw [7, 8, 9, 10, 11, 12, 26] (fun o kk _ _ _ _ _ wr => ∃ (k : Nat) (A' : Option Addr) (c' : Nat), k ≤ R ∧ kk = .int .i64 k ∧ o = .slice A' (k * xs.length) c' ∧
    wr.ownsRow w.heap.size 23 3 (.slice A' (k * xs.length) c') (k * xs.length) (ints (honTo p xs k)) ∧ Below w.heap.size w wr) (fun _ kk _ _ _ _ _ _ => R - (intOf kk).toNat)
  case atStart => exact ⟨0, some ⟨w.heap.size, 0, none⟩, 0, Nat.zero_le _, rfl, by simp, by simpa [honTo, ints] using own_lit (w := w) (e := 23) (size := 3) #[] 0 rfl (Nat.le_refl _) (Nat.zero_le _) rfl, by repeat (first | (with_reducible exact Below.refl _ _) | (with_reducible refine Below.trans ?_ (Below.mono (by assumption) (by first | omega | (simp; done) | (simp; omega) | (simp [*]; done)))) | (with_reducible refine Below.alloc ?_ (by first | omega | (simp; done) | (simp; omega) | (simp [*]; done)) _) | (with_reducible refine Below.setCell ?_ (by first | omega | (simp; done) | (simp; omega) | (simp [*]; done)) _) | (with_reducible refine Below.drew ?_) | (with_reducible refine below_drewN ?_))⟩
  case round =>
    obtain ⟨k, A', c', hk, rfl, rfl, hown, hb⟩ := hrel
    by_cases hlt : k < R
    · obtain ⟨wo, rfl⟩ : ∃ wo : World, wo = wr := ⟨_, rfl⟩
      obtain ⟨m, hm⟩ : ∃ m, k * xs.length = m := ⟨_, rfl⟩
      have hm60 : m ≤ 60 := by subst hm; exact Nat.mul_le_mul (show k ≤ 12 by omega) hn5
      have hkR : (k : Int) < (R : Int) := by omega
      rw [hm] at hown ⊢
      have HMM := hid hm
      have HO := hid hown
      have HB := hid hb
      clear hown hb hm
      go_wp2_with fail
      go_loopw [7, 9, 10, 11, 12, 26] (fun o _ _ _ _ i wr => ∃ (j : Nat) (A2 : Option Addr) (c2 : Nat), j ≤ xs.length ∧ i = .int .i64 j ∧ o = .slice A2 (m + j) c2 ∧
        wr.ownsRow w.heap.size 23 3 (.slice A2 (m + j) c2) (m + j) (ints (honTo p xs k ++ honRow p xs k j)) ∧ Below w.heap.size w wr) (fun _ _ _ _ _ i _ => xs.length - (intOf i).toNat)
      case atStart => exact ⟨0, A', c', Nat.zero_le _, rfl, rfl, by simpa [honRow] using HO.out, HB.out⟩
      case round =>
        obtain ⟨j, A2, c2, hj, rfl, rfl, hown, hb⟩ := hrel
        by_cases hjl : j < xs.length
        · obtain ⟨x, hx⟩ : ∃ x, xs[j]? = some x := ⟨_, List.getElem?_eq_getElem hjl⟩
          obtain ⟨b, off, rfl, hB, hcl⟩ := HC.out (by rw [ints_length]; omega)
          have hcell : wr.cell? ⟨b, off + j, none⟩ = some (.int .i64 x) := (hb.cell (p := ⟨b, off + j, none⟩) hB).trans (hcl j _ (ints_get hx))
          have HG := hid (msgB_may HM.out hx hkR)
          have HX := hid hx
          clear hcl hx
          have b_30 := hb
          have s_30 := b_30.size
          have f_in := own_in hown
          have f_30 := hown
          clear hown
          go_wp2_with fail
          refine calls_forget0 (W := wr) ?_ ?_
          (focus (repeat (first | (with_reducible exact Below.refl _ _) | (with_reducible refine Below.trans ?_ (Below.mono (by assumption) (by first | omega | (simp; done) | (simp; omega) | (simp [*]; done)))) | (with_reducible refine Below.alloc ?_ (by first | omega | (simp; done) | (simp; omega) | (simp [*]; done)) _) | (with_reducible refine Below.setCell ?_ (by first | omega | (simp; done) | (simp; omega) | (simp [*]; done)) _) | (with_reducible refine Below.drew ?_) | (with_reducible refine below_drewN ?_))))
          intro X31 hX31
          have sX31 := hX31.size
          refine (iExp_ok _ _ _ _ _ HG.out).mono ?_
          rintro e w31 ⟨rfl, hb31⟩
          have s31 := hb31.size
          have hT31 := hX31.trans (hb31.mono sX31)
          have b_31 := b_30.trans (hT31.mono (by omega))
          have f_31 := own_below f_30 hT31
          clear f_30 b_30 hX31 hT31 hb31
          go_upto_region 11 with fail
          refine wp_forget1 (w0 := w31) (B := w31.heap.size) (b0 := w31.heap.size) (t0 := 23) (c0 := #[.int .i64 j, .int .i64 k, .int .i64 (belowI x k p)]) ?_ ?_ ?_
          (focus (first | ((repeat (first | (with_reducible assumption) | (with_reducible apply Blk.drew) | (with_reducible apply Blk.drewN) | (with_reducible apply Blk.new; first | rfl | (simp; done)) | (with_reducible apply Blk.alloc) | (with_reducible apply Blk.set_) | (with_reducible apply Blk.past; focus assumption) | (with_reducible apply Blk.far; focus (first | (simp; done) | (simp; omega) | (dsimp only; omega))))); done) | (apply Blk.cast; (case h => (repeat (first | (with_reducible assumption) | (with_reducible apply Blk.drew) | (with_reducible apply Blk.drewN) | (with_reducible apply Blk.new; first | rfl | (simp; done)) | (with_reducible apply Blk.alloc) | (with_reducible apply Blk.set_) | (with_reducible apply Blk.past; focus assumption) | (with_reducible apply Blk.far; focus (first | (simp; done) | (simp; omega) | (dsimp only; omega)))))); (case e => rfl))))
          (focus (repeat (first | (with_reducible exact Below.refl _ _) | (with_reducible refine Below.trans ?_ (Below.mono (by assumption) (by first | omega | (simp; done) | (simp; omega) | (simp [*]; done)))) | (with_reducible refine Below.alloc ?_ (by first | omega | (simp; done) | (simp; omega) | (simp [*]; done)) _) | (with_reducible refine Below.setCell ?_ (by first | omega | (simp; done) | (simp; omega) | (simp [*]; done)) _) | (with_reducible refine Below.drew ?_) | (with_reducible refine below_drewN ?_))))
          intro w32 mb_32 hX32
          have sX32 := hX32.size
          have mb_lt := mb_32.lt
          have b_32 := b_31.trans (hX32.mono (by omega))
          have f_32 := own_below f_31 hX32
          clear f_31 b_31 hX32
          have cell_mb := mb_32.cell
          have froz_mb := mb_32.frozen
          have lt_mb := mb_32.lt
          go_wp2_with (at_builtin; refine wpList_appi rfl _ _ 34 rfl w.heap.size 23 (.agg #[.int .i64 0, .int .i64 0, .int .i64 0]) 3 24 Try.underlying34 infoMsg rfl (by decide) _ (m + j) _ rfl (f_32.alloc _) ⟨w32.heap.size, 0, none⟩ 1 1 _ rfl rfl (many_new _ (ints (msg3 p x j k)) _) (msg_one _ _ _ _) (by omega) (by decide) (by simp; omega) ?_)
          intro A_f c_f w33 f_33 hg33 li33
          have hg33 := grown_alloc hg33
          try simp only [World.size_alloc] at li33
          have s33 := hg33.size
          have b_33 := gr_below hg33 b_32 (by omega) (fun q hq => by have h1 := f_in q hq; omega)
          have mb_33 := gr_blk hg33 mb_32 (fun q hq => by have h1 := f_in q hq; omega)
          have f_ix := own_in f_33
          clear f_32 mb_32 b_32 cell_mb froz_mb lt_mb hg33 li33 f_in
          have f_in := f_ix
          clear f_ix
          have cell_mb := mb_33.cell
          have froz_mb := mb_33.frozen
          have lt_mb := mb_33.lt
          go_wp2
          go_roundw
          case rel => exact ⟨j + 1, A_f, c_f, by omega, by go_num, rfl, by rw [honRow_succ HX.out, ← List.append_assoc, ints_append]; exact f_33, b_33⟩
          case measure => simp [intOf]; omega
        · obtain rfl : j = xs.length := by omega
          have HO2 := hid hown
          have HB2 := hid hb
          clear hown hb
          go_wp2
          go_roundw
          case rel => exact ⟨k + 1, A2, c2, by omega, by go_num, by rw [← HMM.out, Nat.add_mul, Nat.one_mul], by rw [Nat.add_mul, Nat.one_mul, HMM.out]; exact HO2.out, HB2.out⟩
          case measure => simp [intOf]; omega
    · obtain rfl : k = R := by omega
      have HO := hid hown
      have HB := hid hb
      clear hown hb
      go_wp2
      go_ret
      unfold GivesHon
      rw [HY.out.1, HY.out.2]
      exact ⟨A', c', rfl, HO.out, HB.out⟩
set_option maxRecDepth 100000 in
set_option maxHeartbeats 3200000 in
theorem sHonestRun (p : Int) (A : Option Addr) (c : Nat) (xs : List Int) (r : Int) (w : World) (hc : Cells w w.heap.size A (ints xs)) (hn : xs.length ≤ 1000000000) :
    Calls Try.prog 28 #[.int .i64 p, .slice A xs.length c, .int .i64 r] w (GivesHon w p xs r) := by
  cases hm : mayB p xs r
  · have e1 := (hon_no hm).1
    have e2 := (hon_no hm).2
    have E1 := hid e1
    have E2 := hid e2
    have HC := hid hc
    clear e1 e2 hc
    by_cases hr : 0 < r
    all_goals
      go_enter Try.func28, Try.ntmps28
      go_wp2
      refine wp_loop_rounds 1 ?_
      rw [rounds_succ]
      go_wp2_with (go_at_call 52; refine (sMayRun _ _ _ _ _ _ ((HC.out.below (by repeat (first | (with_reducible exact Below.refl _ _) | (with_reducible refine Below.trans ?_ (Below.mono (by assumption) (by first | omega | (simp; done) | (simp; omega) | (simp [*]; done)))) | (with_reducible refine Below.alloc ?_ (by first | omega | (simp; done) | (simp; omega) | (simp [*]; done)) _) | (with_reducible refine Below.setCell ?_ (by first | omega | (simp; done) | (simp; omega) | (simp [*]; done)) _) | (with_reducible refine Below.drew ?_) | (with_reducible refine below_drewN ?_)))).more (by simp)) hn).mono ?_; rintro e w' ⟨rfl, rfl⟩)
      go_ret
      unfold GivesHon
      rw [E1.out, E2.out]
      exact ⟨some ⟨w.heap.size, 0, none⟩, 0, rfl, own_lit (size := 3) #[] 0 rfl (Nat.le_refl _) (Nat.zero_le _) rfl, by repeat (first | (with_reducible exact Below.refl _ _) | (with_reducible refine Below.trans ?_ (Below.mono (by assumption) (by first | omega | (simp; done) | (simp; omega) | (simp [*]; done)))) | (with_reducible refine Below.alloc ?_ (by first | omega | (simp; done) | (simp; omega) | (simp [*]; done)) _) | (with_reducible refine Below.setCell ?_ (by first | omega | (simp; done) | (simp; omega) | (simp [*]; done)) _) | (with_reducible refine Below.drew ?_) | (with_reducible refine below_drewN ?_))⟩
  have HM := hid (mayB_of hm)
  have HY := hid (hon_yes hm)
  have HC := hid hc
  have hr0 := HM.out.r0
  have hr12 := HM.out.r12
  have hn1 := HM.out.n1
  have hn5 := HM.out.n5
  obtain ⟨R, rfl⟩ := Int.eq_ofNat_of_zero_le hr0
  go_enter Try.func28, Try.ntmps28
  go_wp2
  clear hc hr0
  go_loopw [7, 8, 9, 10, 11] (fun o kk _ _ _ wr => ∃ (k : Nat) (A' : Option Addr) (c' : Nat), k ≤ R ∧ kk = .int .i64 k ∧ o = .slice A' (k * xs.length) c' ∧
    wr.ownsRow w.heap.size 23 3 (.slice A' (k * xs.length) c') (k * xs.length) (ints (honTo p xs k)) ∧ Below w.heap.size w wr) (fun _ kk _ _ _ _ => R - (intOf kk).toNat)
  case atStart => exact ⟨0, some ⟨w.heap.size, 0, none⟩, 0, Nat.zero_le _, rfl, by simp, by simpa [honTo, ints] using own_lit (w := w) (e := 23) (size := 3) #[] 0 rfl (Nat.le_refl _) (Nat.zero_le _) rfl, by repeat (first | (with_reducible exact Below.refl _ _) | (with_reducible refine Below.trans ?_ (Below.mono (by assumption) (by first | omega | (simp; done) | (simp; omega) | (simp [*]; done)))) | (with_reducible refine Below.alloc ?_ (by first | omega | (simp; done) | (simp; omega) | (simp [*]; done)) _) | (with_reducible refine Below.setCell ?_ (by first | omega | (simp; done) | (simp; omega) | (simp [*]; done)) _) | (with_reducible refine Below.drew ?_) | (with_reducible refine below_drewN ?_))⟩
  case round =>
    obtain ⟨k, A', c', hk, rfl, rfl, hown, hb⟩ := hrel
    by_cases hlt : k < R
    · obtain ⟨wo, rfl⟩ : ∃ wo : World, wo = wr := ⟨_, rfl⟩
      obtain ⟨m, hmm⟩ : ∃ m, k * xs.length = m := ⟨_, rfl⟩
      have hm60 : m ≤ 60 := by subst hmm; exact Nat.mul_le_mul (show k ≤ 12 by omega) hn5
      have hkR : (k : Int) < (R : Int) := by omega
      rw [hmm] at hown ⊢
      have HMM := hid hmm
      have HO := hid hown
      have HB := hid hb
      have HCR := hid ((HC.out.below hb).more hb.size)
      clear hown hb hmm
      go_wp2_with (go_at_call 52; refine (sMayRun _ _ _ _ _ _ HCR.out hn).mono ?_; rintro e w' ⟨rfl, rfl⟩)
      go_loopw [7, 9, 10, 11] (fun o i _ _ wr => ∃ (j : Nat) (A2 : Option Addr) (c2 : Nat), j ≤ xs.length ∧ i = .int .i64 j ∧ o = .slice A2 (m + j) c2 ∧
        wr.ownsRow w.heap.size 23 3 (.slice A2 (m + j) c2) (m + j) (ints (honTo p xs k ++ honRow p xs k j)) ∧ Below w.heap.size w wr) (fun _ i _ _ _ => xs.length - (intOf i).toNat)
      case atStart => exact ⟨0, A', c', Nat.zero_le _, rfl, rfl, by simpa [honRow] using HO.out, HB.out⟩
      case round =>
        obtain ⟨j, A2, c2, hj, rfl, rfl, hown, hb⟩ := hrel
        by_cases hjl : j < xs.length
        · obtain ⟨x, hx⟩ : ∃ x, xs[j]? = some x := ⟨_, List.getElem?_eq_getElem hjl⟩
          obtain ⟨b, off, rfl, hB, hcl⟩ := HC.out (by rw [ints_length]; omega)
          have hcell : wr.cell? ⟨b, off + j, none⟩ = some (.int .i64 x) := (hb.cell (p := ⟨b, off + j, none⟩) hB).trans (hcl j _ (ints_get hx))
          have HG := hid (msgB_may HM.out hx hkR)
          have HX := hid hx
          clear hcl hx
          have b_30 := hb
          have s_30 := b_30.size
          have f_in := own_in hown
          have f_30 := hown
          clear hown
          go_wp2_with fail
          refine calls_forget0 (W := wr) ?_ ?_
          (focus (repeat (first | (with_reducible exact Below.refl _ _) | (with_reducible refine Below.trans ?_ (Below.mono (by assumption) (by first | omega | (simp; done) | (simp; omega) | (simp [*]; done)))) | (with_reducible refine Below.alloc ?_ (by first | omega | (simp; done) | (simp; omega) | (simp [*]; done)) _) | (with_reducible refine Below.setCell ?_ (by first | omega | (simp; done) | (simp; omega) | (simp [*]; done)) _) | (with_reducible refine Below.drew ?_) | (with_reducible refine below_drewN ?_))))
          intro X31 hX31
          have sX31 := hX31.size
          refine (sExp_ok _ _ _ _ _ HG.out).mono ?_
          rintro e w31 ⟨rfl, hb31⟩
          have s31 := hb31.size
          have hT31 := hX31.trans (hb31.mono sX31)
          have b_31 := b_30.trans (hT31.mono (by omega))
          have f_31 := own_below f_30 hT31
          clear f_30 b_30 hX31 hT31 hb31
          go_upto_region 9 with fail
          refine wp_forget1 (w0 := w31) (B := w31.heap.size) (b0 := w31.heap.size) (t0 := 23) (c0 := #[.int .i64 j, .int .i64 k, .int .i64 (belowI x k p)]) ?_ ?_ ?_
          (focus (first | ((repeat (first | (with_reducible assumption) | (with_reducible apply Blk.drew) | (with_reducible apply Blk.drewN) | (with_reducible apply Blk.new; first | rfl | (simp; done)) | (with_reducible apply Blk.alloc) | (with_reducible apply Blk.set_) | (with_reducible apply Blk.past; focus assumption) | (with_reducible apply Blk.far; focus (first | (simp; done) | (simp; omega) | (dsimp only; omega))))); done) | (apply Blk.cast; (case h => (repeat (first | (with_reducible assumption) | (with_reducible apply Blk.drew) | (with_reducible apply Blk.drewN) | (with_reducible apply Blk.new; first | rfl | (simp; done)) | (with_reducible apply Blk.alloc) | (with_reducible apply Blk.set_) | (with_reducible apply Blk.past; focus assumption) | (with_reducible apply Blk.far; focus (first | (simp; done) | (simp; omega) | (dsimp only; omega)))))); (case e => rfl))))
          (focus (repeat (first | (with_reducible exact Below.refl _ _) | (with_reducible refine Below.trans ?_ (Below.mono (by assumption) (by first | omega | (simp; done) | (simp; omega) | (simp [*]; done)))) | (with_reducible refine Below.alloc ?_ (by first | omega | (simp; done) | (simp; omega) | (simp [*]; done)) _) | (with_reducible refine Below.setCell ?_ (by first | omega | (simp; done) | (simp; omega) | (simp [*]; done)) _) | (with_reducible refine Below.drew ?_) | (with_reducible refine below_drewN ?_))))
          intro w32 mb_32 hX32
          have sX32 := hX32.size
          have mb_lt := mb_32.lt
          have b_32 := b_31.trans (hX32.mono (by omega))
          have f_32 := own_below f_31 hX32
          clear f_31 b_31 hX32
          have cell_mb := mb_32.cell
          have froz_mb := mb_32.frozen
          have lt_mb := mb_32.lt
          go_wp2_with (at_builtin; refine wpList_appi rfl _ _ 34 rfl w.heap.size 23 (.agg #[.int .i64 0, .int .i64 0, .int .i64 0]) 3 24 Try.underlying34 infoMsg rfl (by decide) _ (m + j) _ rfl (f_32.alloc _) ⟨w32.heap.size, 0, none⟩ 1 1 _ rfl rfl (many_new _ (ints (msg3 p x j k)) _) (msg_one _ _ _ _) (by omega) (by decide) (by simp; omega) ?_)
          intro A_f c_f w33 f_33 hg33 li33
          have hg33 := grown_alloc hg33
          try simp only [World.size_alloc] at li33
          have s33 := hg33.size
          have b_33 := gr_below hg33 b_32 (by omega) (fun q hq => by have h1 := f_in q hq; omega)
          have mb_33 := gr_blk hg33 mb_32 (fun q hq => by have h1 := f_in q hq; omega)
          have f_ix := own_in f_33
          clear f_32 mb_32 b_32 cell_mb froz_mb lt_mb hg33 li33 f_in
          have f_in := f_ix
          clear f_ix
          have cell_mb := mb_33.cell
          have froz_mb := mb_33.frozen
          have lt_mb := mb_33.lt
          go_wp2
          go_roundw
          case rel => exact ⟨j + 1, A_f, c_f, by omega, by go_num, rfl, by rw [honRow_succ HX.out, ← List.append_assoc, ints_append]; exact f_33, b_33⟩
          case measure => simp [intOf]; omega
        · obtain rfl : j = xs.length := by omega
          have HO2 := hid hown
          have HB2 := hid hb
          clear hown hb
          go_wp2
          go_roundw
          case rel => exact ⟨k + 1, A2, c2, by omega, by go_num, by rw [← HMM.out, Nat.add_mul, Nat.one_mul], by rw [Nat.add_mul, Nat.one_mul, HMM.out]; exact HO2.out, HB2.out⟩
          case measure => simp [intOf]; omega
    · obtain rfl : k = R := by omega
      have HO := hid hown
      have HB := hid hb
      clear hown hb
      go_wp2
      go_ret
      unfold GivesHon
      rw [HY.out.1, HY.out.2]
      exact ⟨A', c', rfl, HO.out, HB.out⟩
end Go.Proofs.Ytgkkljcboicipaa
