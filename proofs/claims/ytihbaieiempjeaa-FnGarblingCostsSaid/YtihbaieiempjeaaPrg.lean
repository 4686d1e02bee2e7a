/- Whether a program is valid; the end of a loop: in the program and in the reference. -/
import Derived.Test.YtihbaieiempjeaaBy
import Derived.Test.YtihbaieiempjeaaStmtS
import Derived.Deep.DeepCutAuto
namespace Go.Proofs.Ytihbaieiempjeaa
open Go.RowKit

theorem st_cells {w wr : World} {B : Nat} {A : Option Addr} {L : List St} (h : Cells w B A (ints (flatS L))) (hb : Below B w wr) {j : Nat} {o d a e g n : Int} (hj : L[j]? = some ⟨o, d, a, e, g, n⟩) :
    ∃ b off, A = some ⟨b, off, none⟩ ∧ b < B ∧ wr.cell? ⟨b, off + j * 6, none⟩ = some (.int .i64 o) ∧ wr.cell? ⟨b, off + j * 6 + 1, none⟩ = some (.int .i64 d) ∧ wr.cell? ⟨b, off + j * 6 + 2, none⟩ = some (.int .i64 a) ∧
      wr.cell? ⟨b, off + j * 6 + 3, none⟩ = some (.int .i64 e) ∧ wr.cell? ⟨b, off + j * 6 + 4, none⟩ = some (.int .i64 g) ∧ wr.cell? ⟨b, off + j * 6 + 5, none⟩ = some (.int .i64 n) := by
  have hl := (List.getElem?_eq_some_iff.1 hj).1
  obtain ⟨b, off, rfl, hB, hc⟩ := h (by rw [ints_length, flatS_length]; omega)
  have g := fun (t : Nat) (x : Int) (hx : (sixS ⟨o, d, a, e, g, n⟩)[t]? = some x) => (hb.cell (p := ⟨b, off + (j * 6 + t), none⟩) hB).trans (hc (j * 6 + t) _ (ints_get (flatS_at hj t x hx)))
  exact ⟨b, off, rfl, hB, g 0 _ rfl, g 1 _ rfl, g 2 _ rfl, g 3 _ rfl, g 4 _ rfl, g 5 _ rfl⟩
theorem drop_st {α : Type} {L : List α} {j : Nat} {s : α} (h : L[j]? = some s) : L.drop j = s :: L.drop (j + 1) := by
  obtain ⟨hl, e⟩ := List.getElem?_eq_some_iff.1 h
  rw [List.drop_eq_getElem_cons hl, e]
theorem scan_at {k : Int} {L : List St} {j : Nat} {s : St} (h : L[j]? = some s) : scanP k (L.drop j) = (stmtB s && (inB (dep s k) 0 3 && scanP (dep s k) (L.drop (j + 1)))) := by
  rw [drop_st h, scanP]
theorem prog_no {L : List St} (h : scanP 0 L = false) : progB L = false := by unfold progB; rw [h, Bool.and_false]
theorem dep_is (o d a e g n k : Int) : (o = 12 ∧ dep ⟨o, d, a, e, g, n⟩ k = k + 1) ∨ (o ≠ 12 ∧ o = 13 ∧ dep ⟨o, d, a, e, g, n⟩ k = k - 1) ∨ (o ≠ 12 ∧ o ≠ 13 ∧ dep ⟨o, d, a, e, g, n⟩ k = k) := by
  unfold dep
  by_cases h : o = 12
  · exact .inl ⟨h, if_pos h⟩
  · by_cases h2 : o = 13
    · exact .inr (.inl ⟨h, h2, by rw [if_neg h, if_pos h2]⟩)
    · exact .inr (.inr ⟨h, h2, by rw [if_neg h, if_neg h2]⟩)
set_option linter.unusedVariables false in
set_option maxRecDepth 100000 in
set_option maxHeartbeats 3200000 in
theorem iProgOk (A : Option Addr) (c : Nat) (L : List St) (w : World) (hc : Cells w w.heap.size A (ints (flatS L))) (hn : L.length ≤ 1000000000) :
    Calls Try.prog 100 #[.slice A L.length c] w fun e w' => e = .returned (.bool (progB L)) ∧ Below w.heap.size w w' := by
  by_cases h40 : 40 < L.length
  · have h40' : (40 : Int) < (L.length : Int) := by omega
    have HP := hid (show progB L = false by unfold progB; rw [decide_eq_false (by omega)]; rfl)
    go_enter Try.func100, Try.ntmps100
    go_wp2
    go_ret
    exact ⟨by rw [HP.out]; rfl, Below.refl _ _⟩
  have h40' : ¬ (40 : Int) < (L.length : Int) := by omega
  have HC := hid hc
  clear hc
  go_enter Try.func100, Try.ntmps100
  go_wp2
  go_loopw [3, 5, 11] (fun dd _ i wr => ∃ (j : Nat) (k : Int), j ≤ L.length ∧ i = .int .i64 j ∧ dd = .int .i64 k ∧ (0 ≤ k ∧ k ≤ 3) ∧ scanP 0 L = scanP k (L.drop j) ∧ Below w.heap.size w wr) (fun _ _ i _ => L.length - (intOf i).toNat)
  case atStart => exact ⟨0, 0, Nat.zero_le _, rfl, rfl, by omega, rfl, Below.refl _ _⟩
  case round =>
    obtain ⟨j, k, hj, rfl, rfl, hk, hsc, hb⟩ := hrel
    have zb := hb.size
    by_cases hlt : j < L.length
    · obtain ⟨⟨o, d, a, e, g, n⟩, hx⟩ : ∃ s, L[j]? = some s := ⟨_, List.getElem?_eq_getElem hlt⟩
      obtain ⟨b, off, rfl, hB, d0, d1, d2, d3, d4, d5⟩ := st_cells HC.out hb hx
      have hs2 := scan_at (k := k) hx
      have hlt' : (j : Int) < (L.length : Int) := by omega
      have HS := hid (fun w => iStmtOk o d a e g n w)
      obtain ⟨v, hv⟩ : ∃ v, stmtB ⟨o, d, a, e, g, n⟩ = v := ⟨_, rfl⟩
      rw [hv] at HS hs2
      have HSC := hid (hsc.trans hs2)
      clear hx hsc hs2 hv
      have b_30 := hb
      have s_30 := b_30.size
      go_upto_region 7 with fail
      refine wp_forget1 (w0 := wr) (B := wr.heap.size) (b0 := wr.heap.size) (t0 := 45) (c0 := #[.int .i64 o, .int .i64 d, .int .i64 a, .int .i64 e, .int .i64 g, .int .i64 n]) ?_ ?_ ?_
      (focus exact blkcBy)
      (focus (exact belBy))
      intro w31 x_31 hX31
      have sX31 := hX31.size
      have x_lt := x_31.lt
      have b_31 := b_30.trans (hX31.mono (by omega))
      clear b_30 hX31
      have cell_x := x_31.cell
      have froz_x := x_31.frozen
      have lt_x := x_31.lt
      go_wp2_with fail
      refine calls_forget0 (W := w31) ?_ ?_
      (focus (exact belBy))
      intro X32 hX32
      have sX32 := hX32.size
      refine (HS.out _).mono ?_
      rintro e w32 ⟨rfl, hb32⟩
      have s32 := hb32.size
      have hT32 := hX32.trans (hb32.mono sX32)
      have b_32 := b_31.trans (hT32.mono (by omega))
      have x_32 := Blk.past hT32 x_31
      clear x_31 b_31 cell_x froz_x lt_x hX32 hT32 hb32
      have cell_x := x_32.cell
      have froz_x := x_32.frozen
      have lt_x := x_32.lt
      have HB := hid b_32
      clear b_32 d0 d1 d2 d3 d4 d5 x_32
      cases v
      · have HP := hid (prog_no (HSC.out.trans (Bool.false_and _)))
        go_wp2
        go_ret
        exact ⟨by rw [HP.out]; rfl, HB.out⟩
      · obtain ⟨q, hq⟩ : ∃ q, dep ⟨o, d, a, e, g, n⟩ k = q := ⟨_, rfl⟩
        have hdep := dep_is o d a e g n k
        have HSQ := HSC
        rw [Bool.true_and, hq] at HSQ
        rw [hq] at hdep
        have HIN := hid (fun w => iWithin q 0 3 w)
        obtain ⟨v, hv⟩ : ∃ v, inB q 0 3 = v := ⟨_, rfl⟩
        rw [hv] at HIN HSQ
        have HV := hid hv
        clear hv hq HSC
        have hw1 : IntKind.i64.wrap (k + 1) = k + 1 := IntWalk.i64_in _ (by omega)
        have hw2 : IntKind.i64.wrap (k - 1) = k - 1 := IntWalk.i64_in _ (by omega)
        rcases hdep with ⟨rfl, hq⟩ | ⟨h12, rfl, hq⟩ | ⟨h12, h13, hq⟩
        all_goals
          try have e1 : (o == 12) = false := by simpa using h12
          try have e2 : (o == 13) = false := by simpa using h13
          rw [hq] at HIN
          have HQ := hid hq
          clear hq
          cases v
          · have HP := hid (prog_no (HSQ.out.trans (Bool.false_and _)))
            go_wp2_with (go_at_call 55; refine (HIN.out _).mono ?_; rintro e w' ⟨rfl, rfl⟩)
            go_ret
            exact ⟨by rw [HP.out]; rfl, HB.out⟩
          · go_wp2_with (go_at_call 55; refine (HIN.out _).mono ?_; rintro e w' ⟨rfl, rfl⟩)
            go_roundw
            case rel => exact ⟨j + 1, q, by omega, by go_num, by rw [HQ.out], inB_iff.1 HV.out, HSQ.out.trans (Bool.true_and _), HB.out⟩
            case measure => simp [intOf]; omega
    · obtain rfl : j = L.length := by omega
      rw [List.drop_length] at hsc
      have HP := hid (show progB L = (k == 0) by unfold progB; rw [hsc, decide_eq_true (by omega)]; rfl)
      have HB := hid hb
      clear hsc hb
      cases h0 : (k == 0)
      all_goals
        go_wp2
        go_ret
        exact ⟨by rw [HP.out, h0]; rfl, HB.out⟩
set_option linter.unusedVariables false in
set_option maxRecDepth 100000 in
set_option maxHeartbeats 3200000 in
theorem sProgOk (A : Option Addr) (c : Nat) (L : List St) (w : World) (hc : Cells w w.heap.size A (ints (flatS L))) (hn : L.length ≤ 1000000000) :
    Calls Try.prog 64 #[.slice A L.length c] w fun e w' => e = .returned (.bool (progB L)) ∧ Below w.heap.size w w' := by
  have HC := hid hc
  clear hc
  go_enter Try.func64, Try.ntmps64
  go_wp2
  go_loopw [3, 4] (fun dd i wr => ∃ (j : Nat) (k : Int), j ≤ L.length ∧ i = .int .i64 j ∧ dd = .int .i64 k ∧ (0 ≤ k ∧ k ≤ 3) ∧ scanP 0 L = scanP k (L.drop j) ∧ Below w.heap.size w wr) (fun _ i _ => L.length - (intOf i).toNat)
  case atStart => exact ⟨0, 0, Nat.zero_le _, rfl, rfl, by omega, rfl, Below.refl _ _⟩
  case round =>
    obtain ⟨j, k, hj, rfl, rfl, hk, hsc, hb⟩ := hrel
    have zb := hb.size
    by_cases hlt : j < L.length
    · obtain ⟨⟨o, d, a, e, g, n⟩, hx⟩ : ∃ s, L[j]? = some s := ⟨_, List.getElem?_eq_getElem hlt⟩
      obtain ⟨b, off, rfl, hB, d0, d1, d2, d3, d4, d5⟩ := st_cells HC.out hb hx
      have hs2 := scan_at (k := k) hx
      have hlt' : (j : Int) < (L.length : Int) := by omega
      have hbz : b < wr.heap.size := by omega
      have HS := hid (fun w => sStmtOk o d a e g n w)
      obtain ⟨v, hv⟩ : ∃ v, stmtB ⟨o, d, a, e, g, n⟩ = v := ⟨_, rfl⟩
      rw [hv] at HS hs2
      have HSC := hid (hsc.trans hs2)
      clear hx hsc hs2 hv
      have b_30 := hb
      have s_30 := b_30.size
      have q0_30 := d0
      clear d0
      have lt_q0 : b < wr.heap.size := by omega
      go_wp2_with fail
      refine calls_forget0 (W := wr) ?_ ?_
      (focus (exact belBy))
      intro X31 hX31
      have sX31 := hX31.size
      refine (HS.out _).mono ?_
      rintro e w31 ⟨rfl, hb31⟩
      have s31 := hb31.size
      have hT31 := hX31.trans (hb31.mono sX31)
      have b_31 := b_30.trans (hT31.mono (by omega))
      have q0_31 := cell_kept q0_30 hT31 (by dsimp only; omega)
      clear q0_30 b_30 lt_q0 hX31 hT31 hb31
      have lt_q0 : b < w31.heap.size := (by omega)
      have HB := hid b_31
      clear b_31 d1 d2 d3 d4 d5
      cases v
      · have HP := hid (prog_no (HSC.out.trans (Bool.false_and _)))
        go_wp2
        go_ret
        exact ⟨by rw [HP.out]; rfl, HB.out⟩
      · obtain ⟨q, hq⟩ : ∃ q, dep ⟨o, d, a, e, g, n⟩ k = q := ⟨_, rfl⟩
        have hdep := dep_is o d a e g n k
        have HSQ := HSC
        rw [Bool.true_and, hq] at HSQ
        rw [hq] at hdep
        have HIN := hid (fun w => sWithin q 0 3 w)
        obtain ⟨v, hv⟩ : ∃ v, inB q 0 3 = v := ⟨_, rfl⟩
        rw [hv] at HIN HSQ
        have HV := hid hv
        clear hv hq HSC
        have hw1 : IntKind.i64.wrap (k + 1) = k + 1 := IntWalk.i64_in _ (by omega)
        have hw2 : IntKind.i64.wrap (k - 1) = k - 1 := IntWalk.i64_in _ (by omega)
        rcases hdep with ⟨rfl, hq⟩ | ⟨h12, rfl, hq⟩ | ⟨h12, h13, hq⟩
        all_goals
          try have e1 : (o == 12) = false := by simpa using h12
          try have e2 : (o == 13) = false := by simpa using h13
          rw [hq] at HIN
          have HQ := hid hq
          clear hq
          cases v
          · have HP := hid (prog_no (HSQ.out.trans (Bool.false_and _)))
            go_wp2_with (go_at_call 57; refine (HIN.out _).mono ?_; rintro e w' ⟨rfl, rfl⟩)
            go_ret
            exact ⟨by rw [HP.out]; rfl, HB.out⟩
          · go_wp2_with (go_at_call 57; refine (HIN.out _).mono ?_; rintro e w' ⟨rfl, rfl⟩)
            go_roundw
            case rel => exact ⟨j + 1, q, by omega, by go_num, by rw [HQ.out], inB_iff.1 HV.out, HSQ.out.trans (Bool.true_and _), HB.out⟩
            case measure => simp [intOf]; omega
    · obtain rfl : j = L.length := by omega
      rw [List.drop_length] at hsc
      have HP := hid (show progB L = (k == 0 && decide (L.length ≤ 40)) by unfold progB; rw [hsc, Bool.and_comm]; rfl)
      have HB := hid hb
      clear hsc hb
      cases h0 : (k == 0)
      · go_wp2
        go_ret
        exact ⟨by rw [HP.out, h0]; rfl, HB.out⟩
      · by_cases h40 : L.length ≤ 40
        · have h40' : (L.length : Int) ≤ 40 := by omega
          go_wp2
          go_ret
          exact ⟨by rw [HP.out, h0, decide_eq_true h40]; rfl, HB.out⟩
        · have h40' : ¬ (L.length : Int) ≤ 40 := by omega
          go_wp2
          go_ret
          exact ⟨by rw [HP.out, h0, decide_eq_false h40]; rfl, HB.out⟩
theorem mt_at {k : Int} {L : List St} {j : Nat} {s : St} (h : L[j]? = some s) : mt k (L.drop j) = if s.o = 12 then 1 + mt (k + 1) (L.drop (j + 1)) else if s.o = 13 then (if k - 1 = 0 then 0 else 1 + mt (k - 1) (L.drop (j + 1))) else 1 + mt k (L.drop (j + 1)) := by
  rw [drop_st h, mt]
set_option linter.unusedVariables false in
set_option maxRecDepth 100000 in
set_option maxHeartbeats 3200000 in
theorem iMatching (A : Option Addr) (c : Nat) (L : List St) (i : Nat) (w : World) (hc : Cells w w.heap.size A (ints (flatS L))) (hn : L.length ≤ 1000000) (hi : i ≤ L.length) :
    Calls Try.prog 119 #[.slice A L.length c, .int .i64 i] w fun e w' => e = .returned (.int .i64 ((i + mt 0 (L.drop i) : Nat) : Int)) ∧ w = w' := by
  have HC := hid hc
  clear hc
  go_enter Try.func119, Try.ntmps119
  go_wp2
  go_loop [5, 6] (fun dd x => ∃ (j : Nat) (k : Int), j ≤ L.length ∧ x = .int .i64 j ∧ dd = .int .i64 k ∧ (-(j : Int) ≤ k ∧ k ≤ j) ∧ i + mt 0 (L.drop i) = j + mt k (L.drop j)) (fun _ x => L.length - (intOf x).toNat)
  case atStart => exact ⟨i, 0, hi, rfl, rfl, by omega, rfl⟩
  case round =>
    obtain ⟨j, k, hj, rfl, rfl, hk, hm⟩ := hrel
    by_cases hlt : j < L.length
    · obtain ⟨⟨o, d, a, e, g, n⟩, hx⟩ : ∃ s, L[j]? = some s := ⟨_, List.getElem?_eq_getElem hlt⟩
      obtain ⟨b, off, rfl, hB, d0, _, _, _, _, _⟩ := st_cells HC.out (Below.refl _ _) hx
      have hm2 := mt_at (k := k) hx
      dsimp only at hm2
      have hlt' : (j : Int) < (L.length : Int) := by omega
      have hw1 : IntKind.i64.wrap (k + 1) = k + 1 := IntWalk.i64_in _ (by omega)
      have hw2 : IntKind.i64.wrap (k - 1) = k - 1 := IntWalk.i64_in _ (by omega)
      clear hx
      by_cases h12 : o = 12
      · subst h12
        rw [if_pos rfl] at hm2
        have HM := hid (show i + mt 0 (L.drop i) = (j + 1) + mt (k + 1) (L.drop (j + 1)) by omega)
        clear hm hm2
        go_wp2
        go_round
        case rel => exact ⟨j + 1, k + 1, by omega, by go_num, rfl, by omega, HM.out⟩
        case measure => simp [intOf]; omega
      · have e1 : (o == 12) = false := by simpa using h12
        rw [if_neg h12] at hm2
        by_cases h13 : o = 13
        · subst h13
          rw [if_pos rfl] at hm2
          cases h1 : (k - 1 == 0)
          · rw [if_neg (by simpa using h1)] at hm2
            have HM := hid (show i + mt 0 (L.drop i) = (j + 1) + mt (k - 1) (L.drop (j + 1)) by omega)
            clear hm hm2
            go_wp2
            go_round
            case rel => exact ⟨j + 1, k - 1, by omega, by go_num, rfl, by omega, HM.out⟩
            case measure => simp [intOf]; omega
          · rw [if_pos (by simpa using h1)] at hm2
            have HM := hid (show i + mt 0 (L.drop i) = j by omega)
            clear hm hm2
            go_wp2
            go_ret
            exact ⟨(congrArg (fun q : Nat => Ending.returned (.int .i64 (q : Int))) HM.out).symm, rfl⟩
        · have e2 : (o == 13) = false := by simpa using h13
          rw [if_neg h13] at hm2
          have HM := hid (show i + mt 0 (L.drop i) = (j + 1) + mt k (L.drop (j + 1)) by omega)
          clear hm hm2
          go_wp2
          go_round
          case rel => exact ⟨j + 1, k, by omega, by go_num, rfl, by omega, HM.out⟩
          case measure => simp [intOf]; omega
    · obtain rfl : j = L.length := by omega
      rw [List.drop_length, mt] at hm
      have HM := hid hm
      clear hm
      go_wp2
      go_ret
      exact ⟨(congrArg (fun q : Nat => Ending.returned (.int .i64 (q : Int))) HM.out).symm, rfl⟩
end Go.Proofs.Ytihbaieiempjeaa
