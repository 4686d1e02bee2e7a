/- The judge, in the program and in the reference. -/
import Derived.Test.YtgkkljcboicipaaJudge2
import Derived.Test.YtgkkljcboicipaaMsgEq
namespace Go.Proofs.Ytgkkljcboicipaa
open Go.RowKit

/-! plain -/
def diffB (ms hs : List Int) (n i : Nat) : Bool := decide (n ≤ i) || !(eq3 (ms.getD (i * 3) 0) (ms.getD (i * 3 + 1) 0) (ms.getD (i * 3 + 2) 0) (hs.getD (i * 3) 0) (hs.getD (i * 3 + 1) 0) (hs.getD (i * 3 + 2) 0))
def blameAt (ms hs : List Int) (n N : Nat) : Int :=
  match (List.range N).find? (diffB ms hs n) with
  | some i => hs.getD (i * 3) 0
  | none => if N < n then ms.getD (N * 3) 0 else -1
noncomputable def blameI (p : Int) (xs : List Int) (r : Int) (ms : List Int) (n : Nat) : Int := if mayB p xs r then blameAt ms (honL p xs r) n (honN p xs r) else -2
def Agree (ms hs : List Int) (n j : Nat) : Prop := ∀ i, i < j → diffB ms hs n i = false
theorem agree_zero (ms hs : List Int) (n : Nat) : Agree ms hs n 0 := fun i hi => by omega
theorem agree_succ {ms hs : List Int} {n j : Nat} (h : Agree ms hs n j) (hj : diffB ms hs n j = false) : Agree ms hs n (j + 1) := fun i hi => by
  by_cases he : i = j
  · rw [he]; exact hj
  · exact h i (by omega)
theorem blame_hit {ms hs : List Int} {n N j : Nat} (h : Agree ms hs n j) (hj : j < N) (hd : diffB ms hs n j = true) : blameAt ms hs n N = hs.getD (j * 3) 0 := by
  have e : (List.range N).find? (diffB ms hs n) = some j := by
    rw [List.find?_range_eq_some]
    exact ⟨hd, List.mem_range.2 hj, fun i hi => by rw [h i hi]; rfl⟩
  unfold blameAt
  rw [e]
theorem blame_end {ms hs : List Int} {n N : Nat} (h : Agree ms hs n N) : blameAt ms hs n N = if N < n then ms.getD (N * 3) 0 else -1 := by
  have e : (List.range N).find? (diffB ms hs n) = none := by
    rw [List.find?_range_eq_none]
    exact fun i hi => by rw [h i hi]; rfl
  unfold blameAt
  rw [e]
theorem diff_far {ms hs : List Int} {n j : Nat} (h : n ≤ j) : diffB ms hs n j = true := by unfold diffB; simp [h]
theorem getD_some {xs : List Int} {i : Nat} {x : Int} (h : xs[i]? = some x) : xs.getD i 0 = x := by rw [List.getD_eq_getElem?_getD, h]; rfl
theorem diff_near {ms hs : List Int} {n j : Nat} {m0 m1 m2 h0 h1 h2 : Int} (h : j < n) (a0 : ms[j * 3]? = some m0) (a1 : ms[j * 3 + 1]? = some m1) (a2 : ms[j * 3 + 2]? = some m2)
    (b0 : hs[j * 3]? = some h0) (b1 : hs[j * 3 + 1]? = some h1) (b2 : hs[j * 3 + 2]? = some h2) : diffB ms hs n j = !(eq3 m0 m1 m2 h0 h1 h2) := by
  unfold diffB
  rw [getD_some a0, getD_some a1, getD_some a2, getD_some b0, getD_some b1, getD_some b2]
  have : decide (n ≤ j) = false := by simp; omega
  rw [this]
  rfl
theorem blameI_yes {p r : Int} {xs ms : List Int} {n : Nat} (h : mayB p xs r = true) : blameI p xs r ms n = blameAt ms (honL p xs r) n (honN p xs r) := by unfold blameI; rw [h]; rfl
theorem blameI_no {p r : Int} {xs ms : List Int} {n : Nat} (h : mayB p xs r = false) : blameI p xs r ms n = -2 := by unfold blameI; rw [h]; rfl
attribute [local go_sem ↓] run_equalIn_msg
attribute [local go_sem] run_eqGuard_msg

set_option maxRecDepth 100000 in
set_option maxHeartbeats 3200000 in
theorem iBlame (p : Int) (A B : Option Addr) (c d n : Nat) (xs : List Int) (r : Int) (ms : List Int) (w : World) (hc : Cells w w.heap.size A (ints xs)) (hn : xs.length ≤ 1000000000)
    (hq : Cells w w.heap.size B (ints ms)) (hl : ms.length = n * 3) (hn2 : n ≤ 1000000000) :
    Calls Try.prog 18 #[.int .i64 p, .slice A xs.length c, .int .i64 r, .slice B n d] w fun e w' => e = .returned (.int .i64 (blameI p xs r ms n)) ∧ Below w.heap.size w w' := by
  have HL := hid hl
  have HQ := hid hq
  clear hl hq
  cases hm : mayB p xs r
  · go_enter Try.func18, Try.ntmps18
    go_wp2_with (go_at_call 46; refine (iMayRun _ _ _ _ _ _ hc hn).mono ?_; rintro e w' ⟨rfl, rfl⟩)
    go_ret
    exact ⟨ret_int (by rw [blameI_no hm]), Below.refl _ _⟩
  have hE := blameI_yes (ms := ms) (n := n) hm
  have HE := hid hE
  have HH := hid (honL_length p xs r)
  have hN60 := honN_le p xs r
  have HC := hid hc
  clear hE hc
  go_enter Try.func18, Try.ntmps18
  go_wp2_with (go_at_call 46; refine (iMayRun _ _ _ _ _ _ HC.out hn).mono ?_; rintro e w' ⟨rfl, rfl⟩)
  refine (iHonestRun _ _ _ _ _ _ HC.out hn).mono ?_
  rintro e w1 ⟨A1, c1, rfl, hown, hb1⟩
  clear hm
  obtain ⟨N, hN⟩ : ∃ N, honN p xs r = N := ⟨_, rfl⟩
  obtain ⟨hs, hhs⟩ : ∃ hs, honL p xs r = hs := ⟨_, rfl⟩
  rw [hN, hhs] at hown
  rw [hN] at hN60 ⊢
  have HN := hid hN
  have HS := hid hhs
  have hHL : hs.length = N * 3 := by rw [← HS.out, ← HN.out]; exact HH.out
  have HHL := hid hHL
  have HO := hid hown
  have HB := hid hb1
  clear hN hhs hHL hown hb1 HH
  go_wp2_with fail
  go_loopw [10, 11, 23] (fun _ _ i wr => ∃ j : Nat, j ≤ N ∧ i = .int .i64 j ∧ wr.ownsRow w.heap.size 23 3 (.slice A1 N c1) N (ints hs) ∧ Below w.heap.size w wr ∧ Agree ms hs n j) (fun _ _ i _ => N - (intOf i).toNat)
  case atStart => exact ⟨0, Nat.zero_le _, rfl, HO.out, HB.out, agree_zero _ _ _⟩
  case round =>
    obtain ⟨j, hj, rfl, hown, hb, hag⟩ := hrel
    have HAG := hid hag
    have zr := hb.size
    clear hag
    by_cases hlt : j < N
    · obtain ⟨h0, e0⟩ : ∃ x, hs[j * 3]? = some x := ⟨_, List.getElem?_eq_getElem (by have := HHL.out; omega)⟩
      obtain ⟨h1, e1⟩ : ∃ x, hs[j * 3 + 1]? = some x := ⟨_, List.getElem?_eq_getElem (by have := HHL.out; omega)⟩
      obtain ⟨h2, e2⟩ : ∃ x, hs[j * 3 + 2]? = some x := ⟨_, List.getElem?_eq_getElem (by have := HHL.out; omega)⟩
      have HO := hid hown
      obtain ⟨g, rfl, hg0, hg1, hgc⟩ := own_at hown (by omega)
      have hc0 := hgc (j * 3) _ (ints_get e0)
      have hc1 := hgc (j * 3 + 1) _ (ints_get e1)
      have hc2 := hgc (j * 3 + 2) _ (ints_get e2)
      have E0 := hid e0
      have E1 := hid e1
      have E2 := hid e2
      have HB := hid hb
      clear hgc hown e0 e1 e2
      by_cases hjn : n ≤ j
      · clear hb
        go_wp2_with fail
        go_quiet (fail)
        go_wp2_with fail
        go_ret
        have hb := HB.out
        refine ⟨ret_int ?_, ?_⟩
        · rw [HE.out, HN.out, HS.out, blame_hit HAG.out hlt (diff_far hjn), getD_some E0.out]
        · repeat (first | (with_reducible exact Below.refl _ _) | (with_reducible refine Below.trans ?_ (Below.mono (by assumption) (by first | omega | (simp; done) | (simp; omega) | (simp [*]; done)))) | (with_reducible refine Below.alloc ?_ (by first | omega | (simp; done) | (simp; omega) | (simp [*]; done)) _) | (with_reducible refine Below.setCell ?_ (by first | omega | (simp; done) | (simp; omega) | (simp [*]; done)) _) | (with_reducible refine Below.drew ?_) | (with_reducible refine below_drewN ?_))
      · have hml := HL.out
        obtain ⟨m0, f0⟩ : ∃ x, ms[j * 3]? = some x := ⟨_, List.getElem?_eq_getElem (by omega)⟩
        obtain ⟨m1, f1⟩ : ∃ x, ms[j * 3 + 1]? = some x := ⟨_, List.getElem?_eq_getElem (by omega)⟩
        obtain ⟨m2, f2⟩ : ∃ x, ms[j * 3 + 2]? = some x := ⟨_, List.getElem?_eq_getElem (by omega)⟩
        obtain ⟨b, off, rfl, hbB, hcl⟩ := HQ.out (by rw [ints_length]; omega)
        have hd0 := (hb.cell (p := ⟨b, off + j * 3, none⟩) hbB).trans (hcl (j * 3) _ (ints_get f0))
        have hd1 := (hb.cell (p := ⟨b, off + j * 3 + 1, none⟩) hbB).trans (hcl (j * 3 + 1) _ (ints_get f1))
        have hd2 := (hb.cell (p := ⟨b, off + j * 3 + 2, none⟩) hbB).trans (hcl (j * 3 + 2) _ (ints_get f2))
        have hdf := diff_near (ms := ms) (hs := hs) (by omega : j < n) f0 f1 f2 E0.out E1.out E2.out
        have HDF := hid hdf
        have hnj : decide (n ≤ j) = false := by simp; omega
        have hjn' : (j : Int) < (n : Int) := by omega
        have hbr : b < wr.heap.size := by omega
        clear hcl hdf hb f0 f1 f2 hml hjn
        cases he : eq3 m0 m1 m2 h0 h1 h2
        · go_wp2_with fail
          go_quiet (fail)
          go_wp2_with fail
          go_ret
          have hb := HB.out
          refine ⟨ret_int ?_, ?_⟩
          · rw [HE.out, HN.out, HS.out, blame_hit HAG.out hlt (by rw [HDF.out, he]; rfl), getD_some E0.out]
          · repeat (first | (with_reducible exact Below.refl _ _) | (with_reducible refine Below.trans ?_ (Below.mono (by assumption) (by first | omega | (simp; done) | (simp; omega) | (simp [*]; done)))) | (with_reducible refine Below.alloc ?_ (by first | omega | (simp; done) | (simp; omega) | (simp [*]; done)) _) | (with_reducible refine Below.setCell ?_ (by first | omega | (simp; done) | (simp; omega) | (simp [*]; done)) _) | (with_reducible refine Below.drew ?_) | (with_reducible refine below_drewN ?_))
        · go_wp2_with fail
          go_quiet (fail)
          go_wp2_with fail
          go_roundw
          case rel => exact ⟨j + 1, by omega, by go_num, (by have ho := HO.out; repeat (first | (with_reducible assumption) | (with_reducible apply World.ownsRow.drew) | (with_reducible apply own_drewN) | (with_reducible apply World.ownsRow.alloc) | (with_reducible refine own_set ?_ _ _ (by first | omega | (simp; omega) | (dsimp only; omega))))), (by have hb := HB.out; repeat (first | (with_reducible exact Below.refl _ _) | (with_reducible refine Below.trans ?_ (Below.mono (by assumption) (by first | omega | (simp; done) | (simp; omega) | (simp [*]; done)))) | (with_reducible refine Below.alloc ?_ (by first | omega | (simp; done) | (simp; omega) | (simp [*]; done)) _) | (with_reducible refine Below.setCell ?_ (by first | omega | (simp; done) | (simp; omega) | (simp [*]; done)) _) | (with_reducible refine Below.drew ?_) | (with_reducible refine below_drewN ?_))), agree_succ HAG.out (by rw [HDF.out, he]; rfl)⟩
          case measure => simp [intOf]; omega
    · obtain rfl : j = N := by omega
      have HB := hid hb
      have HF := hid (blame_end HAG.out)
      clear hown
      by_cases hNn : j < n
      · obtain ⟨m0, f0⟩ : ∃ x, ms[j * 3]? = some x := ⟨_, List.getElem?_eq_getElem (by have := HL.out; omega)⟩
        obtain ⟨b, off, rfl, hbB, hcl⟩ := HQ.out (by rw [ints_length]; have := HL.out; omega)
        have hd0 := (hb.cell (p := ⟨b, off + j * 3, none⟩) hbB).trans (hcl (j * 3) _ (ints_get f0))
        have F0 := hid f0
        have hjn' : (j : Int) < (n : Int) := by omega
        clear hcl hb f0
        go_wp2_with fail
        go_ret
        refine ⟨ret_int ?_, HB.out⟩
        rw [HE.out, HN.out, HS.out, HF.out, if_pos hNn, getD_some F0.out]
      · clear hb
        go_wp2_with fail
        go_ret
        refine ⟨ret_int ?_, HB.out⟩
        rw [HE.out, HN.out, HS.out, HF.out, if_neg hNn]
set_option maxRecDepth 100000 in
set_option maxHeartbeats 3200000 in
theorem sBlame (p : Int) (A B : Option Addr) (c d n : Nat) (xs : List Int) (r : Int) (ms : List Int) (w : World) (hc : Cells w w.heap.size A (ints xs)) (hn : xs.length ≤ 1000000000)
    (hq : Cells w w.heap.size B (ints ms)) (hl : ms.length = n * 3) (hn2 : n ≤ 1000000000) :
    Calls Try.prog 31 #[.int .i64 p, .slice A xs.length c, .int .i64 r, .slice B n d] w fun e w' => e = .returned (.int .i64 (blameI p xs r ms n)) ∧ Below w.heap.size w w' := by
  have HL := hid hl
  have HQ := hid hq
  clear hl hq
  cases hm : mayB p xs r
  · go_enter Try.func31, Try.ntmps31
    go_wp2_with (go_at_call 52; refine (sMayRun _ _ _ _ _ _ hc hn).mono ?_; rintro e w' ⟨rfl, rfl⟩)
    go_ret
    exact ⟨ret_int (by rw [blameI_no hm]), Below.refl _ _⟩
  have hE := blameI_yes (ms := ms) (n := n) hm
  have HE := hid hE
  have HH := hid (honL_length p xs r)
  have hN60 := honN_le p xs r
  have HC := hid hc
  clear hE hc
  go_enter Try.func31, Try.ntmps31
  go_wp2_with (go_at_call 52; refine (sMayRun _ _ _ _ _ _ HC.out hn).mono ?_; rintro e w' ⟨rfl, rfl⟩)
  refine (sHonestRun _ _ _ _ _ _ HC.out hn).mono ?_
  rintro e w1 ⟨A1, c1, rfl, hown, hb1⟩
  clear hm
  obtain ⟨N, hN⟩ : ∃ N, honN p xs r = N := ⟨_, rfl⟩
  obtain ⟨hs, hhs⟩ : ∃ hs, honL p xs r = hs := ⟨_, rfl⟩
  rw [hN, hhs] at hown
  rw [hN] at hN60 ⊢
  have HN := hid hN
  have HS := hid hhs
  have hHL : hs.length = N * 3 := by rw [← HS.out, ← HN.out]; exact HH.out
  have HHL := hid hHL
  have HO := hid hown
  have HB := hid hb1
  clear hN hhs hHL hown hb1 HH
  go_wp2_with fail
  go_loopw [10] (fun i wr => ∃ j : Nat, j ≤ N ∧ i = .int .i64 j ∧ wr.ownsRow w.heap.size 23 3 (.slice A1 N c1) N (ints hs) ∧ Below w.heap.size w wr ∧ Agree ms hs n j) (fun i _ => N - (intOf i).toNat)
  case atStart => exact ⟨0, Nat.zero_le _, rfl, HO.out, HB.out, agree_zero _ _ _⟩
  case round =>
    obtain ⟨j, hj, rfl, hown, hb, hag⟩ := hrel
    have HAG := hid hag
    have zr := hb.size
    clear hag
    by_cases hlt : j < N
    · have hltN : (j : Int) < (N : Int) := by omega
      obtain ⟨h0, e0⟩ : ∃ x, hs[j * 3]? = some x := ⟨_, List.getElem?_eq_getElem (by have := HHL.out; omega)⟩
      obtain ⟨h1, e1⟩ : ∃ x, hs[j * 3 + 1]? = some x := ⟨_, List.getElem?_eq_getElem (by have := HHL.out; omega)⟩
      obtain ⟨h2, e2⟩ : ∃ x, hs[j * 3 + 2]? = some x := ⟨_, List.getElem?_eq_getElem (by have := HHL.out; omega)⟩
      have HO := hid hown
      obtain ⟨g, rfl, hg0, hg1, hgc⟩ := own_at hown (by omega)
      have hc0 := hgc (j * 3) _ (ints_get e0)
      have hc1 := hgc (j * 3 + 1) _ (ints_get e1)
      have hc2 := hgc (j * 3 + 2) _ (ints_get e2)
      have E0 := hid e0
      have E1 := hid e1
      have E2 := hid e2
      have HB := hid hb
      clear hgc hown e0 e1 e2
      by_cases hjn : n ≤ j
      · clear hb
        go_wp2_with fail
        go_quiet (fail)
        go_wp2_with fail
        go_ret
        have hb := HB.out
        refine ⟨ret_int ?_, ?_⟩
        · rw [HE.out, HN.out, HS.out, blame_hit HAG.out hlt (diff_far hjn), getD_some E0.out]
        · repeat (first | (with_reducible exact Below.refl _ _) | (with_reducible refine Below.trans ?_ (Below.mono (by assumption) (by first | omega | (simp; done) | (simp; omega) | (simp [*]; done)))) | (with_reducible refine Below.alloc ?_ (by first | omega | (simp; done) | (simp; omega) | (simp [*]; done)) _) | (with_reducible refine Below.setCell ?_ (by first | omega | (simp; done) | (simp; omega) | (simp [*]; done)) _) | (with_reducible refine Below.drew ?_) | (with_reducible refine below_drewN ?_))
      · have hml := HL.out
        obtain ⟨m0, f0⟩ : ∃ x, ms[j * 3]? = some x := ⟨_, List.getElem?_eq_getElem (by omega)⟩
        obtain ⟨m1, f1⟩ : ∃ x, ms[j * 3 + 1]? = some x := ⟨_, List.getElem?_eq_getElem (by omega)⟩
        obtain ⟨m2, f2⟩ : ∃ x, ms[j * 3 + 2]? = some x := ⟨_, List.getElem?_eq_getElem (by omega)⟩
        obtain ⟨b, off, rfl, hbB, hcl⟩ := HQ.out (by rw [ints_length]; omega)
        have hd0 := (hb.cell (p := ⟨b, off + j * 3, none⟩) hbB).trans (hcl (j * 3) _ (ints_get f0))
        have hd1 := (hb.cell (p := ⟨b, off + j * 3 + 1, none⟩) hbB).trans (hcl (j * 3 + 1) _ (ints_get f1))
        have hd2 := (hb.cell (p := ⟨b, off + j * 3 + 2, none⟩) hbB).trans (hcl (j * 3 + 2) _ (ints_get f2))
        have hdf := diff_near (ms := ms) (hs := hs) (by omega : j < n) f0 f1 f2 E0.out E1.out E2.out
        have HDF := hid hdf
        have hnj : decide (n ≤ j) = false := by simp; omega
        have hjn' : (j : Int) < (n : Int) := by omega
        have hbr : b < wr.heap.size := by omega
        clear hcl hdf hb f0 f1 f2 hml hjn
        cases he : eq3 m0 m1 m2 h0 h1 h2
        · go_wp2_with fail
          go_quiet (fail)
          go_wp2_with fail
          go_ret
          have hb := HB.out
          refine ⟨ret_int ?_, ?_⟩
          · rw [HE.out, HN.out, HS.out, blame_hit HAG.out hlt (by rw [HDF.out, he]; rfl), getD_some E0.out]
          · repeat (first | (with_reducible exact Below.refl _ _) | (with_reducible refine Below.trans ?_ (Below.mono (by assumption) (by first | omega | (simp; done) | (simp; omega) | (simp [*]; done)))) | (with_reducible refine Below.alloc ?_ (by first | omega | (simp; done) | (simp; omega) | (simp [*]; done)) _) | (with_reducible refine Below.setCell ?_ (by first | omega | (simp; done) | (simp; omega) | (simp [*]; done)) _) | (with_reducible refine Below.drew ?_) | (with_reducible refine below_drewN ?_))
        · go_wp2_with fail
          go_quiet (fail)
          go_wp2_with fail
          go_roundw
          case rel => exact ⟨j + 1, by omega, by go_num, (by have ho := HO.out; repeat (first | (with_reducible assumption) | (with_reducible apply World.ownsRow.drew) | (with_reducible apply own_drewN) | (with_reducible apply World.ownsRow.alloc) | (with_reducible refine own_set ?_ _ _ (by first | omega | (simp; omega) | (dsimp only; omega))))), (by have hb := HB.out; repeat (first | (with_reducible exact Below.refl _ _) | (with_reducible refine Below.trans ?_ (Below.mono (by assumption) (by first | omega | (simp; done) | (simp; omega) | (simp [*]; done)))) | (with_reducible refine Below.alloc ?_ (by first | omega | (simp; done) | (simp; omega) | (simp [*]; done)) _) | (with_reducible refine Below.setCell ?_ (by first | omega | (simp; done) | (simp; omega) | (simp [*]; done)) _) | (with_reducible refine Below.drew ?_) | (with_reducible refine below_drewN ?_))), agree_succ HAG.out (by rw [HDF.out, he]; rfl)⟩
          case measure => simp [intOf]; omega
    · obtain rfl : j = N := by omega
      have HB := hid hb
      have HF := hid (blame_end HAG.out)
      clear hown
      by_cases hNn : j < n
      · obtain ⟨m0, f0⟩ : ∃ x, ms[j * 3]? = some x := ⟨_, List.getElem?_eq_getElem (by have := HL.out; omega)⟩
        obtain ⟨b, off, rfl, hbB, hcl⟩ := HQ.out (by rw [ints_length]; have := HL.out; omega)
        have hd0 := (hb.cell (p := ⟨b, off + j * 3, none⟩) hbB).trans (hcl (j * 3) _ (ints_get f0))
        have F0 := hid f0
        have hjn' : (j : Int) < (n : Int) := by omega
        clear hcl hb f0
        go_wp2_with fail
        go_ret
        refine ⟨ret_int ?_, HB.out⟩
        rw [HE.out, HN.out, HS.out, HF.out, if_pos hNn, getD_some F0.out]
      · clear hb
        go_wp2_with fail
        go_ret
        refine ⟨ret_int ?_, HB.out⟩
        rw [HE.out, HN.out, HS.out, HF.out, if_neg hNn]
end Go.Proofs.Ytgkkljcboicipaa
