import Derived.Test.YtjknadnknainbaaGreatDoorMem
import Derived.Test.YtjknadnknainbaaGreatDoorTickets2
import Derived.Test.YtjknadnknainbaaGreatDoorFlat
import Derived.Test.YtjknadnknainbaaGreatDoorJobS
import Derived.Outline
import Derived.Deep.RegionHeld3
import Derived.BigQuiet
/- SchedOk of the program. -/
namespace Go.Proofs.YtjknadnknainbaaGreatDoor
open Go.RowKit

theorem jb_cells {w : World} {B : Nat} {A : Option Addr} {js : List Jb} (h : Cells w B A (ints (flatJ js))) {k : Nat} {j : Jb} (hj : js[k]? = some j) :
    ∃ b off, A = some ⟨b, off, none⟩ ∧ b < B ∧ w.cell? ⟨b, off + k * 4, none⟩ = some (.int .i64 j.i) ∧ w.cell? ⟨b, off + k * 4 + 1, none⟩ = some (.int .i64 j.n) ∧ w.cell? ⟨b, off + k * 4 + 2, none⟩ = some (.int .i64 j.l) ∧ w.cell? ⟨b, off + k * 4 + 3, none⟩ = some (.int .i64 j.d) := by
  have hk : k < js.length := (List.getElem?_eq_some_iff.1 hj).1
  obtain ⟨b, off, hA, hb, hc⟩ := h (by rw [ints_length, flatJ_length]; omega)
  refine ⟨b, off, hA, hb, ?_, ?_, ?_, ?_⟩
  · simpa using hc (k * 4 + 0) _ (ints_get (flatJ_at hj 0 j.i rfl))
  · simpa [Nat.add_assoc] using hc (k * 4 + 1) _ (ints_get (flatJ_at hj 1 j.n rfl))
  · simpa [Nat.add_assoc] using hc (k * 4 + 2) _ (ints_get (flatJ_at hj 2 j.l rfl))
  · simpa [Nat.add_assoc] using hc (k * 4 + 3) _ (ints_get (flatJ_at hj 3 j.d rfl))
theorem jbIn_iff {j : Jb} : jbIn j = true ↔ (1 ≤ j.i ∧ j.i ≤ 1000) ∧ (1 ≤ j.n ∧ j.n ≤ 10) ∧ (1 ≤ j.l ∧ j.l ≤ 20) ∧ 0 ≤ j.d ∧ j.d ≤ 20 := by
  unfold jbIn
  simp only [Bool.and_eq_true, inB_iff]
  exact ⟨fun h => ⟨h.1.1.1, h.1.1.2, h.1.2, h.2⟩, fun h => ⟨⟨⟨h.1, h.2.1⟩, h.2.2.1⟩, h.2.2.2⟩⟩
theorem jb_way (j : Jb) : jbIn j = true ∨ inB j.i 1 1000 = false ∨ (inB j.i 1 1000 = true ∧ inB j.n 1 10 = false) ∨ (inB j.i 1 1000 = true ∧ inB j.n 1 10 = true ∧ inB j.l 1 20 = false) ∨ (inB j.i 1 1000 = true ∧ inB j.n 1 10 = true ∧ inB j.l 1 20 = true ∧ inB j.d 0 20 = false) := by
  unfold jbIn
  cases inB j.i 1 1000 <;> cases inB j.n 1 10 <;> cases inB j.l 1 20 <;> cases inB j.d 0 20 <;> simp
set_option maxRecDepth 100000 in
set_option maxHeartbeats 6400000 in
theorem iSchedOk (S : SV) (J T F : Option Addr) (cj ct nf cf : Nat) (w : World) (h1 : Cells w w.heap.size J (ints (flatJ S.js))) (h2 : Cells w w.heap.size T (ints (flatT S.ts))) (hct : S.ts.length ≤ ct)
    (b1 : S.js.length ≤ 1000000000) (b2 : S.ts.length ≤ 1000000000) :
    Calls Tryz.prog 46 #[.agg #[.int .i64 S.z, .int .i64 S.n, .int .i64 S.b, .slice J S.js.length cj, .slice T S.ts.length ct, .slice F nf cf]] w fun e w' => e = .returned (.bool (schedOkB S)) ∧ Below w.heap.size w w' := by
  obtain ⟨z, n, b, js, ts, fs⟩ := S
  dsimp only at *
  obtain ⟨r, hr⟩ : ∃ r, schedOkB ⟨z, n, b, js, ts, fs⟩ = r := ⟨_, rfl⟩
  rw [hr]
  obtain ⟨nj, hnj⟩ : ∃ n, js.length = n := ⟨_, rfl⟩
  obtain ⟨nt, hnt⟩ : ∃ n, ts.length = n := ⟨_, rfl⟩
  have hP := iPoolOk z n b
  have hT := fun X hX => iTickets T ct ts X hX hct (by omega)
  rw [hnt] at hct b2 hT
  rw [hnj] at b1
  rw [hnj, hnt]
  have HR := hid hr
  have HJ := hid hnj
  have HN := hid hnt
  clear hr hnj hnt
  have hno : ¬ schedOk ⟨z, n, b, js, ts, fs⟩ → false = r := fun h => by rw [← HR.out, schedOkB_no h]
  have HNO := hid hno
  clear hno
  cases p1 : poolOkB z n b
  · skip
    have HF := hid (HNO.out fun h => by have := h.1; rw [p1] at this; cases this)
    rw [← HF.out]
    rw [p1] at hP
    have HP := hid hP
    clear hP hT
    go_enter Tryz.func46, Tryz.ntmps46
    have b_0 := (Below.refl w.heap.size w)
    have s_0 := b_0.size
    go_wp2_with fail
    refine calls_forget1 (W := w) (b0 := w.heap.size) (t0 := 40) (c0 := #[.int .i64 z, .int .i64 n, .int .i64 b, .slice J nj cj, .slice T nt ct, .slice F nf cf]) ?_ ?_ ?_
    (focus exact blkcBy)
    (focus (exact belBy))
    intro X1 bx_n hX1
    have sX1 := hX1.size
    have bx_lt := bx_n.lt
    refine (HP.out _).mono ?_
    rintro e w1 ⟨rfl, hb1⟩
    have s1 := hb1.size
    have hT1 := hX1.trans (hb1.mono sX1)
    have b_1 := b_0.trans (hT1.mono (by omega))
    have bx_1 := Blk.past hb1 bx_n
    clear b_0 bx_n hX1 hT1 hb1
    have cell_bx := bx_1.cell
    have froz_bx := bx_1.frozen
    have lt_bx := bx_1.lt
    go_wp2
    go_ret
    refine ⟨rfl, b_1.trans ?_⟩
    exact belBy
  by_cases p2 : nj ≤ 16
  case neg =>
    have HF := hid (HNO.out fun h => by have h1 := h.2.1; dsimp only at h1; have := HJ.out; omega)
    rw [← HF.out]
    rw [p1] at hP
    have HP := hid hP
    clear hP hT
    go_enter Tryz.func46, Tryz.ntmps46
    have b_0 := (Below.refl w.heap.size w)
    have s_0 := b_0.size
    go_wp2_with fail
    refine calls_forget1 (W := w) (b0 := w.heap.size) (t0 := 40) (c0 := #[.int .i64 z, .int .i64 n, .int .i64 b, .slice J nj cj, .slice T nt ct, .slice F nf cf]) ?_ ?_ ?_
    (focus exact blkcBy)
    (focus (exact belBy))
    intro X1 bx_n hX1
    have sX1 := hX1.size
    have bx_lt := bx_n.lt
    refine (HP.out _).mono ?_
    rintro e w1 ⟨rfl, hb1⟩
    have s1 := hb1.size
    have hT1 := hX1.trans (hb1.mono sX1)
    have b_1 := b_0.trans (hT1.mono (by omega))
    have bx_1 := Blk.past hb1 bx_n
    clear b_0 bx_n hX1 hT1 hb1
    have cell_bx := bx_1.cell
    have froz_bx := bx_1.frozen
    have lt_bx := bx_1.lt
    go_wp2
    go_ret
    refine ⟨rfl, b_1.trans ?_⟩
    exact belBy
  cases p3 : tksOkB ts
  · skip
    have HF := hid (HNO.out fun h => by have := h.2.2.1; rw [← tksOkB_iff, p3] at this; cases this)
    rw [← HF.out]
    rw [p1] at hP
    rw [p3] at hT
    have HP := hid hP
    have HT := hid hT
    clear hP hT
    go_enter Tryz.func46, Tryz.ntmps46
    have b_0 := (Below.refl w.heap.size w)
    have s_0 := b_0.size
    have at__0 := h2
    clear h2
    go_wp2_with fail
    refine calls_forget1 (W := w) (b0 := w.heap.size) (t0 := 40) (c0 := #[.int .i64 z, .int .i64 n, .int .i64 b, .slice J nj cj, .slice T nt ct, .slice F nf cf]) ?_ ?_ ?_
    (focus exact blkcBy)
    (focus (exact belBy))
    intro X1 bx_n hX1
    have sX1 := hX1.size
    have bx_lt := bx_n.lt
    refine (HP.out _).mono ?_
    rintro e w1 ⟨rfl, hb1⟩
    have s1 := hb1.size
    have hT1 := hX1.trans (hb1.mono sX1)
    have b_1 := b_0.trans (hT1.mono (by omega))
    have at__1 := cells_below at__0 hT1 (by omega)
    have bx_1 := Blk.past hb1 bx_n
    clear at__0 b_0 bx_n hX1 hT1 hb1
    have cell_bx := bx_1.cell
    have froz_bx := bx_1.frozen
    have lt_bx := bx_1.lt
    go_wp2_with fail
    refine calls_forget0 (W := w1) ?_ ?_
    (focus (exact belBy))
    intro X2 hX2
    have sX2 := hX2.size
    refine (HT.out _ ((cells_below at__1 hX2 (by omega)).more (by omega))).mono ?_
    rintro e w2 ⟨rfl, hb2⟩
    have s2 := hb2.size
    have hT2 := hX2.trans (hb2.mono sX2)
    have b_2 := b_1.trans (hT2.mono (by omega))
    have at__2 := cells_below at__1 hT2 (by omega)
    have bx_2 := Blk.past hT2 bx_1
    clear at__1 bx_1 b_1 cell_bx froz_bx lt_bx hX2 hT2 hb2
    have cell_bx := bx_2.cell
    have froz_bx := bx_2.frozen
    have lt_bx := bx_2.lt
    go_wp2
    go_ret
    refine ⟨rfl, b_2.trans ?_⟩
    exact belBy
  · skip
    rw [p1] at hP
    rw [p3] at hT
    have HP := hid hP
    have HT := hid hT
    have HA1 := hid h1
    have HA2 := hid h2
    clear hP hT h1
    have hmm := @run_makeMap Tryz.prog
    go_enter Tryz.func46, Tryz.ntmps46
    have b_0 := (Below.refl w.heap.size w)
    have s_0 := b_0.size
    have at__0 := h2
    clear h2
    go_wp2_with fail
    refine calls_forget1 (W := w) (b0 := w.heap.size) (t0 := 40) (c0 := #[.int .i64 z, .int .i64 n, .int .i64 b, .slice J nj cj, .slice T nt ct, .slice F nf cf]) ?_ ?_ ?_
    (focus exact blkcBy)
    (focus (exact belBy))
    intro X1 bx_n hX1
    have sX1 := hX1.size
    have bx_lt := bx_n.lt
    refine (HP.out _).mono ?_
    rintro e w1 ⟨rfl, hb1⟩
    have s1 := hb1.size
    have hT1 := hX1.trans (hb1.mono sX1)
    have b_1 := b_0.trans (hT1.mono (by omega))
    have at__1 := cells_below at__0 hT1 (by omega)
    have bx_1 := Blk.past hb1 bx_n
    clear at__0 b_0 bx_n hX1 hT1 hb1
    have cell_bx := bx_1.cell
    have froz_bx := bx_1.frozen
    have lt_bx := bx_1.lt
    go_wp2_with fail
    refine calls_forget0 (W := w1) ?_ ?_
    (focus (exact belBy))
    intro X2 hX2
    have sX2 := hX2.size
    refine (HT.out _ ((cells_below at__1 hX2 (by omega)).more (by omega))).mono ?_
    rintro e w2 ⟨rfl, hb2⟩
    have s2 := hb2.size
    have hT2 := hX2.trans (hb2.mono sX2)
    have b_2 := b_1.trans (hT2.mono (by omega))
    have at__2 := cells_below at__1 hT2 (by omega)
    have bx_2 := Blk.past hT2 bx_1
    clear at__1 bx_1 b_1 cell_bx froz_bx lt_bx hX2 hT2 hb2
    have cell_bx := bx_2.cell
    have froz_bx := bx_2.frozen
    have lt_bx := bx_2.lt
    clear at__2
    have HB := hid b_2
    have HBX := hid bx_2
    clear b_2 bx_2 froz_bx
    go_wp2
    have hmb := HBX.out.lt
    go_loopw [28] (fun i wr => ∃ (k : Nat) (P : Int → Bool), k ≤ nj ∧ i = .int .i64 k ∧ Below w.heap.size w wr ∧ Blk wr w.heap.size 40 #[.int .i64 z, .int .i64 n, .int .i64 b, .slice J nj cj, .slice T nt ct, .slice F nf cf] ∧ Seen Tryz.prog 3 4 wr w2.heap.size k P ∧ (∀ y, P y = true ↔ ∃ q j, q < k ∧ js[q]? = some j ∧ j.i = y) ∧ (∀ q j, q < k → js[q]? = some j → jbIn j = true) ∧ (∀ (i q : Nat) (j x : Jb), i < k → js[i]? = some j → js[q]? = some x → q < i → x.i ≠ j.i)) (fun i _ => nj - (intOf i).toNat)
    case atStart =>
      refine ⟨0, fun _ => false, Nat.zero_le _, rfl, ?_, HBX.out.alloc _, Seen.made rfl, fun y => ⟨fun h => (by cases h), fun ⟨q, _, h, _⟩ => absurd h (by omega)⟩, fun q _ h => absurd h (by omega), fun i _ _ _ h => absurd h (by omega)⟩
      have hb := HB.out
      exact belBy
    case round =>
      obtain ⟨k, P, hk, rfl, hb, kb, hs, hP, hin, hap⟩ := hrel
      have HBr := hid hb
      have HKB := hid kb
      have HS := hid hs
      have HPP := hid hP
      have HI := hid hin
      have HAP := hid hap
      have zr := hb.size
      have hsl := hs.lt
      by_cases hlt : k < nj
      · skip
        obtain ⟨j, hj⟩ : ∃ j, js[k]? = some j := ⟨_, List.getElem?_eq_getElem (by have := HJ.out; omega)⟩
        obtain ⟨bb, off, rfl, hB, c0, c1, c2, c3⟩ := jb_cells HA1.out hj
        have d0 : wr.cell? ⟨bb, off + k * 4, none⟩ = some (.int .i64 j.i) := (hb.cell (p := ⟨bb, off + k * 4, none⟩) hB).trans c0
        have d1 : wr.cell? ⟨bb, off + k * 4 + 1, none⟩ = some (.int .i64 j.n) := (hb.cell (p := ⟨bb, off + k * 4 + 1, none⟩) hB).trans c1
        have d2 : wr.cell? ⟨bb, off + k * 4 + 2, none⟩ = some (.int .i64 j.l) := (hb.cell (p := ⟨bb, off + k * 4 + 2, none⟩) hB).trans c2
        have d3 : wr.cell? ⟨bb, off + k * 4 + 3, none⟩ = some (.int .i64 j.d) := (hb.cell (p := ⟨bb, off + k * 4 + 3, none⟩) hB).trans c3
        have hBr : bb < wr.heap.size := by omega
        have HJJ := hid hj
        obtain ⟨⟨ji, jn, jl, jd⟩, rfl⟩ : ∃ q : Jb, q = j := ⟨j, rfl⟩
        dsimp only at d0 d1 d2 d3
        clear hb kb hs hP hin hap hj c0 c1 c2 c3
        have HW := hid (jb_way ⟨ji, jn, jl, jd⟩)
        have HF := fun (h : jbIn ⟨ji, jn, jl, jd⟩ = false) => hid (HNO.out fun h' => by
          have := h'.2.2.2.1.1 _ (List.mem_of_getElem? HJJ.out)
          rw [h] at this
          cases this)
        have HF2 := fun (h : P ji = true) => hid (HNO.out fun h' => by
          obtain ⟨q, x, hq, hx, e⟩ := (HPP.out ji).1 h
          exact h'.2.2.2.1.2 k q _ x HJJ.out hx hq e)
        rcases HW.out with hy | hy | ⟨hy1, hy⟩ | ⟨hy1, hy2, hy⟩ | ⟨hy1, hy2, hy3, hy⟩
        · skip
          have hyy := hy
          unfold jbIn at hyy
          simp only [Bool.and_eq_true] at hyy
          obtain ⟨⟨⟨y1, y2⟩, y3⟩, y4⟩ := hyy
          have HWF := hid (WalkArith.wf_i64 (show -9223372036854775808 ≤ ji ∧ ji ≤ 9223372036854775807 by have := inB_iff.1 y1; omega))
          cases hp : P ji
          · skip
            have HP2 := hid hp
            have HY := hid hy
            clear hy HF HF2
            go_wp2_with (first | (go_at_call 65; refine (iWithin _ _ _ _).mono ?_; rintro e w' ⟨rfl, rfl⟩) | (at_lookup; refine wpList_open (by rfl) ?_; refine wpList_lookup_seen rfl _ _ 101 rfl Tryz.underlying101 Tryz.underlying3 Tryz.underlying4 (by kernel_rfl) rfl (by (repeat (first | (with_reducible exact HS.out) | (with_reducible apply Seen.drew) | (with_reducible apply Seen.alloc) | (with_reducible refine Seen.set_ ?_ _ _ (by dsimp only; omega))))) _ rfl HWF.out ?_) | (at_mapUpdate; refine wpList_update_seen rfl _ _ _ 101 rfl Tryz.underlying101 Tryz.underlying3 Tryz.underlying4 rfl (by (repeat (first | (with_reducible exact HS.out) | (with_reducible apply Seen.drew) | (with_reducible apply Seen.alloc) | (with_reducible refine Seen.set_ ?_ _ _ (by dsimp only; omega))))) (by unfold maxLen; omega) _ rfl rfl HWF.out ?_; intro w3 hs3 hg3))
            go_roundw
            case rel =>
              have hb := HBr.out
              have kb := HKB.out
              refine ⟨k + 1, _, by omega, by go_num, ?_, ?_, hs3, ?_, ?_, ?_⟩
              · refine gr_below hg3 (?_ : Below w.heap.size w _) (by simp; omega) (fun q hq => by cases hq; omega)
                exact belBy
              · refine gr_blk hg3 (?_ : Blk _ w.heap.size _ _) (fun q hq => by cases hq; omega)
                exact blkBy
              · intro y
                rw [Bool.or_eq_true, HPP.out y, decide_eq_true_iff]
                constructor
                · rintro (⟨q, x, hq, hx, e⟩ | e)
                  · exact ⟨q, x, by omega, hx, e⟩
                  · exact ⟨k, _, by omega, HJJ.out, e.symm⟩
                · rintro ⟨q, x, hq, hx, e⟩
                  by_cases hqk : q < k
                  · exact Or.inl ⟨q, x, hqk, hx, e⟩
                  · obtain rfl : q = k := by omega
                    rw [HJJ.out] at hx
                    cases hx
                    exact Or.inr e.symm
              · intro q x hq hx
                by_cases hqk : q < k
                · exact HI.out q x hqk hx
                · obtain rfl : q = k := by omega
                  rw [HJJ.out] at hx
                  cases hx
                  exact HY.out
              · intro i q j x hi hij hqx hqi
                by_cases hik : i < k
                · exact HAP.out i q j x hik hij hqx hqi
                · obtain rfl : i = k := by omega
                  rw [HJJ.out] at hij
                  cases hij
                  intro e
                  have := (HPP.out ji).2 ⟨q, x, hqi, hqx, e⟩
                  rw [HP2.out] at this
                  cases this
            case measure => simp [intOf]; omega
          · skip
            have HG := HF2 hp
            clear HF HF2
            go_wp2_with (first | (go_at_call 65; refine (iWithin _ _ _ _).mono ?_; rintro e w' ⟨rfl, rfl⟩) | (at_lookup; refine wpList_open (by rfl) ?_; refine wpList_lookup_seen rfl _ _ 101 rfl Tryz.underlying101 Tryz.underlying3 Tryz.underlying4 (by kernel_rfl) rfl (by (repeat (first | (with_reducible exact HS.out) | (with_reducible apply Seen.drew) | (with_reducible apply Seen.alloc) | (with_reducible refine Seen.set_ ?_ _ _ (by dsimp only; omega))))) _ rfl HWF.out ?_))
            go_ret
            refine ⟨ret_bool HG.out, ?_⟩
            have hb := HBr.out
            exact belBy
        · skip
          have HG := HF (by simp only [jbIn, hy, Bool.false_and])
          clear HF HF2
          go_wp2_with (first | (go_at_call 65; refine (iWithin _ _ _ _).mono ?_; rintro e w' ⟨rfl, rfl⟩))
          go_ret
          refine ⟨ret_bool HG.out, ?_⟩
          have hb := HBr.out
          exact belBy
        all_goals
          have HG := HF (by simp only [jbIn, hy, Bool.and_false, Bool.false_and])
          have HWF := hid (WalkArith.wf_i64 (show -9223372036854775808 ≤ ji ∧ ji ≤ 9223372036854775807 by have hz := inB_iff.1 hy1; dsimp only at hz; omega))
          clear HF HF2
          cases hp : P ji
          all_goals
            go_wp2_with (first | (go_at_call 65; refine (iWithin _ _ _ _).mono ?_; rintro e w' ⟨rfl, rfl⟩) | (at_lookup; refine wpList_open (by rfl) ?_; refine wpList_lookup_seen rfl _ _ 101 rfl Tryz.underlying101 Tryz.underlying3 Tryz.underlying4 (by kernel_rfl) rfl (by (repeat (first | (with_reducible exact HS.out) | (with_reducible apply Seen.drew) | (with_reducible apply Seen.alloc) | (with_reducible refine Seen.set_ ?_ _ _ (by dsimp only; omega))))) _ rfl HWF.out ?_))
            go_ret
            refine ⟨ret_bool HG.out, ?_⟩
            have hb := HBr.out
            exact belBy
      · obtain rfl : k = nj := by omega
        have HJS : Hid (jbsOk js) := hid ⟨fun j hj => by
          obtain ⟨q, hq⟩ := List.getElem?_of_mem hj
          exact HI.out q j (by have := (List.getElem?_eq_some_iff.1 hq).1; have := HJ.out; omega) hq, fun i q j x hi hq hqi => HAP.out i q j x (by have := (List.getElem?_eq_some_iff.1 hi).1; have := HJ.out; omega) hi hq hqi⟩
        have cell_b := kb.cell
        clear hb kb hs hP hin hap HPP HI HAP HS cell_bx
        go_wp2
        go_loopw [67] (fun i wx => ∃ m : Nat, m ≤ nt ∧ i = .int .i64 m ∧ Below w.heap.size w wx ∧ Blk wx w.heap.size 40 #[.int .i64 z, .int .i64 n, .int .i64 b, .slice J k cj, .slice T nt ct, .slice F nf cf] ∧ ∀ q t, q < m → ts[q]? = some t → t.f + t.c ≤ n) (fun i _ => nt - (intOf i).toNat)
        case atStart => exact ⟨0, Nat.zero_le _, rfl, HBr.out, HKB.out, fun q _ h => absurd h (by omega)⟩
        case round =>
          obtain ⟨m, hm, rfl, hb, kb, hle⟩ := hrel
          have HBr := hid hb
          have HKB := hid kb
          have HLE := hid hle
          have zr := hb.size
          have cell_b := kb.cell
          have froz_b := kb.frozen
          have lt_b := kb.lt
          by_cases hlt2 : m < nt
          · skip
            obtain ⟨t, ht⟩ : ∃ t, ts[m]? = some t := ⟨_, List.getElem?_eq_getElem (by have := HN.out; omega)⟩
            obtain ⟨bb, off, rfl, hB, c0, c1⟩ := tk_cells HA2.out ht
            have d0 : wr.cell? ⟨bb, off + m * 2, none⟩ = some (.int .i64 t.f) := (hb.cell (p := ⟨bb, off + m * 2, none⟩) hB).trans c0
            have d1 : wr.cell? ⟨bb, off + m * 2 + 1, none⟩ = some (.int .i64 t.c) := (hb.cell (p := ⟨bb, off + m * 2 + 1, none⟩) hB).trans c1
            obtain ⟨⟨t1, t2⟩, t3, t4⟩ := tkIn_at (tksOkB_iff.1 p3).2.1 ht
            have hBr : bb < wr.heap.size := by omega
            have HTT := hid ht
            clear hb kb hle ht c0 c1
            by_cases hgt : n < t.f + t.c
            · go_wp2
              go_ret
              refine ⟨ret_bool (HNO.out fun h => ?_), ?_⟩
              · have h1 := h.2.2.2.2 t (List.mem_of_getElem? HTT.out)
                dsimp only at h1
                omega
              · have hb := HBr.out
                exact belBy
            · go_wp2
              go_roundw
              case rel =>
                have hb := HBr.out
                have kb := HKB.out
                refine ⟨m + 1, by omega, by go_num, ?_, ?_, ?_⟩
                · exact belBy
                · exact blkBy
                · intro q x hq hx
                  by_cases hqm : q < m
                  · exact HLE.out q x hqm hx
                  · obtain rfl : q = m := by omega
                    rw [HTT.out] at hx
                    cases hx
                    omega
              case measure => simp [intOf]; omega
          · obtain rfl : m = nt := by omega
            clear hb kb hle
            go_wp2
            go_ret
            refine ⟨ret_bool ?_, HBr.out⟩
            rw [← HR.out, schedOkB_yes]
            refine ⟨p1, by have := HJ.out; dsimp only; omega, tksOkB_iff.1 p3, HJS.out, fun t ht => ?_⟩
            obtain ⟨q, hq⟩ := List.getElem?_of_mem ht
            exact HLE.out q t (by have := (List.getElem?_eq_some_iff.1 hq).1; have := HN.out; dsimp only at *; omega) hq
end Go.Proofs.YtjknadnknainbaaGreatDoor
/- SchedOk of the reference. -/
namespace Go.Proofs.YtjknadnknainbaaGreatDoor
open Go.RowKit

set_option maxRecDepth 100000 in
set_option maxHeartbeats 6400000 in
theorem sSchedOk (S : SV) (J T F : Option Addr) (cj ct nf cf : Nat) (w : World) (h1 : Cells w w.heap.size J (ints (flatJ S.js))) (h2 : Cells w w.heap.size T (ints (flatT S.ts)))
    (b1 : S.js.length ≤ 1000000000) (b2 : S.ts.length ≤ 1000000000) :
    Calls Tryz.prog 31 #[.agg #[.int .i64 S.z, .int .i64 S.n, .int .i64 S.b, .slice J S.js.length cj, .slice T S.ts.length ct, .slice F nf cf]] w fun e w' => e = .returned (.bool (schedOkB S)) ∧ Below w.heap.size w w' := by
  obtain ⟨z, n, b, js, ts, fs⟩ := S
  dsimp only at *
  obtain ⟨r, hr⟩ : ∃ r, schedOkB ⟨z, n, b, js, ts, fs⟩ = r := ⟨_, rfl⟩
  rw [hr]
  obtain ⟨nj, hnj⟩ : ∃ n, js.length = n := ⟨_, rfl⟩
  obtain ⟨nt, hnt⟩ : ∃ n, ts.length = n := ⟨_, rfl⟩
  have hP := sPoolOk z n b
  have hT := fun X hX => sTickets T ct ts X hX (by omega)
  rw [hnt] at b2 hT
  rw [hnj] at b1
  rw [hnj, hnt]
  have HR := hid hr
  have HJ := hid hnj
  have HN := hid hnt
  have hno : ¬ schedOk ⟨z, n, b, js, ts, fs⟩ → false = r := fun h => by rw [← HR.out, schedOkB_no h]
  have HNO := hid hno
  have HA1 := hid h1
  have HA2 := hid h2
  have HP := hid hP
  have HT := hid hT
  clear hr hnj hnt hno h1 h2 hP hT
  go_enter Tryz.func31, Tryz.ntmps31
  go_wp2
  go_loopw [3] (fun i wr => ∃ k : Nat, k ≤ nj ∧ i = .int .i64 k ∧ Below w.heap.size w wr ∧ Blk wr w.heap.size 40 #[.int .i64 z, .int .i64 n, .int .i64 b, .slice J nj cj, .slice T nt ct, .slice F nf cf] ∧ (∀ q j, q < k → js[q]? = some j → jbIn j = true) ∧ (∀ (i q : Nat) (j x : Jb), i < k → js[i]? = some j → js[q]? = some x → q < i → x.i ≠ j.i)) (fun i _ => nj - (intOf i).toNat)
  case atStart =>
    refine ⟨0, Nat.zero_le _, rfl, ?_, ?_, fun q _ h => absurd h (by omega), fun i _ _ _ h => absurd h (by omega)⟩
    · exact belBy
    · exact blkBy
  case round =>
    obtain ⟨k, hk, rfl, hb, kb, hin, hap⟩ := hrel
    have HBr := hid hb
    have HKB := hid kb
    have HI := hid hin
    have HAP := hid hap
    have zr := hb.size
    have cell_b := kb.cell
    have froz_b := kb.frozen
    have lt_b := kb.lt
    by_cases hlt : k < nj
    · skip
      obtain ⟨j, hj⟩ : ∃ j, js[k]? = some j := ⟨_, List.getElem?_eq_getElem (by have := HJ.out; omega)⟩
      obtain ⟨bb, off, rfl, hB, c0, c1, c2, c3⟩ := jb_cells HA1.out hj
      have d0 : wr.cell? ⟨bb, off + k * 4, none⟩ = some (.int .i64 j.i) := (hb.cell (p := ⟨bb, off + k * 4, none⟩) hB).trans c0
      have d1 : wr.cell? ⟨bb, off + k * 4 + 1, none⟩ = some (.int .i64 j.n) := (hb.cell (p := ⟨bb, off + k * 4 + 1, none⟩) hB).trans c1
      have d2 : wr.cell? ⟨bb, off + k * 4 + 2, none⟩ = some (.int .i64 j.l) := (hb.cell (p := ⟨bb, off + k * 4 + 2, none⟩) hB).trans c2
      have d3 : wr.cell? ⟨bb, off + k * 4 + 3, none⟩ = some (.int .i64 j.d) := (hb.cell (p := ⟨bb, off + k * 4 + 3, none⟩) hB).trans c3
      have hBr : bb < wr.heap.size := by omega
      have HJJ := hid hj
      obtain ⟨⟨ji, jn, jl, jd⟩, rfl⟩ : ∃ q : Jb, q = j := ⟨j, rfl⟩
      dsimp only at d0 d1 d2 d3
      clear hb kb hin hap hj c0 c1 c2 c3
      have HF := fun (h : jbIn ⟨ji, jn, jl, jd⟩ = false) => hid (HNO.out fun h' => by
        have := h'.2.2.2.1.1 _ (List.mem_of_getElem? HJJ.out)
        rw [h] at this
        cases this)
      rcases jb_way ⟨ji, jn, jl, jd⟩ with hy | hy | ⟨hy1, hy⟩ | ⟨hy1, hy2, hy⟩ | ⟨hy1, hy2, hy3, hy⟩
      · skip
        have hyy := hy
        unfold jbIn at hyy
        simp only [Bool.and_eq_true] at hyy
        obtain ⟨⟨⟨y1, y2⟩, y3⟩, y4⟩ := hyy
        have HY := hid hy
        clear hy HF
        go_wp2_with (first | (go_at_call 38; refine (sWithin _ _ _ _).mono ?_; rintro e w' ⟨rfl, rfl⟩))
        clear y1 y2 y3 y4 d0 d1 d2 d3
        go_loopw [5] (fun i wx => ∃ q : Nat, q ≤ k ∧ i = .int .i64 q ∧ Below w.heap.size w wx ∧ Blk wx w.heap.size 40 #[.int .i64 z, .int .i64 n, .int .i64 b, .slice (some ⟨bb, off, none⟩) nj cj, .slice T nt ct, .slice F nf cf] ∧ Blk wx wr.heap.size 64 #[.int .i64 ji, .int .i64 jn, .int .i64 jl, .int .i64 jd] ∧ ∀ p x, p < q → js[p]? = some x → x.i ≠ ji) (fun i _ => k - (intOf i).toNat)
        case atStart =>
          refine ⟨0, Nat.zero_le _, rfl, ?_, ?_, ?_, fun q _ h => absurd h (by omega)⟩
          · have hb := HBr.out
            exact belBy
          · have kb := HKB.out
            exact blkBy
          · exact blkBy
        case round =>
          obtain ⟨q, hq, rfl, hb, kb, kj, hne⟩ := hrel
          have HB2 := hid hb
          have HK2 := hid kb
          have HKJ := hid kj
          have HNE := hid hne
          have zr2 := hb.size
          have cell_b2 := kb.cell
          have cell_j := kj.cell
          have lt_b2 := kb.lt
          have lt_j := kj.lt
          by_cases hlt2 : q < k
          · skip
            obtain ⟨x, hx⟩ : ∃ x, js[q]? = some x := ⟨_, List.getElem?_eq_getElem (by have := HJ.out; omega)⟩
            obtain ⟨b', off', e', hB', c0, _⟩ := jb_cells HA1.out hx
            cases e'
            have x0 : wr.cell? ⟨bb, off + q * 4, none⟩ = some (.int .i64 x.i) := (hb.cell (p := ⟨bb, off + q * 4, none⟩) hB).trans c0
            have hBr2 : bb < wr.heap.size := by omega
            have HX := hid hx
            clear hb kb kj hne hx c0
            by_cases he : x.i = ji
            · go_wp2
              go_quiet (fail)
              all_goals
                go_wp2
                go_ret
                refine ⟨ret_bool (HNO.out fun h => ?_), ?_⟩
                · exact h.2.2.2.1.2 k q _ x HJJ.out HX.out hlt2 he
                · have hb := HB2.out
                  exact belBy
            · go_wp2
              go_quiet (fail)
              all_goals
                go_wp2
                go_roundw
                case rel =>
                  refine ⟨q + 1, by omega, by go_num, ?_, ?_, ?_, ?_⟩
                  · have hb := HB2.out
                    exact belBy
                  · have kb := HK2.out
                    exact blkBy
                  · have kj := HKJ.out
                    exact blkBy
                  · intro p y hp hy
                    by_cases hpq : p < q
                    · exact HNE.out p y hpq hy
                    · obtain rfl : p = q := by omega
                      rw [HX.out] at hy
                      cases hy
                      exact he
                case measure => simp [intOf]; omega
          · obtain rfl : q = k := by omega
            clear hb kb kj hne
            go_wp2
            go_roundw
            case rel =>
              refine ⟨q + 1, by omega, by go_num, HB2.out, HK2.out, ?_, ?_⟩
              · intro p x hp hx
                by_cases hqk : p < q
                · exact HI.out p x hqk hx
                · obtain rfl : p = q := by omega
                  rw [HJJ.out] at hx
                  cases hx
                  exact HY.out
              · intro i p j x hi hij hpx hpi
                by_cases hik : i < q
                · exact HAP.out i p j x hik hij hpx hpi
                · obtain rfl : i = q := by omega
                  rw [HJJ.out] at hij
                  cases hij
                  exact HNE.out p x hpi hpx
            case measure => simp [intOf]; omega
      · skip
        have HG := HF (by simp only [jbIn, hy, Bool.false_and])
        clear HF
        go_wp2_with (first | (go_at_call 38; refine (sWithin _ _ _ _).mono ?_; rintro e w' ⟨rfl, rfl⟩))
        go_ret
        refine ⟨ret_bool HG.out, ?_⟩
        have hb := HBr.out
        exact belBy
      all_goals
        have HG := HF (by simp only [jbIn, hy, Bool.and_false, Bool.false_and])
        clear HF
        go_wp2_with (first | (go_at_call 38; refine (sWithin _ _ _ _).mono ?_; rintro e w' ⟨rfl, rfl⟩))
        go_ret
        refine ⟨ret_bool HG.out, ?_⟩
        have hb := HBr.out
        exact belBy
    · obtain rfl : k = nj := by omega
      have HJS : Hid (jbsOk js) := hid ⟨fun j hj => by
        obtain ⟨q, hq⟩ := List.getElem?_of_mem hj
        exact HI.out q j (by have := (List.getElem?_eq_some_iff.1 hq).1; have := HJ.out; omega) hq, fun i q j x hi hq hqi => HAP.out i q j x (by have := (List.getElem?_eq_some_iff.1 hi).1; have := HJ.out; omega) hi hq hqi⟩
      clear hb kb hin hap HI HAP
      have hA := cells_below HA2.out HBr.out (Nat.le_refl _)
      have hB := HBr.out
      have hK := HKB.out
      have hp := HP.out
      have ht := HT.out
      clear HP HT cell_b froz_b lt_b
      cases p1 : poolOkB z n b
      · skip
        have HF := hid (HNO.out fun h => by have := h.1; rw [p1] at this; cases this)
        have hf := HF.out
        clear HF
        subst hf
        rw [p1] at hp
        have HP := hid hp
        clear hp ht hA
        have b_30 := hB
        have s_30 := b_30.size
        have bx_30 := hK
        clear hK
        have bx_lt := bx_30.lt
        have cell_bx := bx_30.cell
        have froz_bx := bx_30.frozen
        have lt_bx := bx_30.lt
        go_wp2_with fail
        refine calls_forget0 (W := wr) ?_ ?_
        (focus (exact belBy))
        intro X31 hX31
        have sX31 := hX31.size
        refine (HP.out _).mono ?_
        rintro e w31 ⟨rfl, hb31⟩
        have s31 := hb31.size
        have hT31 := hX31.trans (hb31.mono sX31)
        have b_31 := b_30.trans (hT31.mono (by omega))
        have bx_31 := Blk.past hT31 bx_30
        clear bx_30 b_30 cell_bx froz_bx lt_bx hX31 hT31 hb31
        have cell_bx := bx_31.cell
        have froz_bx := bx_31.frozen
        have lt_bx := bx_31.lt
        go_wp2
        go_ret
        refine ⟨rfl, b_31.trans ?_⟩
        exact belBy
      by_cases p2 : k ≤ 16
      case neg =>
        have HF := hid (HNO.out fun h => by have h1 := h.2.1; dsimp only at h1; have := HJ.out; omega)
        have hf := HF.out
        clear HF
        subst hf
        rw [p1] at hp
        have HP := hid hp
        clear hp ht hA
        have b_30 := hB
        have s_30 := b_30.size
        have bx_30 := hK
        clear hK
        have bx_lt := bx_30.lt
        have cell_bx := bx_30.cell
        have froz_bx := bx_30.frozen
        have lt_bx := bx_30.lt
        go_wp2_with fail
        refine calls_forget0 (W := wr) ?_ ?_
        (focus (exact belBy))
        intro X31 hX31
        have sX31 := hX31.size
        refine (HP.out _).mono ?_
        rintro e w31 ⟨rfl, hb31⟩
        have s31 := hb31.size
        have hT31 := hX31.trans (hb31.mono sX31)
        have b_31 := b_30.trans (hT31.mono (by omega))
        have bx_31 := Blk.past hT31 bx_30
        clear bx_30 b_30 cell_bx froz_bx lt_bx hX31 hT31 hb31
        have cell_bx := bx_31.cell
        have froz_bx := bx_31.frozen
        have lt_bx := bx_31.lt
        go_wp2
        go_ret
        refine ⟨rfl, b_31.trans ?_⟩
        exact belBy
      cases p3 : tksOkB ts
      · skip
        have HF := hid (HNO.out fun h => by have := h.2.2.1; rw [← tksOkB_iff, p3] at this; cases this)
        have hf := HF.out
        clear HF
        subst hf
        rw [p1] at hp
        rw [p3] at ht
        have HP := hid hp
        have HT := hid ht
        clear hp ht
        have b_30 := hB
        have s_30 := b_30.size
        have at__30 := hA
        clear hA
        have bx_30 := hK
        clear hK
        have bx_lt := bx_30.lt
        have cell_bx := bx_30.cell
        have froz_bx := bx_30.frozen
        have lt_bx := bx_30.lt
        go_wp2_with fail
        refine calls_forget0 (W := wr) ?_ ?_
        (focus (exact belBy))
        intro X31 hX31
        have sX31 := hX31.size
        refine (HP.out _).mono ?_
        rintro e w31 ⟨rfl, hb31⟩
        have s31 := hb31.size
        have hT31 := hX31.trans (hb31.mono sX31)
        have b_31 := b_30.trans (hT31.mono (by omega))
        have at__31 := cells_below at__30 hT31 (by omega)
        have bx_31 := Blk.past hT31 bx_30
        clear at__30 bx_30 b_30 cell_bx froz_bx lt_bx hX31 hT31 hb31
        have cell_bx := bx_31.cell
        have froz_bx := bx_31.frozen
        have lt_bx := bx_31.lt
        go_wp2_with fail
        refine calls_forget0 (W := w31) ?_ ?_
        (focus (exact belBy))
        intro X32 hX32
        have sX32 := hX32.size
        refine (HT.out _ ((cells_below at__31 hX32 (by omega)).more (by omega))).mono ?_
        rintro e w32 ⟨rfl, hb32⟩
        have s32 := hb32.size
        have hT32 := hX32.trans (hb32.mono sX32)
        have b_32 := b_31.trans (hT32.mono (by omega))
        have at__32 := cells_below at__31 hT32 (by omega)
        have bx_32 := Blk.past hT32 bx_31
        clear at__31 bx_31 b_31 cell_bx froz_bx lt_bx hX32 hT32 hb32
        have cell_bx := bx_32.cell
        have froz_bx := bx_32.frozen
        have lt_bx := bx_32.lt
        go_wp2
        go_ret
        refine ⟨rfl, b_32.trans ?_⟩
        exact belBy
      · skip
        rw [p1] at hp
        rw [p3] at ht
        have HP := hid hp
        have HT := hid ht
        clear hp ht
        have b_30 := hB
        have s_30 := b_30.size
        have at__30 := hA
        clear hA
        have bx_30 := hK
        clear hK
        have bx_lt := bx_30.lt
        have cell_bx := bx_30.cell
        have froz_bx := bx_30.frozen
        have lt_bx := bx_30.lt
        go_wp2_with fail
        refine calls_forget0 (W := wr) ?_ ?_
        (focus (exact belBy))
        intro X31 hX31
        have sX31 := hX31.size
        refine (HP.out _).mono ?_
        rintro e w31 ⟨rfl, hb31⟩
        have s31 := hb31.size
        have hT31 := hX31.trans (hb31.mono sX31)
        have b_31 := b_30.trans (hT31.mono (by omega))
        have at__31 := cells_below at__30 hT31 (by omega)
        have bx_31 := Blk.past hT31 bx_30
        clear at__30 bx_30 b_30 cell_bx froz_bx lt_bx hX31 hT31 hb31
        have cell_bx := bx_31.cell
        have froz_bx := bx_31.frozen
        have lt_bx := bx_31.lt
        go_wp2_with fail
        refine calls_forget0 (W := w31) ?_ ?_
        (focus (exact belBy))
        intro X32 hX32
        have sX32 := hX32.size
        refine (HT.out _ ((cells_below at__31 hX32 (by omega)).more (by omega))).mono ?_
        rintro e w32 ⟨rfl, hb32⟩
        have s32 := hb32.size
        have hT32 := hX32.trans (hb32.mono sX32)
        have b_32 := b_31.trans (hT32.mono (by omega))
        have at__32 := cells_below at__31 hT32 (by omega)
        have bx_32 := Blk.past hT32 bx_31
        clear at__31 bx_31 b_31 cell_bx froz_bx lt_bx hX32 hT32 hb32
        have cell_bx := bx_32.cell
        have froz_bx := bx_32.frozen
        have lt_bx := bx_32.lt
        clear at__32
        have HB := hid b_32
        have HBX := hid bx_32
        clear b_32 bx_32
        go_wp2
        clear cell_bx froz_bx lt_bx
        go_loopw [6] (fun i wx => ∃ m : Nat, m ≤ nt ∧ i = .int .i64 m ∧ Below w.heap.size w wx ∧ Blk wx w.heap.size 40 #[.int .i64 z, .int .i64 n, .int .i64 b, .slice J k cj, .slice T nt ct, .slice F nf cf] ∧ ∀ q t, q < m → ts[q]? = some t → t.f + t.c ≤ n) (fun i _ => nt - (intOf i).toNat)
        case atStart => exact ⟨0, Nat.zero_le _, rfl, HB.out, HBX.out, fun q _ h => absurd h (by omega)⟩
        case round =>
          obtain ⟨m, hm, rfl, hb, kb, hle⟩ := hrel
          have HB2 := hid hb
          have HKB2 := hid kb
          have HLE := hid hle
          have zr2 := hb.size
          have cell_b2 := kb.cell
          have froz_b2 := kb.frozen
          have lt_b2 := kb.lt
          by_cases hlt2 : m < nt
          · skip
            obtain ⟨t, ht⟩ : ∃ t, ts[m]? = some t := ⟨_, List.getElem?_eq_getElem (by have := HN.out; omega)⟩
            obtain ⟨bb, off, rfl, hB, c0, c1⟩ := tk_cells HA2.out ht
            have d0 : wr.cell? ⟨bb, off + m * 2, none⟩ = some (.int .i64 t.f) := (hb.cell (p := ⟨bb, off + m * 2, none⟩) hB).trans c0
            have d1 : wr.cell? ⟨bb, off + m * 2 + 1, none⟩ = some (.int .i64 t.c) := (hb.cell (p := ⟨bb, off + m * 2 + 1, none⟩) hB).trans c1
            obtain ⟨⟨t1, t2⟩, t3, t4⟩ := tkIn_at (tksOkB_iff.1 p3).2.1 ht
            have hBr : bb < wr.heap.size := by omega
            have HTT := hid ht
            clear hb kb hle ht c0 c1
            by_cases hgt : n < t.f + t.c
            · go_wp2
              go_quiet (fail)
              go_wp2
              go_ret
              refine ⟨ret_bool (HNO.out fun h => ?_), ?_⟩
              · have h1 := h.2.2.2.2 t (List.mem_of_getElem? HTT.out)
                dsimp only at h1
                omega
              · have hb := HB2.out
                exact belBy
            · go_wp2
              go_quiet (fail)
              go_wp2
              go_roundw
              case rel =>
                have hb := HB2.out
                have kb := HKB2.out
                refine ⟨m + 1, by omega, by go_num, ?_, ?_, ?_⟩
                · exact belBy
                · exact blkBy
                · intro q x hq hx
                  by_cases hqm : q < m
                  · exact HLE.out q x hqm hx
                  · obtain rfl : q = m := by omega
                    rw [HTT.out] at hx
                    cases hx
                    omega
              case measure => simp [intOf]; omega
          · obtain rfl : m = nt := by omega
            clear hb kb hle
            go_wp2
            go_ret
            refine ⟨ret_bool ?_, HB2.out⟩
            rw [← HR.out, schedOkB_yes]
            refine ⟨p1, by have := HJ.out; dsimp only; omega, tksOkB_iff.1 p3, HJS.out, fun t ht => ?_⟩
            obtain ⟨q, hq⟩ := List.getElem?_of_mem ht
            exact HLE.out q t (by have := (List.getElem?_eq_some_iff.1 hq).1; have := HN.out; dsimp only at *; omega) hq
end Go.Proofs.YtjknadnknainbaaGreatDoor
/- The step of a schedule: what follows from validity. No program is named here. -/
namespace Go.Proofs.YtjknadnknainbaaGreatDoor
open Go.RowKit

theorem best_lt {S : SV} (h : 0 < S.js.length) : best S < S.js.length := bestTo_lt h _ (Nat.le_refl _)
theorem job_at {S : SV} (h : 0 < S.js.length) : S.js[best S]? = some (job S) := by
  unfold job
  have := best_lt h
  rw [List.getD_eq_getElem?_getD, List.getElem?_eq_getElem this]
  rfl
theorem bestTo_succ {js : List Jb} {i : Nat} {j b : Jb} (hj : js[i]? = some j) (hb : js[bestTo js i]? = some b) : bestTo js (i + 1) = if j.d < b.d then i else bestTo js i := by
  show (if (js.getD i jb0).d < (js.getD (bestTo js i) jb0).d then i else bestTo js i) = _
  rw [List.getD_eq_getElem?_getD, List.getD_eq_getElem?_getD, hj, hb]
  rfl
theorem flatJ_next (js : List Jb) (k : Nat) {j : Jb} (h : js[k]? = some j) : ((flatJ js).set (k * 4 + 3) (j.d + 1)).set (k * 4 + 2) (j.l - 1) = flatJ (js.set k (jbNext j)) := by
  rw [← flatJ_set]
  have h0 := flatJ_at h 0 j.i rfl
  have h1 := flatJ_at h 1 j.n rfl
  have e0 : (flatJ js).set (k * 4) (jbNext j).i = flatJ js := by
    refine List.ext_getElem? fun q => ?_
    rw [List.getElem?_set]
    split
    · next e =>
      subst e
      rw [Nat.add_zero] at h0
      rw [if_pos (List.getElem?_eq_some_iff.1 h0).1, h0]
      rfl
    · rfl
  have e1 : (flatJ js).set (k * 4 + 1) (jbNext j).n = flatJ js := by
    refine List.ext_getElem? fun q => ?_
    rw [List.getElem?_set]
    split
    · next e =>
      subst e
      rw [if_pos (List.getElem?_eq_some_iff.1 h1).1, h1]
      rfl
    · rfl
  rw [e0, e1]
  rw [List.set_comm _ _ (by omega)]
  rfl
theorem sched_facts {S : SV} (h : schedOk S) (h0 : 0 < S.js.length) : (1 ≤ S.z ∧ S.z ≤ 1000 ∧ 0 ≤ S.n ∧ S.n ≤ S.b ∧ S.b ≤ S.z) ∧ ((1 ≤ (job S).i ∧ (job S).i ≤ 1000) ∧ (1 ≤ (job S).n ∧ (job S).n ≤ 10) ∧ (1 ≤ (job S).l ∧ (job S).l ≤ 20) ∧ 0 ≤ (job S).d ∧ (job S).d ≤ 20) :=
  ⟨poolOk_iff.1 h.1, jbIn_iff.1 (h.2.2.2.1.1 _ (List.mem_of_getElem? (job_at h0)))⟩
theorem take_yes {S : SV} (h : schedOk S) (h0 : 0 < S.js.length) (hf : failsB S = false) : takeB S.z S.n (burned S) (job S).n = true := by
  obtain ⟨⟨a1, a2, a3, a4, a5⟩, b1, ⟨b2, b3⟩, _⟩ := sched_facts h h0
  unfold failsB resB at hf
  unfold takeB burned
  have hp := h.1
  simp only [Bool.and_eq_true, decide_eq_true_eq]
  by_cases hs : 0 < short S
  · rw [decide_eq_true hs, hp] at hf
    simp only [Bool.true_and, Bool.not_eq_false', Bool.and_eq_true, decide_eq_true_eq, inB_iff] at hf
    rw [if_pos hs]
    refine ⟨⟨poolOk_iff.2 ?_, inB_iff.2 ?_⟩, ?_⟩
    · unfold short at *
      omega
    · omega
    · unfold short at *
      omega
  · rw [if_neg hs]
    refine ⟨⟨hp, inB_iff.2 ?_⟩, ?_⟩
    · omega
    · unfold short at hs
      omega
theorem ints_set' (xs : List Int) (k : Nat) (x : Int) : (ints xs).set k (.int .i64 x) = ints (xs.set k x) := by simp [ints, List.map_set]
theorem stepS_fail {S : SV} (h : failsB S = true) : stepS S = stepF S := by unfold stepS; rw [h]; rfl
theorem stepS_take {S : SV} (h : failsB S = false) : stepS S = stepT S := by unfold stepS; rw [h]; rfl
theorem erase_set (js : List Jb) (k : Nat) (j : Jb) : (js.set k j).eraseIdx k = js.eraseIdx k := by
  rw [List.eraseIdx_eq_take_drop_succ, List.eraseIdx_eq_take_drop_succ, List.take_set, List.drop_set]
  rw [if_pos (by omega), List.set_eq_of_length_le (by simp; omega)]
theorem lenErase {js : List Jb} {k : Nat} (h : k < js.length) : (js.eraseIdx k).length = js.length - 1 := by
  rw [List.length_eraseIdx]
  rw [if_pos h]
theorem grown_same {w w' W : World} {row : Option Nat} (h : w.grownBy W row) (h1 : w.os = w'.os) (h2 : w.tape = w'.tape) (h3 : w.output = w'.output) (h4 : w.heap = w'.heap) : w'.grownBy W row :=
  ⟨h.os.trans h1, h.tape.trans h2, h.output.trans h3, h4 ▸ h.size, fun i hi hn => (h.block i (h4 ▸ hi) hn).trans (by rw [h4])⟩
theorem wp_stored4 {P : Program} {c : Code} {Q : Exit → Act → World → Prop} {a : Act} {w : World} {base e size g n cp : Nat} {xs : List Value} (h : w.ownsRow base e size (.slice (some ⟨g, 0, none⟩) n cp) n xs) (j : Nat) (u0 u1 u2 u3 : Value) (w' : World)
    (h1 : w'.os = w.os) (h2 : w'.tape = w.tape) (h3 : w'.output = w.output) (h4 : w'.heap = w.heap)
    (hK : ∀ W, W.ownsRow base e size (.slice (some ⟨g, 0, none⟩) n cp) n ((((xs.set j u0).set (j + 1) u1).set (j + 2) u2).set (j + 3) u3) → w.grownBy W (Value.slice (some ⟨g, 0, none⟩) n cp).ownBlock → Code.wp P c Q a W) :
    Code.wp P c Q a ((((w'.setCell ⟨g, j, none⟩ u0).setCell ⟨g, j + 1, none⟩ u1).setCell ⟨g, j + 2, none⟩ u2).setCell ⟨g, j + 3, none⟩ u3) := by
  have h0 : w'.ownsRow base e size (.slice (some ⟨g, 0, none⟩) n cp) n xs := ⟨h.1, by rw [h4]; exact h.2⟩
  have r0 := h0.stored j u0
  have r1 := r0.1.stored (j + 1) u1
  have r2 := r1.1.stored (j + 2) u2
  have r3 := r2.1.stored (j + 3) u3
  refine hK _ r3.1 (grown_same (grown_trans (grown_trans (grown_trans r0.2 r1.2) r2.2) r3.2) h1 h2 h3 h4)
theorem wp_stored4d {P : Program} {c : Code} {Q : Exit → Act → World → Prop} {a : Act} {w : World} {base e size g n cp : Nat} {xs : List Value} (h : w.ownsRow base e size (.slice (some ⟨g, 0, none⟩) n cp) n xs) (j : Nat) (u0 u1 u2 u3 : Value) (w' : World)
    (h1 : w'.os = w.os) (h2 : w'.tape = w.tape) (h3 : w'.output = w.output) (h4 : w'.heap = w.heap)
    (hK : ∀ W, W.ownsRow base e size (.slice (some ⟨g, 0, none⟩) n cp) n ((((xs.set j u0).set (j + 1) u1).set (j + 2) u2).set (j + 3) u3) → w.grownBy W (Value.slice (some ⟨g, 0, none⟩) n cp).ownBlock → Code.wp P c Q a W) :
    Code.wp P c Q a ((((w'.setCell ⟨g, j, none⟩ u0).setCell ⟨g, j + 1, none⟩ u1).setCell ⟨g, j + 2, none⟩ u2).setCell ⟨g, j + 3, none⟩ u3).drew := by
  have h0 : w'.ownsRow base e size (.slice (some ⟨g, 0, none⟩) n cp) n xs := ⟨h.1, by rw [h4]; exact h.2⟩
  have r0 := h0.stored j u0
  have r1 := r0.1.stored (j + 1) u1
  have r2 := r1.1.stored (j + 2) u2
  have r3 := r2.1.stored (j + 3) u3
  have hg := grown_same (grown_trans (grown_trans (grown_trans r0.2 r1.2) r2.2) r3.2) h1 h2 h3 h4
  exact hK _ r3.1 ⟨hg.os, hg.tape, hg.output, hg.size, hg.block⟩
theorem wp_stored1 {P : Program} {c : Code} {Q : Exit → Act → World → Prop} {a : Act} {w : World} {base e size g n cp : Nat} {xs : List Value} (h : w.ownsRow base e size (.slice (some ⟨g, 0, none⟩) n cp) n xs) (j : Nat) (u0 : Value) (w' : World)
    (h1 : w'.os = w.os) (h2 : w'.tape = w.tape) (h3 : w'.output = w.output) (h4 : w'.heap = w.heap)
    (hK : ∀ W, W.ownsRow base e size (.slice (some ⟨g, 0, none⟩) n cp) n (xs.set j u0) → w.grownBy W (Value.slice (some ⟨g, 0, none⟩) n cp).ownBlock → Code.wp P c Q a W) :
    Code.wp P c Q a (w'.setCell ⟨g, j, none⟩ u0) := by
  have h0 : w'.ownsRow base e size (.slice (some ⟨g, 0, none⟩) n cp) n xs := ⟨h.1, by rw [h4]; exact h.2⟩
  have r0 := h0.stored j u0
  exact hK _ r0.1 (grown_same r0.2 h1 h2 h3 h4)
theorem two_one (a b : Int) : ∀ u ∈ [Value.int .i64 a, .int .i64 b], u.oneCell' = true := by
  intro u hu
  simp at hu
  rcases hu with rfl | rfl <;> rfl
def wrap_ok (x : Int) : Prop := -9223372036854775808 ≤ x ∧ x ≤ 9223372036854775807
theorem own_off {w : World} {base e size n o t : Nat} {v : Value} {xs : List Value} {cs : Array Value} (h : w.ownsRow base e size v n xs) (k : Blk w o t cs) (hne : e ≠ t) : ∀ q, v.ownBlock = some q → base ≤ q ∧ q < w.heap.size ∧ q ≠ o := by
  intro q hq
  refine ⟨(h.lt q hq).1, (h.lt q hq).2, ?_⟩
  rintro rfl
  rcases h.2 with ⟨hv, _⟩ | ⟨g, cap, cur, hv, _, hh, _⟩
  · rw [hv] at hq
    cases hq
  · rw [hv] at hq
    have e1 : g = q := Option.some.inj hq
    subst e1
    unfold Blk at k
    rw [hh] at k
    injection k with k
    injection k with _ k _
    exact hne k
theorem mem_row {o i : Nat} {row : Option Nat} (h : i ∈ o :: row.toList) : i = o ∨ row = some i := by
  cases row <;> simp at h
  · exact Or.inl h
  · rcases h with h | h
    · exact Or.inl h
    · exact Or.inr (by rw [h])
theorem not_mem_row {o q : Nat} {row : Option Nat} (h1 : q ≠ o) (h2 : ∀ p, row = some p → p ≠ q) : q ∉ o :: row.toList := fun h => by
  rcases mem_row h with e | e
  · exact h1 e
  · exact h2 q e rfl
theorem touch_app {w X w5 : World} {row : Option Nat} {o : Nat} (hb : Below w.heap.size w X) (hg : X.grownBy w5 row) (j : Nat) (u : Value) : Touch (o :: row.toList) w (w5.setCell ⟨o, j, none⟩ u) := by
  have h1 : Touch (o :: row.toList) w w5 := ⟨hg.os.trans hb.os, hg.tape.trans hb.tape, hg.output.trans hb.output, Nat.le_trans hb.size hg.size, fun i hi hn => (hg.block i (Nat.lt_of_lt_of_le hi hb.size) (fun e => hn (by rw [← e]; simp))).trans (hb.block i hi)⟩
  exact h1.set_ ⟨o, j, none⟩ u (by simp)
theorem own_setne {w : World} {base e size n : Nat} {v : Value} {xs : List Value} {p : Addr} {u : Value} (h : w.ownsRow base e size v n xs) (hne : ∀ q, v.ownBlock = some q → q ≠ p.block) : (w.setCell p u).ownsRow base e size v n xs := by
  refine ⟨h.1, ?_⟩
  rcases h.2 with ⟨hv, hn⟩ | ⟨g, cap, cur, hv, hg, hh, hr⟩
  · exact Or.inl ⟨hv, hn⟩
  · refine Or.inr ⟨g, cap, cur, hv, hg, ?_, hr⟩
    rw [Below.heap_setCell w p u g (hne g (by rw [hv]; rfl))]
    exact hh
theorem own_ne_obj {w : World} {base e size n o t : Nat} {v : Value} {xs : List Value} {cs : Array Value} (h : w.ownsRow base e size v n xs) (k : Blk w o t cs) (hne : e ≠ t) : ∀ q, v.ownBlock = some q → q ≠ o := fun q hq => (own_off h k hne q hq).2.2
end Go.Proofs.YtjknadnknainbaaGreatDoor
