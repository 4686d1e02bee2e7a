/- SchedOk of the reference. -/
import Derived.Test.YtknkpajedbckmaaDoorSchedOk
import Derived.Deep.RegionHeld3
import Derived.BigQuiet
namespace Go.Proofs.YtknkpajedbckmaaDoor
open Go.RowKit

set_option maxRecDepth 100000 in
set_option maxHeartbeats 6400000 in
theorem sSchedOk (S : SV) (J T F : Option Addr) (cj ct nf cf : Nat) (w : World) (h1 : Cells w w.heap.size J (ints (flatJ S.js))) (h2 : Cells w w.heap.size T (ints (flatT S.ts)))
    (b1 : S.js.length ≤ 1000000000) (b2 : S.ts.length ≤ 1000000000) :
    Calls Tryd.prog 24 #[.agg #[.int .i64 S.z, .int .i64 S.n, .int .i64 S.b, .slice J S.js.length cj, .slice T S.ts.length ct, .slice F nf cf]] w fun e w' => e = .returned (.bool (schedOkB S)) ∧ Below w.heap.size w w' := by
  obtain ⟨z, n, b, js, ts, fs⟩ := S
  dsimp only at *
  obtain ⟨r, hr⟩ : ∃ r, schedOkB ⟨z, n, b, js, ts, fs⟩ = r := ⟨_, rfl⟩
  rw [hr]
  obtain ⟨nj, hnj⟩ : ∃ n, js.length = n := ⟨_, rfl⟩
  obtain ⟨nt, hnt⟩ : ∃ n, ts.length = n := ⟨_, rfl⟩
  have hP := sPoolOk z n b
  have hT := fun X hX => sTickets T ct ts X hX (by omega)
  rw [hnt] at b2 hT
  rw [hnj] at b1
  rw [hnj, hnt]
  have HR := hid hr
  have HJ := hid hnj
  have HN := hid hnt
  have hno : ¬ schedOk ⟨z, n, b, js, ts, fs⟩ → false = r := fun h => by rw [← HR.out, schedOkB_no h]
  have HNO := hid hno
  have HA1 := hid h1
  have HA2 := hid h2
  have HP := hid hP
  have HT := hid hT
  clear hr hnj hnt hno h1 h2 hP hT
  go_enter Tryd.func24, Tryd.ntmps24
  go_wp2
  go_loopw [3] (fun i wr => ∃ k : Nat, k ≤ nj ∧ i = .int .i64 k ∧ Below w.heap.size w wr ∧ Blk wr w.heap.size 43 #[.int .i64 z, .int .i64 n, .int .i64 b, .slice J nj cj, .slice T nt ct, .slice F nf cf] ∧ (∀ q j, q < k → js[q]? = some j → jbIn j = true) ∧ (∀ (i q : Nat) (j x : Jb), i < k → js[i]? = some j → js[q]? = some x → q < i → x.i ≠ j.i)) (fun i _ => nj - (intOf i).toNat)
  case atStart =>
    refine ⟨0, Nat.zero_le _, rfl, ?_, ?_, fun q _ h => absurd h (by omega), fun i _ _ _ h => absurd h (by omega)⟩
    · repeat (first | (with_reducible exact Below.refl _ _) | (with_reducible refine Below.trans ?_ (Below.mono (by assumption) (by first | omega | (simp; done) | (simp; omega) | (simp [*]; done)))) | (with_reducible refine Below.alloc ?_ (by first | omega | (simp; done) | (simp; omega) | (simp [*]; done)) _) | (with_reducible refine Below.setCell ?_ (by first | omega | (simp; done) | (simp; omega) | (simp [*]; done)) _) | (with_reducible refine Below.drew ?_) | (with_reducible refine below_drewN ?_))
    · repeat (first | (with_reducible assumption) | (with_reducible apply Blk.drew) | (with_reducible apply Blk.drewN) | (with_reducible apply Blk.new; first | rfl | (simp; done)) | (with_reducible apply Blk.alloc) | (with_reducible apply Blk.set_) | (with_reducible apply Blk.past; focus assumption) | (with_reducible apply Blk.far; focus (first | (simp; done) | (simp; omega) | (dsimp only; omega))))
  case round =>
    obtain ⟨k, hk, rfl, hb, kb, hin, hap⟩ := hrel
    have HBr := hid hb
    have HKB := hid kb
    have HI := hid hin
    have HAP := hid hap
    have zr := hb.size
    have cell_b := kb.cell
    have froz_b := kb.frozen
    have lt_b := kb.lt
    by_cases hlt : k < nj
    · skip
      obtain ⟨j, hj⟩ : ∃ j, js[k]? = some j := ⟨_, List.getElem?_eq_getElem (by have := HJ.out; omega)⟩
      obtain ⟨bb, off, rfl, hB, c0, c1, c2, c3⟩ := jb_cells HA1.out hj
      have d0 : wr.cell? ⟨bb, off + k * 4, none⟩ = some (.int .i64 j.i) := (hb.cell (p := ⟨bb, off + k * 4, none⟩) hB).trans c0
      have d1 : wr.cell? ⟨bb, off + k * 4 + 1, none⟩ = some (.int .i64 j.n) := (hb.cell (p := ⟨bb, off + k * 4 + 1, none⟩) hB).trans c1
      have d2 : wr.cell? ⟨bb, off + k * 4 + 2, none⟩ = some (.int .i64 j.l) := (hb.cell (p := ⟨bb, off + k * 4 + 2, none⟩) hB).trans c2
      have d3 : wr.cell? ⟨bb, off + k * 4 + 3, none⟩ = some (.int .i64 j.d) := (hb.cell (p := ⟨bb, off + k * 4 + 3, none⟩) hB).trans c3
      have hBr : bb < wr.heap.size := by omega
      have HJJ := hid hj
      obtain ⟨⟨ji, jn, jl, jd⟩, rfl⟩ : ∃ q : Jb, q = j := ⟨j, rfl⟩
      dsimp only at d0 d1 d2 d3
      clear hb kb hin hap hj c0 c1 c2 c3
      have HF := fun (h : jbIn ⟨ji, jn, jl, jd⟩ = false) => hid (HNO.out fun h' => by
        have := h'.2.2.2.1.1 _ (List.mem_of_getElem? HJJ.out)
        rw [h] at this
        cases this)
      rcases jb_way ⟨ji, jn, jl, jd⟩ with hy | hy | ⟨hy1, hy⟩ | ⟨hy1, hy2, hy⟩ | ⟨hy1, hy2, hy3, hy⟩
      · skip
        have hyy := hy
        unfold jbIn at hyy
        simp only [Bool.and_eq_true] at hyy
        obtain ⟨⟨⟨y1, y2⟩, y3⟩, y4⟩ := hyy
        have HY := hid hy
        clear hy HF
        go_wp2_with (first | (go_at_call 39; refine (sWithin _ _ _ _).mono ?_; rintro e w' ⟨rfl, rfl⟩))
        clear y1 y2 y3 y4 d0 d1 d2 d3
        go_loopw [5] (fun i wx => ∃ q : Nat, q ≤ k ∧ i = .int .i64 q ∧ Below w.heap.size w wx ∧ Blk wx w.heap.size 43 #[.int .i64 z, .int .i64 n, .int .i64 b, .slice (some ⟨bb, off, none⟩) nj cj, .slice T nt ct, .slice F nf cf] ∧ Blk wx wr.heap.size 57 #[.int .i64 ji, .int .i64 jn, .int .i64 jl, .int .i64 jd] ∧ ∀ p x, p < q → js[p]? = some x → x.i ≠ ji) (fun i _ => k - (intOf i).toNat)
        case atStart =>
          refine ⟨0, Nat.zero_le _, rfl, ?_, ?_, ?_, fun q _ h => absurd h (by omega)⟩
          · have hb := HBr.out
            repeat (first | (with_reducible exact Below.refl _ _) | (with_reducible refine Below.trans ?_ (Below.mono (by assumption) (by first | omega | (simp; done) | (simp; omega) | (simp [*]; done)))) | (with_reducible refine Below.alloc ?_ (by first | omega | (simp; done) | (simp; omega) | (simp [*]; done)) _) | (with_reducible refine Below.setCell ?_ (by first | omega | (simp; done) | (simp; omega) | (simp [*]; done)) _) | (with_reducible refine Below.drew ?_) | (with_reducible refine below_drewN ?_))
          · have kb := HKB.out
            repeat (first | (with_reducible assumption) | (with_reducible apply Blk.drew) | (with_reducible apply Blk.drewN) | (with_reducible apply Blk.new; first | rfl | (simp; done)) | (with_reducible apply Blk.alloc) | (with_reducible apply Blk.set_) | (with_reducible apply Blk.past; focus assumption) | (with_reducible apply Blk.far; focus (first | (simp; done) | (simp; omega) | (dsimp only; omega))))
          · repeat (first | (with_reducible assumption) | (with_reducible apply Blk.drew) | (with_reducible apply Blk.drewN) | (with_reducible apply Blk.new; first | rfl | (simp; done)) | (with_reducible apply Blk.alloc) | (with_reducible apply Blk.set_) | (with_reducible apply Blk.past; focus assumption) | (with_reducible apply Blk.far; focus (first | (simp; done) | (simp; omega) | (dsimp only; omega))))
        case round =>
          obtain ⟨q, hq, rfl, hb, kb, kj, hne⟩ := hrel
          have HB2 := hid hb
          have HK2 := hid kb
          have HKJ := hid kj
          have HNE := hid hne
          have zr2 := hb.size
          have cell_b2 := kb.cell
          have cell_j := kj.cell
          have lt_b2 := kb.lt
          have lt_j := kj.lt
          by_cases hlt2 : q < k
          · skip
            obtain ⟨x, hx⟩ : ∃ x, js[q]? = some x := ⟨_, List.getElem?_eq_getElem (by have := HJ.out; omega)⟩
            obtain ⟨b', off', e', hB', c0, _⟩ := jb_cells HA1.out hx
            cases e'
            have x0 : wr.cell? ⟨bb, off + q * 4, none⟩ = some (.int .i64 x.i) := (hb.cell (p := ⟨bb, off + q * 4, none⟩) hB).trans c0
            have hBr2 : bb < wr.heap.size := by omega
            have HX := hid hx
            clear hb kb kj hne hx c0
            by_cases he : x.i = ji
            · go_wp2
              go_quiet (fail)
              all_goals
                go_wp2
                go_ret
                refine ⟨ret_bool (HNO.out fun h => ?_), ?_⟩
                · exact h.2.2.2.1.2 k q _ x HJJ.out HX.out hlt2 he
                · have hb := HB2.out
                  repeat (first | (with_reducible exact Below.refl _ _) | (with_reducible refine Below.trans ?_ (Below.mono (by assumption) (by first | omega | (simp; done) | (simp; omega) | (simp [*]; done)))) | (with_reducible refine Below.alloc ?_ (by first | omega | (simp; done) | (simp; omega) | (simp [*]; done)) _) | (with_reducible refine Below.setCell ?_ (by first | omega | (simp; done) | (simp; omega) | (simp [*]; done)) _) | (with_reducible refine Below.drew ?_) | (with_reducible refine below_drewN ?_))
            · go_wp2
              go_quiet (fail)
              all_goals
                go_wp2
                go_roundw
                case rel =>
                  refine ⟨q + 1, by omega, by go_num, ?_, ?_, ?_, ?_⟩
                  · have hb := HB2.out
                    repeat (first | (with_reducible exact Below.refl _ _) | (with_reducible refine Below.trans ?_ (Below.mono (by assumption) (by first | omega | (simp; done) | (simp; omega) | (simp [*]; done)))) | (with_reducible refine Below.alloc ?_ (by first | omega | (simp; done) | (simp; omega) | (simp [*]; done)) _) | (with_reducible refine Below.setCell ?_ (by first | omega | (simp; done) | (simp; omega) | (simp [*]; done)) _) | (with_reducible refine Below.drew ?_) | (with_reducible refine below_drewN ?_))
                  · have kb := HK2.out
                    repeat (first | (with_reducible assumption) | (with_reducible apply Blk.drew) | (with_reducible apply Blk.drewN) | (with_reducible apply Blk.new; first | rfl | (simp; done)) | (with_reducible apply Blk.alloc) | (with_reducible apply Blk.set_) | (with_reducible apply Blk.past; focus assumption) | (with_reducible apply Blk.far; focus (first | (simp; done) | (simp; omega) | (dsimp only; omega))))
                  · have kj := HKJ.out
                    repeat (first | (with_reducible assumption) | (with_reducible apply Blk.drew) | (with_reducible apply Blk.drewN) | (with_reducible apply Blk.new; first | rfl | (simp; done)) | (with_reducible apply Blk.alloc) | (with_reducible apply Blk.set_) | (with_reducible apply Blk.past; focus assumption) | (with_reducible apply Blk.far; focus (first | (simp; done) | (simp; omega) | (dsimp only; omega))))
                  · intro p y hp hy
                    by_cases hpq : p < q
                    · exact HNE.out p y hpq hy
                    · obtain rfl : p = q := by omega
                      rw [HX.out] at hy
                      cases hy
                      exact he
                case measure => simp [intOf]; omega
          · obtain rfl : q = k := by omega
            clear hb kb kj hne
            go_wp2
            go_roundw
            case rel =>
              refine ⟨q + 1, by omega, by go_num, HB2.out, HK2.out, ?_, ?_⟩
              · intro p x hp hx
                by_cases hqk : p < q
                · exact HI.out p x hqk hx
                · obtain rfl : p = q := by omega
                  rw [HJJ.out] at hx
                  cases hx
                  exact HY.out
              · intro i p j x hi hij hpx hpi
                by_cases hik : i < q
                · exact HAP.out i p j x hik hij hpx hpi
                · obtain rfl : i = q := by omega
                  rw [HJJ.out] at hij
                  cases hij
                  exact HNE.out p x hpi hpx
            case measure => simp [intOf]; omega
      · skip
        have HG := HF (by simp only [jbIn, hy, Bool.false_and])
        clear HF
        go_wp2_with (first | (go_at_call 39; refine (sWithin _ _ _ _).mono ?_; rintro e w' ⟨rfl, rfl⟩))
        go_ret
        refine ⟨ret_bool HG.out, ?_⟩
        have hb := HBr.out
        repeat (first | (with_reducible exact Below.refl _ _) | (with_reducible refine Below.trans ?_ (Below.mono (by assumption) (by first | omega | (simp; done) | (simp; omega) | (simp [*]; done)))) | (with_reducible refine Below.alloc ?_ (by first | omega | (simp; done) | (simp; omega) | (simp [*]; done)) _) | (with_reducible refine Below.setCell ?_ (by first | omega | (simp; done) | (simp; omega) | (simp [*]; done)) _) | (with_reducible refine Below.drew ?_) | (with_reducible refine below_drewN ?_))
      all_goals
        have HG := HF (by simp only [jbIn, hy, Bool.and_false, Bool.false_and])
        clear HF
        go_wp2_with (first | (go_at_call 39; refine (sWithin _ _ _ _).mono ?_; rintro e w' ⟨rfl, rfl⟩))
        go_ret
        refine ⟨ret_bool HG.out, ?_⟩
        have hb := HBr.out
        repeat (first | (with_reducible exact Below.refl _ _) | (with_reducible refine Below.trans ?_ (Below.mono (by assumption) (by first | omega | (simp; done) | (simp; omega) | (simp [*]; done)))) | (with_reducible refine Below.alloc ?_ (by first | omega | (simp; done) | (simp; omega) | (simp [*]; done)) _) | (with_reducible refine Below.setCell ?_ (by first | omega | (simp; done) | (simp; omega) | (simp [*]; done)) _) | (with_reducible refine Below.drew ?_) | (with_reducible refine below_drewN ?_))
    · obtain rfl : k = nj := by omega
      have HJS : Hid (jbsOk js) := hid ⟨fun j hj => by
        obtain ⟨q, hq⟩ := List.getElem?_of_mem hj
        exact HI.out q j (by have := (List.getElem?_eq_some_iff.1 hq).1; have := HJ.out; omega) hq, fun i q j x hi hq hqi => HAP.out i q j x (by have := (List.getElem?_eq_some_iff.1 hi).1; have := HJ.out; omega) hi hq hqi⟩
      clear hb kb hin hap HI HAP
      have hA := cells_below HA2.out HBr.out (Nat.le_refl _)
      have hB := HBr.out
      have hK := HKB.out
      have hp := HP.out
      have ht := HT.out
      clear HP HT cell_b froz_b lt_b
      cases p1 : poolOkB z n b
      · skip
        have HF := hid (HNO.out fun h => by have := h.1; rw [p1] at this; cases this)
        have hf := HF.out
        clear HF
        subst hf
        rw [p1] at hp
        have HP := hid hp
        clear hp ht hA
        have b_30 := hB
        have s_30 := b_30.size
        have bx_30 := hK
        clear hK
        have bx_lt := bx_30.lt
        have cell_bx := bx_30.cell
        have froz_bx := bx_30.frozen
        have lt_bx := bx_30.lt
        go_wp2_with fail
        refine calls_forget0 (W := wr) ?_ ?_
        (focus (repeat (first | (with_reducible exact Below.refl _ _) | (with_reducible refine Below.trans ?_ (Below.mono (by assumption) (by first | omega | (simp; done) | (simp; omega) | (simp [*]; done)))) | (with_reducible refine Below.alloc ?_ (by first | omega | (simp; done) | (simp; omega) | (simp [*]; done)) _) | (with_reducible refine Below.setCell ?_ (by first | omega | (simp; done) | (simp; omega) | (simp [*]; done)) _) | (with_reducible refine Below.drew ?_) | (with_reducible refine below_drewN ?_))))
        intro X31 hX31
        have sX31 := hX31.size
        refine (HP.out _).mono ?_
        rintro e w31 ⟨rfl, hb31⟩
        have s31 := hb31.size
        have hT31 := hX31.trans (hb31.mono sX31)
        have b_31 := b_30.trans (hT31.mono (by omega))
        have bx_31 := Blk.past hT31 bx_30
        clear bx_30 b_30 cell_bx froz_bx lt_bx hX31 hT31 hb31
        have cell_bx := bx_31.cell
        have froz_bx := bx_31.frozen
        have lt_bx := bx_31.lt
        go_wp2
        go_ret
        refine ⟨rfl, b_31.trans ?_⟩
        repeat (first | (with_reducible exact Below.refl _ _) | (with_reducible refine Below.trans ?_ (Below.mono (by assumption) (by first | omega | (simp; done) | (simp; omega) | (simp [*]; done)))) | (with_reducible refine Below.alloc ?_ (by first | omega | (simp; done) | (simp; omega) | (simp [*]; done)) _) | (with_reducible refine Below.setCell ?_ (by first | omega | (simp; done) | (simp; omega) | (simp [*]; done)) _) | (with_reducible refine Below.drew ?_) | (with_reducible refine below_drewN ?_))
      by_cases p2 : k ≤ 16
      case neg =>
        have HF := hid (HNO.out fun h => by have h1 := h.2.1; dsimp only at h1; have := HJ.out; omega)
        have hf := HF.out
        clear HF
        subst hf
        rw [p1] at hp
        have HP := hid hp
        clear hp ht hA
        have b_30 := hB
        have s_30 := b_30.size
        have bx_30 := hK
        clear hK
        have bx_lt := bx_30.lt
        have cell_bx := bx_30.cell
        have froz_bx := bx_30.frozen
        have lt_bx := bx_30.lt
        go_wp2_with fail
        refine calls_forget0 (W := wr) ?_ ?_
        (focus (repeat (first | (with_reducible exact Below.refl _ _) | (with_reducible refine Below.trans ?_ (Below.mono (by assumption) (by first | omega | (simp; done) | (simp; omega) | (simp [*]; done)))) | (with_reducible refine Below.alloc ?_ (by first | omega | (simp; done) | (simp; omega) | (simp [*]; done)) _) | (with_reducible refine Below.setCell ?_ (by first | omega | (simp; done) | (simp; omega) | (simp [*]; done)) _) | (with_reducible refine Below.drew ?_) | (with_reducible refine below_drewN ?_))))
        intro X31 hX31
        have sX31 := hX31.size
        refine (HP.out _).mono ?_
        rintro e w31 ⟨rfl, hb31⟩
        have s31 := hb31.size
        have hT31 := hX31.trans (hb31.mono sX31)
        have b_31 := b_30.trans (hT31.mono (by omega))
        have bx_31 := Blk.past hT31 bx_30
        clear bx_30 b_30 cell_bx froz_bx lt_bx hX31 hT31 hb31
        have cell_bx := bx_31.cell
        have froz_bx := bx_31.frozen
        have lt_bx := bx_31.lt
        go_wp2
        go_ret
        refine ⟨rfl, b_31.trans ?_⟩
        repeat (first | (with_reducible exact Below.refl _ _) | (with_reducible refine Below.trans ?_ (Below.mono (by assumption) (by first | omega | (simp; done) | (simp; omega) | (simp [*]; done)))) | (with_reducible refine Below.alloc ?_ (by first | omega | (simp; done) | (simp; omega) | (simp [*]; done)) _) | (with_reducible refine Below.setCell ?_ (by first | omega | (simp; done) | (simp; omega) | (simp [*]; done)) _) | (with_reducible refine Below.drew ?_) | (with_reducible refine below_drewN ?_))
      cases p3 : tksOkB ts
      · skip
        have HF := hid (HNO.out fun h => by have := h.2.2.1; rw [← tksOkB_iff, p3] at this; cases this)
        have hf := HF.out
        clear HF
        subst hf
        rw [p1] at hp
        rw [p3] at ht
        have HP := hid hp
        have HT := hid ht
        clear hp ht
        have b_30 := hB
        have s_30 := b_30.size
        have at__30 := hA
        clear hA
        have bx_30 := hK
        clear hK
        have bx_lt := bx_30.lt
        have cell_bx := bx_30.cell
        have froz_bx := bx_30.frozen
        have lt_bx := bx_30.lt
        go_wp2_with fail
        refine calls_forget0 (W := wr) ?_ ?_
        (focus (repeat (first | (with_reducible exact Below.refl _ _) | (with_reducible refine Below.trans ?_ (Below.mono (by assumption) (by first | omega | (simp; done) | (simp; omega) | (simp [*]; done)))) | (with_reducible refine Below.alloc ?_ (by first | omega | (simp; done) | (simp; omega) | (simp [*]; done)) _) | (with_reducible refine Below.setCell ?_ (by first | omega | (simp; done) | (simp; omega) | (simp [*]; done)) _) | (with_reducible refine Below.drew ?_) | (with_reducible refine below_drewN ?_))))
        intro X31 hX31
        have sX31 := hX31.size
        refine (HP.out _).mono ?_
        rintro e w31 ⟨rfl, hb31⟩
        have s31 := hb31.size
        have hT31 := hX31.trans (hb31.mono sX31)
        have b_31 := b_30.trans (hT31.mono (by omega))
        have at__31 := cells_below at__30 hT31 (by omega)
        have bx_31 := Blk.past hT31 bx_30
        clear at__30 bx_30 b_30 cell_bx froz_bx lt_bx hX31 hT31 hb31
        have cell_bx := bx_31.cell
        have froz_bx := bx_31.frozen
        have lt_bx := bx_31.lt
        go_wp2_with fail
        refine calls_forget0 (W := w31) ?_ ?_
        (focus (repeat (first | (with_reducible exact Below.refl _ _) | (with_reducible refine Below.trans ?_ (Below.mono (by assumption) (by first | omega | (simp; done) | (simp; omega) | (simp [*]; done)))) | (with_reducible refine Below.alloc ?_ (by first | omega | (simp; done) | (simp; omega) | (simp [*]; done)) _) | (with_reducible refine Below.setCell ?_ (by first | omega | (simp; done) | (simp; omega) | (simp [*]; done)) _) | (with_reducible refine Below.drew ?_) | (with_reducible refine below_drewN ?_))))
        intro X32 hX32
        have sX32 := hX32.size
        refine (HT.out _ ((cells_below at__31 hX32 (by omega)).more (by omega))).mono ?_
        rintro e w32 ⟨rfl, hb32⟩
        have s32 := hb32.size
        have hT32 := hX32.trans (hb32.mono sX32)
        have b_32 := b_31.trans (hT32.mono (by omega))
        have at__32 := cells_below at__31 hT32 (by omega)
        have bx_32 := Blk.past hT32 bx_31
        clear at__31 bx_31 b_31 cell_bx froz_bx lt_bx hX32 hT32 hb32
        have cell_bx := bx_32.cell
        have froz_bx := bx_32.frozen
        have lt_bx := bx_32.lt
        go_wp2
        go_ret
        refine ⟨rfl, b_32.trans ?_⟩
        repeat (first | (with_reducible exact Below.refl _ _) | (with_reducible refine Below.trans ?_ (Below.mono (by assumption) (by first | omega | (simp; done) | (simp; omega) | (simp [*]; done)))) | (with_reducible refine Below.alloc ?_ (by first | omega | (simp; done) | (simp; omega) | (simp [*]; done)) _) | (with_reducible refine Below.setCell ?_ (by first | omega | (simp; done) | (simp; omega) | (simp [*]; done)) _) | (with_reducible refine Below.drew ?_) | (with_reducible refine below_drewN ?_))
      · skip
        rw [p1] at hp
        rw [p3] at ht
        have HP := hid hp
        have HT := hid ht
        clear hp ht
        have b_30 := hB
        have s_30 := b_30.size
        have at__30 := hA
        clear hA
        have bx_30 := hK
        clear hK
        have bx_lt := bx_30.lt
        have cell_bx := bx_30.cell
        have froz_bx := bx_30.frozen
        have lt_bx := bx_30.lt
        go_wp2_with fail
        refine calls_forget0 (W := wr) ?_ ?_
        (focus (repeat (first | (with_reducible exact Below.refl _ _) | (with_reducible refine Below.trans ?_ (Below.mono (by assumption) (by first | omega | (simp; done) | (simp; omega) | (simp [*]; done)))) | (with_reducible refine Below.alloc ?_ (by first | omega | (simp; done) | (simp; omega) | (simp [*]; done)) _) | (with_reducible refine Below.setCell ?_ (by first | omega | (simp; done) | (simp; omega) | (simp [*]; done)) _) | (with_reducible refine Below.drew ?_) | (with_reducible refine below_drewN ?_))))
        intro X31 hX31
        have sX31 := hX31.size
        refine (HP.out _).mono ?_
        rintro e w31 ⟨rfl, hb31⟩
        have s31 := hb31.size
        have hT31 := hX31.trans (hb31.mono sX31)
        have b_31 := b_30.trans (hT31.mono (by omega))
        have at__31 := cells_below at__30 hT31 (by omega)
        have bx_31 := Blk.past hT31 bx_30
        clear at__30 bx_30 b_30 cell_bx froz_bx lt_bx hX31 hT31 hb31
        have cell_bx := bx_31.cell
        have froz_bx := bx_31.frozen
        have lt_bx := bx_31.lt
        go_wp2_with fail
        refine calls_forget0 (W := w31) ?_ ?_
        (focus (repeat (first | (with_reducible exact Below.refl _ _) | (with_reducible refine Below.trans ?_ (Below.mono (by assumption) (by first | omega | (simp; done) | (simp; omega) | (simp [*]; done)))) | (with_reducible refine Below.alloc ?_ (by first | omega | (simp; done) | (simp; omega) | (simp [*]; done)) _) | (with_reducible refine Below.setCell ?_ (by first | omega | (simp; done) | (simp; omega) | (simp [*]; done)) _) | (with_reducible refine Below.drew ?_) | (with_reducible refine below_drewN ?_))))
        intro X32 hX32
        have sX32 := hX32.size
        refine (HT.out _ ((cells_below at__31 hX32 (by omega)).more (by omega))).mono ?_
        rintro e w32 ⟨rfl, hb32⟩
        have s32 := hb32.size
        have hT32 := hX32.trans (hb32.mono sX32)
        have b_32 := b_31.trans (hT32.mono (by omega))
        have at__32 := cells_below at__31 hT32 (by omega)
        have bx_32 := Blk.past hT32 bx_31
        clear at__31 bx_31 b_31 cell_bx froz_bx lt_bx hX32 hT32 hb32
        have cell_bx := bx_32.cell
        have froz_bx := bx_32.frozen
        have lt_bx := bx_32.lt
        clear at__32
        have HB := hid b_32
        have HBX := hid bx_32
        clear b_32 bx_32
        go_wp2
        clear cell_bx froz_bx lt_bx
        go_loopw [6] (fun i wx => ∃ m : Nat, m ≤ nt ∧ i = .int .i64 m ∧ Below w.heap.size w wx ∧ Blk wx w.heap.size 43 #[.int .i64 z, .int .i64 n, .int .i64 b, .slice J k cj, .slice T nt ct, .slice F nf cf] ∧ ∀ q t, q < m → ts[q]? = some t → t.f + t.c ≤ n) (fun i _ => nt - (intOf i).toNat)
        case atStart => exact ⟨0, Nat.zero_le _, rfl, HB.out, HBX.out, fun q _ h => absurd h (by omega)⟩
        case round =>
          obtain ⟨m, hm, rfl, hb, kb, hle⟩ := hrel
          have HB2 := hid hb
          have HKB2 := hid kb
          have HLE := hid hle
          have zr2 := hb.size
          have cell_b2 := kb.cell
          have froz_b2 := kb.frozen
          have lt_b2 := kb.lt
          by_cases hlt2 : m < nt
          · skip
            obtain ⟨t, ht⟩ : ∃ t, ts[m]? = some t := ⟨_, List.getElem?_eq_getElem (by have := HN.out; omega)⟩
            obtain ⟨bb, off, rfl, hB, c0, c1⟩ := tk_cells HA2.out ht
            have d0 : wr.cell? ⟨bb, off + m * 2, none⟩ = some (.int .i64 t.f) := (hb.cell (p := ⟨bb, off + m * 2, none⟩) hB).trans c0
            have d1 : wr.cell? ⟨bb, off + m * 2 + 1, none⟩ = some (.int .i64 t.c) := (hb.cell (p := ⟨bb, off + m * 2 + 1, none⟩) hB).trans c1
            obtain ⟨⟨t1, t2⟩, t3, t4⟩ := tkIn_at (tksOkB_iff.1 p3).2.1 ht
            have hBr : bb < wr.heap.size := by omega
            have HTT := hid ht
            clear hb kb hle ht c0 c1
            by_cases hgt : n < t.f + t.c
            · go_wp2
              go_quiet (fail)
              go_wp2
              go_ret
              refine ⟨ret_bool (HNO.out fun h => ?_), ?_⟩
              · have h1 := h.2.2.2.2 t (List.mem_of_getElem? HTT.out)
                dsimp only at h1
                omega
              · have hb := HB2.out
                repeat (first | (with_reducible exact Below.refl _ _) | (with_reducible refine Below.trans ?_ (Below.mono (by assumption) (by first | omega | (simp; done) | (simp; omega) | (simp [*]; done)))) | (with_reducible refine Below.alloc ?_ (by first | omega | (simp; done) | (simp; omega) | (simp [*]; done)) _) | (with_reducible refine Below.setCell ?_ (by first | omega | (simp; done) | (simp; omega) | (simp [*]; done)) _) | (with_reducible refine Below.drew ?_) | (with_reducible refine below_drewN ?_))
            · go_wp2
              go_quiet (fail)
              go_wp2
              go_roundw
              case rel =>
                have hb := HB2.out
                have kb := HKB2.out
                refine ⟨m + 1, by omega, by go_num, ?_, ?_, ?_⟩
                · repeat (first | (with_reducible exact Below.refl _ _) | (with_reducible refine Below.trans ?_ (Below.mono (by assumption) (by first | omega | (simp; done) | (simp; omega) | (simp [*]; done)))) | (with_reducible refine Below.alloc ?_ (by first | omega | (simp; done) | (simp; omega) | (simp [*]; done)) _) | (with_reducible refine Below.setCell ?_ (by first | omega | (simp; done) | (simp; omega) | (simp [*]; done)) _) | (with_reducible refine Below.drew ?_) | (with_reducible refine below_drewN ?_))
                · repeat (first | (with_reducible assumption) | (with_reducible apply Blk.drew) | (with_reducible apply Blk.drewN) | (with_reducible apply Blk.new; first | rfl | (simp; done)) | (with_reducible apply Blk.alloc) | (with_reducible apply Blk.set_) | (with_reducible apply Blk.past; focus assumption) | (with_reducible apply Blk.far; focus (first | (simp; done) | (simp; omega) | (dsimp only; omega))))
                · intro q x hq hx
                  by_cases hqm : q < m
                  · exact HLE.out q x hqm hx
                  · obtain rfl : q = m := by omega
                    rw [HTT.out] at hx
                    cases hx
                    omega
              case measure => simp [intOf]; omega
          · obtain rfl : m = nt := by omega
            clear hb kb hle
            go_wp2
            go_ret
            refine ⟨ret_bool ?_, HB2.out⟩
            rw [← HR.out, schedOkB_yes]
            refine ⟨p1, by have := HJ.out; dsimp only; omega, tksOkB_iff.1 p3, HJS.out, fun t ht => ?_⟩
            obtain ⟨q, hq⟩ := List.getElem?_of_mem ht
            exact HLE.out q t (by have := (List.getElem?_eq_some_iff.1 hq).1; have := HN.out; dsimp only at *; omega) hq
end Go.Proofs.YtknkpajedbckmaaDoor
