/- The law that a job fails only if the material is exhausted (FnFailures). No conditions. -/
import Derived.Test.YtipnhlnbokkihaaDrawS
import Derived.Test.YtipnhlnbokkihaaHead
set_option linter.unusedVariables false
namespace Go.Proofs.Ytipnhlnbokkihaa
open Go.RowKit Go.ChangeShapes Go.WideShapes Go.ChangeAt

namespace failures
def needTo (js : List Jb) (id : Int) : Nat → Int
  | 0 => 0
  | k + 1 => if (js.getD k jb0).i = id then (js.getD k jb0).n else needTo js id k
theorem needTo_succ {js : List Jb} {id : Int} {k : Nat} {j : Jb} (h : js[k]? = some j) : needTo js id (k + 1) = if j.i = id then j.n else needTo js id k := by
  rw [needTo, List.getD_eq_getElem?_getD, h]
  rfl
theorem needTo_best {js : List Jb} (hj : jbsOk js) {b : Nat} {y : Jb} (hb : js[b]? = some y) : ∀ k, k ≤ js.length → needTo js y.i k = if b < k then y.n else 0
  | 0, _ => rfl
  | k + 1, hk => by
    obtain ⟨j, hj'⟩ : ∃ j, js[k]? = some j := ⟨_, List.getElem?_eq_getElem (by omega)⟩
    rw [needTo_succ hj', needTo_best hj hb k (by omega)]
    by_cases he : k = b
    · subst he
      rw [hb] at hj'
      injection hj' with e
      subst e
      rw [if_pos rfl, if_pos (by omega)]
    · have hne : j.i ≠ y.i := by
        rcases Nat.lt_or_gt_of_ne he with h | h
        · exact hj.2 b k y j hb hj' h
        · exact fun e => hj.2 k b j y hj' hb h e.symm
      rw [if_neg hne]
      by_cases h : b < k
      · rw [if_pos h, if_pos (by omega)]
      · rw [if_neg h, if_neg (by omega)]
theorem need_job {S : SV} (h : okS S) (h0 : 0 < S.js.length) : needTo S.js (job S).i S.js.length = (job S).n := by
  rw [needTo_best h.1.2.2.2.1 (job_at h0) _ (Nat.le_refl _), if_pos (best_lt h0)]
theorem idle {S : SV} (h : okS S) (hl : S.ts.length ≤ 25) (hb : stepB S = false) : S.js.length = 0 := by
  unfold stepB at hb
  rw [schedOkB_yes h.1, Bool.true_and] at hb
  by_cases h0 : 0 < S.js.length
  · rw [decide_eq_true h0, Bool.true_and, decide_eq_false_iff_not] at hb
    omega
  · omega
set_option maxRecDepth 100000 in
set_option maxHeartbeats 6400000 in
theorem walk (A : Option Addr) (c : Nat) (bs : List Int) (w : World) (hb : Bytes w w.heap.size A bs) :
    Calls Try.prog 6 #[.slice A bs.length c] w fun e w' => e = .returned (.bool true) ∧ Below w.heap.size w w' := by
  have hl := hb.len
  have HB := hid hb
  clear hb
  by_cases h1 : (1048576 : Int) < (bs.length : Int)
  · go_enter Try.func6, Try.ntmps6
    go_wp2_with (go_at_call 13; refine (big_any _ _ _ _ hl).mono ?_; rintro e w' ⟨rfl, rfl⟩)
    go_ret
    exact ⟨rfl, Below.refl _ _⟩
  have H1 := hid (show (bs.length : Int) ≤ 1048576 by omega)
  clear h1
  go_enter Try.func6, Try.ntmps6
  go_wp2_with fail
  refine (big_no _ _ _ _ hl H1.out).mono ?_
  rintro e w' ⟨rfl, rfl⟩
  have b_0 := (Below.refl w.heap.size w)
  have s_0 := b_0.size
  go_wp2_with fail
  refine calls_forget0 (W := w) ?_ ?_
  (focus (repeat (first | (with_reducible exact Below.refl _ _) | (with_reducible refine Below.trans ?_ (Below.mono (by assumption) (by first | omega | (simp; done) | (simp; omega) | (simp [*]; done)))) | (with_reducible refine Below.alloc ?_ (by first | omega | (simp; done) | (simp; omega) | (simp [*]; done)) _) | (with_reducible refine Below.setCell ?_ (by first | omega | (simp; done) | (simp; omega) | (simp [*]; done)) _) | (with_reducible refine Below.drew ?_) | (with_reducible refine below_drewN ?_))))
  intro X1 hX1
  have sX1 := hX1.size
  refine (drawSched_any _ _ _ _ ((HB.out.step (b_0.trans (hX1.mono (by omega)))).more (by omega))).mono ?_
  rintro e w1 ⟨S, J, cj, T, tcp, F, cf, hS, rfl, rj_1, rt_1, rf_1, hb1⟩
  have s1 := hb1.size
  have hT1 := hX1.trans (hb1.mono sX1)
  have b_1 := b_0.trans (hT1.mono (by omega))
  have rj_in := own_in rj_1
  have rt_in := own_in rt_1
  have rf_in := own_in rf_1
  clear b_0 hX1 hT1 hb1
  obtain ⟨hok, l1, l2⟩ := hS
  have hs16 := hok.1.2.1
  have HOK := hid hok
  have HST := hid (fun J T F cj tcp cf w h b1 b2 b3 => iSchedStepL S J T F cj tcp cf w h b1 b2 b3)
  cases hs : stepB S
  case false =>
    have hnj := idle hok l1 hs
    rw [hs, stepR_no hs, stepI_no hs, hnj] at HST
    rw [hnj] at rj_1
    rw [hnj]
    have HNJ := hid hnj
    have HKY := hid (fun J T F cj ct cf w ho b1 b2 => iOkYes S hok J T F cj ct cf w ho b1 b2)
    rw [hnj] at HKY
    clear hs hok hnj
    obtain ⟨w2, rfl⟩ : ∃ z, z = w1 := ⟨_, rfl⟩
    have b_10 := b_1
    have s_10 := b_10.size
    have rj_in := own_in rj_1
    have rj_10 := rj_1
    clear rj_1
    have rt_in := own_in rt_1
    have rt_10 := rt_1
    clear rt_1
    have rf_in := own_in rf_1
    have rf_10 := rf_1
    clear rf_1
    go_upto_region 4 with fail
    go_wp2_with fail
    refine calls_forget1 (W := w2) (b0 := w2.heap.size) (t0 := 31) (c0 := #[.int .i64 S.z, .int .i64 S.n, .int .i64 S.b, .slice J 0 cj, .slice T S.ts.length tcp, .slice F S.fs.length cf]) ?_ ?_ ?_
    (focus (first | ((repeat (first | (with_reducible assumption) | (with_reducible apply Blk.drew) | (with_reducible apply Blk.drewN) | (with_reducible apply Blk.new; first | rfl | (simp; done)) | (with_reducible apply Blk.alloc) | (with_reducible apply Blk.set_) | (with_reducible apply Blk.past; focus assumption) | (with_reducible apply Blk.far; focus (first | (simp; done) | (simp; omega) | (dsimp only; omega))))); done) | (apply Blk.cast; (case h => (repeat (first | (with_reducible assumption) | (with_reducible apply Blk.drew) | (with_reducible apply Blk.drewN) | (with_reducible apply Blk.new; first | rfl | (simp; done)) | (with_reducible apply Blk.alloc) | (with_reducible apply Blk.set_) | (with_reducible apply Blk.past; focus assumption) | (with_reducible apply Blk.far; focus (first | (simp; done) | (simp; omega) | (dsimp only; omega)))))); (case e => rfl))))
    (focus (repeat (first | (with_reducible exact Below.refl _ _) | (with_reducible refine Below.trans ?_ (Below.mono (by assumption) (by first | omega | (simp; done) | (simp; omega) | (simp [*]; done)))) | (with_reducible refine Below.alloc ?_ (by first | omega | (simp; done) | (simp; omega) | (simp [*]; done)) _) | (with_reducible refine Below.setCell ?_ (by first | omega | (simp; done) | (simp; omega) | (simp [*]; done)) _) | (with_reducible refine Below.drew ?_) | (with_reducible refine below_drewN ?_))))
    intro X11 o_n hX11
    have sX11 := hX11.size
    have o_lt := o_n.lt
    refine (HST.out _ _ _ _ _ _ _ ⟨own_weak (own_below rj_10 hX11) (Nat.zero_le _), own_weak (own_below rt_10 hX11) (Nat.zero_le _), own_weak (own_below rf_10 hX11) (Nat.zero_le _)⟩ (by omega) (by omega) (by omega)).mono ?_
    rintro e w11 ⟨Nj, nj', Nt, nt', Nf, nf', rfl, nj_11, nt_11, nf_11, hb11⟩
    have s11 := hb11.size
    have hT11 := hX11.trans (hb11.mono sX11)
    have b_11 := b_10.trans (hT11.mono (by omega))
    have rj_11 := own_below rj_10 hT11
    have rt_11 := own_below rt_10 hT11
    have rf_11 := own_below rf_10 hT11
    have o_11 := Blk.past hb11 o_n
    have nj_in := own_in nj_11
    have nt_in := own_in nt_11
    have nf_in := own_in nf_11
    clear rj_10 rt_10 rf_10 b_10 o_n hX11 hT11 hb11
    have cell_o := o_11.cell
    have froz_o := o_11.frozen
    have lt_o := o_11.lt
    go_upto_region 5 with fail
    go_wp2_with fail
    refine calls_forget1 (W := w11) (b0 := w11.heap.size) (t0 := 31) (c0 := #[.int .i64 S.z, .int .i64 S.n, .int .i64 S.b, .slice Nj 0 nj', .slice Nt S.ts.length nt', .slice Nf S.fs.length nf']) ?_ ?_ ?_
    (focus (first | ((repeat (first | (with_reducible assumption) | (with_reducible apply Blk.drew) | (with_reducible apply Blk.drewN) | (with_reducible apply Blk.new; first | rfl | (simp; done)) | (with_reducible apply Blk.alloc) | (with_reducible apply Blk.set_) | (with_reducible apply Blk.past; focus assumption) | (with_reducible apply Blk.far; focus (first | (simp; done) | (simp; omega) | (dsimp only; omega))))); done) | (apply Blk.cast; (case h => (repeat (first | (with_reducible assumption) | (with_reducible apply Blk.drew) | (with_reducible apply Blk.drewN) | (with_reducible apply Blk.new; first | rfl | (simp; done)) | (with_reducible apply Blk.alloc) | (with_reducible apply Blk.set_) | (with_reducible apply Blk.past; focus assumption) | (with_reducible apply Blk.far; focus (first | (simp; done) | (simp; omega) | (dsimp only; omega)))))); (case e => rfl))))
    (focus (repeat (first | (with_reducible exact Below.refl _ _) | (with_reducible refine Below.trans ?_ (Below.mono (by assumption) (by first | omega | (simp; done) | (simp; omega) | (simp [*]; done)))) | (with_reducible refine Below.alloc ?_ (by first | omega | (simp; done) | (simp; omega) | (simp [*]; done)) _) | (with_reducible refine Below.setCell ?_ (by first | omega | (simp; done) | (simp; omega) | (simp [*]; done)) _) | (with_reducible refine Below.drew ?_) | (with_reducible refine below_drewN ?_))))
    intro X12 x_n hX12
    have sX12 := hX12.size
    have x_lt := x_n.lt
    refine (HKY.out _ _ _ _ _ _ _ ⟨own_weak (own_below nj_11 hX12) (Nat.zero_le _), own_weak (own_below nt_11 hX12) (Nat.zero_le _), own_weak (own_below nf_11 hX12) (Nat.zero_le _)⟩ (by omega) (by omega)).mono ?_
    rintro e w12 ⟨rfl, hb12⟩
    have s12 := hb12.size
    have hT12 := hX12.trans (hb12.mono sX12)
    have b_12 := b_11.trans (hT12.mono (by omega))
    have rj_12 := own_below rj_11 hT12
    have rt_12 := own_below rt_11 hT12
    have rf_12 := own_below rf_11 hT12
    have nj_12 := own_below nj_11 hT12
    have nt_12 := own_below nt_11 hT12
    have nf_12 := own_below nf_11 hT12
    have o_12 := Blk.past hT12 o_11
    have x_12 := Blk.past hb12 x_n
    clear rj_11 rt_11 rf_11 nj_11 nt_11 nf_11 o_11 b_11 cell_o froz_o lt_o x_n hX12 hT12 hb12
    have cell_o := o_12.cell
    have froz_o := o_12.frozen
    have lt_o := o_12.lt
    have cell_x := x_12.cell
    have froz_x := x_12.frozen
    have lt_x := x_12.lt
    go_wp2
    go_ret
    refine ⟨rfl, b_12.trans ?_⟩
    repeat (first | (with_reducible exact Below.refl _ _) | (with_reducible refine Below.trans ?_ (Below.mono (by assumption) (by first | omega | (simp; done) | (simp; omega) | (simp [*]; done)))) | (with_reducible refine Below.alloc ?_ (by first | omega | (simp; done) | (simp; omega) | (simp [*]; done)) _) | (with_reducible refine Below.setCell ?_ (by first | omega | (simp; done) | (simp; omega) | (simp [*]; done)) _) | (with_reducible refine Below.drew ?_) | (with_reducible refine below_drewN ?_))
  case true =>
    obtain ⟨hS, hj0, ht0⟩ := stepB_parts hs
    have hRok := okS_step hok hs
    have hl3 := stepS_len S
    obtain ⟨⟨a1, a2, a3, a4, a5⟩, ⟨b1, b2⟩, ⟨b3, b4⟩, _⟩ := sched_facts hS hj0
    have hneed := need_job hok hj0
    have hfi := fails_iff hok hj0
    have hR3 : (failsB S = true → (stepS S).fs.length = S.fs.length + 1) ∧ (failsB S = false → (stepS S).fs.length = S.fs.length ∧ (stepS S).ts.length = S.ts.length + 1) := by
      refine ⟨fun h => ?_, fun h => ?_⟩
      · rw [stepS_fail h]
        simp [stepF]
      · rw [stepS_take h]
        simp [stepT]
    rw [hs, stepR_yes hs, stepI_yes hs] at HST
    obtain ⟨R, hR⟩ : ∃ R, stepS S = R := ⟨_, rfl⟩
    rw [hR] at HST hRok hl3 hR3
    obtain ⟨ji, hji⟩ : ∃ x, (job S).i = x := ⟨_, rfl⟩
    rw [hji] at HST hneed b1 b2
    obtain ⟨nd, hnd⟩ : ∃ x, (job S).n = x := ⟨_, rfl⟩
    rw [hnd] at hneed b3 b4 hfi
    have hR16 := hRok.1.2.1
    have HKY := hid (fun J T F cj ct cf w ho b1 b2 => iOkYes R hRok J T F cj ct cf w ho b1 b2)
    have HR3 := hid hR3
    have HFI := hid hfi
    have HND := hid hneed
    obtain ⟨l3, l4, l5⟩ := hl3
    clear hs hok hS hRok hR hji hnd hR3 hfi hneed HOK
    obtain ⟨g, rfl, hg0, hg1, _⟩ := own_at rj_1 hj0
    obtain ⟨w2, rfl⟩ : ∃ z, z = w1 := ⟨_, rfl⟩
    have b_10 := b_1
    have s_10 := b_10.size
    have rj_in := own_in rj_1
    have rj_10 := rj_1
    clear rj_1
    have rt_in := own_in rt_1
    have rt_10 := rt_1
    clear rt_1
    have rf_in := own_in rf_1
    have rf_10 := rf_1
    clear rf_1
    go_upto_region 4 with fail
    go_wp2_with fail
    refine calls_forget1 (W := w2) (b0 := w2.heap.size) (t0 := 31) (c0 := #[.int .i64 S.z, .int .i64 S.n, .int .i64 S.b, .slice (some ⟨g, 0, none⟩) S.js.length cj, .slice T S.ts.length tcp, .slice F S.fs.length cf]) ?_ ?_ ?_
    (focus (first | ((repeat (first | (with_reducible assumption) | (with_reducible apply Blk.drew) | (with_reducible apply Blk.drewN) | (with_reducible apply Blk.new; first | rfl | (simp; done)) | (with_reducible apply Blk.alloc) | (with_reducible apply Blk.set_) | (with_reducible apply Blk.past; focus assumption) | (with_reducible apply Blk.far; focus (first | (simp; done) | (simp; omega) | (dsimp only; omega))))); done) | (apply Blk.cast; (case h => (repeat (first | (with_reducible assumption) | (with_reducible apply Blk.drew) | (with_reducible apply Blk.drewN) | (with_reducible apply Blk.new; first | rfl | (simp; done)) | (with_reducible apply Blk.alloc) | (with_reducible apply Blk.set_) | (with_reducible apply Blk.past; focus assumption) | (with_reducible apply Blk.far; focus (first | (simp; done) | (simp; omega) | (dsimp only; omega)))))); (case e => rfl))))
    (focus (repeat (first | (with_reducible exact Below.refl _ _) | (with_reducible refine Below.trans ?_ (Below.mono (by assumption) (by first | omega | (simp; done) | (simp; omega) | (simp [*]; done)))) | (with_reducible refine Below.alloc ?_ (by first | omega | (simp; done) | (simp; omega) | (simp [*]; done)) _) | (with_reducible refine Below.setCell ?_ (by first | omega | (simp; done) | (simp; omega) | (simp [*]; done)) _) | (with_reducible refine Below.drew ?_) | (with_reducible refine below_drewN ?_))))
    intro X11 o_n hX11
    have sX11 := hX11.size
    have o_lt := o_n.lt
    refine (HST.out _ _ _ _ _ _ _ ⟨own_weak (own_below rj_10 hX11) (Nat.zero_le _), own_weak (own_below rt_10 hX11) (Nat.zero_le _), own_weak (own_below rf_10 hX11) (Nat.zero_le _)⟩ (by omega) (by omega) (by omega)).mono ?_
    rintro e w11 ⟨Nj, nj', Nt, nt', Nf, nf', rfl, nj_11, nt_11, nf_11, hb11⟩
    have s11 := hb11.size
    have hT11 := hX11.trans (hb11.mono sX11)
    have b_11 := b_10.trans (hT11.mono (by omega))
    have rj_11 := own_below rj_10 hT11
    have rt_11 := own_below rt_10 hT11
    have rf_11 := own_below rf_10 hT11
    have o_11 := Blk.past hb11 o_n
    have nj_in := own_in nj_11
    have nt_in := own_in nt_11
    have nf_in := own_in nf_11
    clear rj_10 rt_10 rf_10 b_10 o_n hX11 hT11 hb11
    have cell_o := o_11.cell
    have froz_o := o_11.frozen
    have lt_o := o_11.lt
    go_upto_region 7 with fail
    refine wp_forget1 (w0 := w11) (B := w11.heap.size) (b0 := w11.heap.size) (t0 := 31) (c0 := #[.int .i64 R.z, .int .i64 R.n, .int .i64 R.b, .slice Nj R.js.length nj', .slice Nt R.ts.length nt', .slice Nf R.fs.length nf']) ?_ ?_ ?_
    (focus (first | ((repeat (first | (with_reducible assumption) | (with_reducible apply Blk.drew) | (with_reducible apply Blk.drewN) | (with_reducible apply Blk.new; first | rfl | (simp; done)) | (with_reducible apply Blk.alloc) | (with_reducible apply Blk.set_) | (with_reducible apply Blk.past; focus assumption) | (with_reducible apply Blk.far; focus (first | (simp; done) | (simp; omega) | (dsimp only; omega))))); done) | (apply Blk.cast; (case h => (repeat (first | (with_reducible assumption) | (with_reducible apply Blk.drew) | (with_reducible apply Blk.drewN) | (with_reducible apply Blk.new; first | rfl | (simp; done)) | (with_reducible apply Blk.alloc) | (with_reducible apply Blk.set_) | (with_reducible apply Blk.past; focus assumption) | (with_reducible apply Blk.far; focus (first | (simp; done) | (simp; omega) | (dsimp only; omega)))))); (case e => rfl))))
    (focus (repeat (first | (with_reducible exact Below.refl _ _) | (with_reducible refine Below.trans ?_ (Below.mono (by assumption) (by first | omega | (simp; done) | (simp; omega) | (simp [*]; done)))) | (with_reducible refine Below.alloc ?_ (by first | omega | (simp; done) | (simp; omega) | (simp [*]; done)) _) | (with_reducible refine Below.setCell ?_ (by first | omega | (simp; done) | (simp; omega) | (simp [*]; done)) _) | (with_reducible refine Below.drew ?_) | (with_reducible refine below_drewN ?_))))
    intro w12 x_12 hX12
    have sX12 := hX12.size
    have x_lt := x_12.lt
    have b_12 := b_11.trans (hX12.mono (by omega))
    have rj_12 := own_below rj_11 hX12
    have rt_12 := own_below rt_11 hX12
    have rf_12 := own_below rf_11 hX12
    have nj_12 := own_below nj_11 hX12
    have nt_12 := own_below nt_11 hX12
    have nf_12 := own_below nf_11 hX12
    have o_12 := Blk.past hX12 o_11
    clear rj_11 rt_11 rf_11 nj_11 nt_11 nf_11 o_11 b_11 cell_o froz_o lt_o hX12
    have cell_o := o_12.cell
    have froz_o := o_12.frozen
    have lt_o := o_12.lt
    have cell_x := x_12.cell
    have froz_x := x_12.frozen
    have lt_x := x_12.lt
    have HRJ := hid rj_12
    go_wp2
    go_loop [7, 8] (fun v i => ∃ k : Nat, k ≤ S.js.length ∧ i = .int .i64 k ∧ v = .int .i64 (needTo S.js ji k)) (fun _ i => S.js.length - (intOf i).toNat)
    case atStart => exact ⟨0, Nat.zero_le _, rfl, rfl⟩
    case round =>
      obtain ⟨k, hk, rfl, rfl⟩ := hrel
      by_cases hlt : k < S.js.length
      · obtain ⟨j, hj⟩ : ∃ j, S.js[k]? = some j := ⟨_, List.getElem?_eq_getElem hlt⟩
        have d0 := (HRJ.out.cellAt (k * 4) (by omega)).trans (ints_get (flatJ_at hj 0 j.i rfl))
        have d1 := (HRJ.out.cellAt (k * 4 + 1) (by omega)).trans (ints_get (flatJ_at hj 1 j.n rfl))
        have HS := hid (needTo_succ (id := ji) hj)
        clear hj
        cases hq : (j.i == ji)
        all_goals
          go_wp2
          go_round
          case rel =>
            refine ⟨k + 1, by omega, by go_num, ?_⟩
            rw [HS.out]
            first
            | rw [if_pos (by simpa using hq)]
            | rw [if_neg (by simpa using hq)]
          case measure => simp [intOf]; omega
      · obtain rfl : k = S.js.length := by omega
        rw [HND.out]
        have hn0 : (0 : Int) < nd := by omega
        cases hf : failsB S
        case true =>
          have hA := HR3.out.1 hf
          have hA2 : (S.fs.length : Int) < (R.fs.length : Int) := by omega
          have hB : S.z < S.n + nd := by
            have h := HFI.out
            rw [hf] at h
            simpa using h.symm
          clear hf hA
          have b_20 := b_12
          have s_20 := b_20.size
          have nj_in := own_in nj_12
          have nj_20 := nj_12
          clear nj_12
          have nt_in := own_in nt_12
          have nt_20 := nt_12
          clear nt_12
          have nf_in := own_in nf_12
          have nf_20 := nf_12
          clear nf_12
          have o_20 := o_12
          clear o_12
          have o_lt := o_20.lt
          have cell_o := o_20.cell
          have froz_o := o_20.frozen
          have lt_o := o_20.lt
          have x_20 := x_12
          clear x_12
          have x_lt := x_20.lt
          have cell_x := x_20.cell
          have froz_x := x_20.frozen
          have lt_x := x_20.lt
          go_wp2_with fail
          refine calls_forget0 (W := w12) ?_ ?_
          (focus (repeat (first | (with_reducible exact Below.refl _ _) | (with_reducible refine Below.trans ?_ (Below.mono (by assumption) (by first | omega | (simp; done) | (simp; omega) | (simp [*]; done)))) | (with_reducible refine Below.alloc ?_ (by first | omega | (simp; done) | (simp; omega) | (simp [*]; done)) _) | (with_reducible refine Below.setCell ?_ (by first | omega | (simp; done) | (simp; omega) | (simp [*]; done)) _) | (with_reducible refine Below.drew ?_) | (with_reducible refine below_drewN ?_))))
          intro X21 hX21
          have sX21 := hX21.size
          refine (HKY.out _ _ _ _ _ _ _ ⟨own_weak (own_below nj_20 hX21) (Nat.zero_le _), own_weak (own_below nt_20 hX21) (Nat.zero_le _), own_weak (own_below nf_20 hX21) (Nat.zero_le _)⟩ (by omega) (by omega)).mono ?_
          rintro e w21 ⟨rfl, hb21⟩
          have s21 := hb21.size
          have hT21 := hX21.trans (hb21.mono sX21)
          have b_21 := b_20.trans (hT21.mono (by omega))
          have nj_21 := own_below nj_20 hT21
          have nt_21 := own_below nt_20 hT21
          have nf_21 := own_below nf_20 hT21
          have o_21 := Blk.past hT21 o_20
          have x_21 := Blk.past hT21 x_20
          clear nj_20 nt_20 nf_20 o_20 x_20 b_20 cell_o froz_o lt_o cell_x froz_x lt_x hX21 hT21 hb21
          have cell_o := o_21.cell
          have froz_o := o_21.frozen
          have lt_o := o_21.lt
          have cell_x := x_21.cell
          have froz_x := x_21.frozen
          have lt_x := x_21.lt
          go_wp2
          go_ret
          refine ⟨rfl, b_21.trans ?_⟩
          repeat (first | (with_reducible exact Below.refl _ _) | (with_reducible refine Below.trans ?_ (Below.mono (by assumption) (by first | omega | (simp; done) | (simp; omega) | (simp [*]; done)))) | (with_reducible refine Below.alloc ?_ (by first | omega | (simp; done) | (simp; omega) | (simp [*]; done)) _) | (with_reducible refine Below.setCell ?_ (by first | omega | (simp; done) | (simp; omega) | (simp [*]; done)) _) | (with_reducible refine Below.drew ?_) | (with_reducible refine below_drewN ?_))
        case false =>
          obtain ⟨hA, hT⟩ := HR3.out.2 hf
          have hA2 : (R.fs.length : Int) ≤ (S.fs.length : Int) := by omega
          have hT2 : ((R.ts.length : Int) == (S.ts.length : Int) + 1) = true := by simp; omega
          have hB : S.n + nd ≤ S.z := by
            have h := HFI.out
            rw [hf] at h
            simpa using h.symm
          clear hf hA hT
          have b_20 := b_12
          have s_20 := b_20.size
          have nj_in := own_in nj_12
          have nj_20 := nj_12
          clear nj_12
          have nt_in := own_in nt_12
          have nt_20 := nt_12
          clear nt_12
          have nf_in := own_in nf_12
          have nf_20 := nf_12
          clear nf_12
          have o_20 := o_12
          clear o_12
          have o_lt := o_20.lt
          have cell_o := o_20.cell
          have froz_o := o_20.frozen
          have lt_o := o_20.lt
          have x_20 := x_12
          clear x_12
          have x_lt := x_20.lt
          have cell_x := x_20.cell
          have froz_x := x_20.frozen
          have lt_x := x_20.lt
          go_wp2_with fail
          refine calls_forget0 (W := w12) ?_ ?_
          (focus (repeat (first | (with_reducible exact Below.refl _ _) | (with_reducible refine Below.trans ?_ (Below.mono (by assumption) (by first | omega | (simp; done) | (simp; omega) | (simp [*]; done)))) | (with_reducible refine Below.alloc ?_ (by first | omega | (simp; done) | (simp; omega) | (simp [*]; done)) _) | (with_reducible refine Below.setCell ?_ (by first | omega | (simp; done) | (simp; omega) | (simp [*]; done)) _) | (with_reducible refine Below.drew ?_) | (with_reducible refine below_drewN ?_))))
          intro X21 hX21
          have sX21 := hX21.size
          refine (HKY.out _ _ _ _ _ _ _ ⟨own_weak (own_below nj_20 hX21) (Nat.zero_le _), own_weak (own_below nt_20 hX21) (Nat.zero_le _), own_weak (own_below nf_20 hX21) (Nat.zero_le _)⟩ (by omega) (by omega)).mono ?_
          rintro e w21 ⟨rfl, hb21⟩
          have s21 := hb21.size
          have hT21 := hX21.trans (hb21.mono sX21)
          have b_21 := b_20.trans (hT21.mono (by omega))
          have nj_21 := own_below nj_20 hT21
          have nt_21 := own_below nt_20 hT21
          have nf_21 := own_below nf_20 hT21
          have o_21 := Blk.past hT21 o_20
          have x_21 := Blk.past hT21 x_20
          clear nj_20 nt_20 nf_20 o_20 x_20 b_20 cell_o froz_o lt_o cell_x froz_x lt_x hX21 hT21 hb21
          have cell_o := o_21.cell
          have froz_o := o_21.frozen
          have lt_o := o_21.lt
          have cell_x := x_21.cell
          have froz_x := x_21.frozen
          have lt_x := x_21.lt
          go_wp2
          go_ret
          refine ⟨rfl, b_21.trans ?_⟩
          repeat (first | (with_reducible exact Below.refl _ _) | (with_reducible refine Below.trans ?_ (Below.mono (by assumption) (by first | omega | (simp; done) | (simp; omega) | (simp [*]; done)))) | (with_reducible refine Below.alloc ?_ (by first | omega | (simp; done) | (simp; omega) | (simp [*]; done)) _) | (with_reducible refine Below.setCell ?_ (by first | omega | (simp; done) | (simp; omega) | (simp [*]; done)) _) | (with_reducible refine Below.drew ?_) | (with_reducible refine below_drewN ?_))
set_option maxRecDepth 100000 in
theorem lifted (os : Os) (started : os.Started) (H : Type) (enc : TypeId × Value → H) :
    ReturnsInHanded {} Try.checked os 6 .any (Rows.fnFailuresSpec.pre6 enc Try.prog Try.f6 Rows.fnFailuresRow.domain false) (Rows.fnFailuresSpec.post enc Try.prog Try.f6 false true false false) := by
  refine returnsInHanded_of_change (C := Try.checked) own started (by kernel_rfl) Try.func6
    (ChangeSpec.witness6 (enc := enc) (C := Try.checked) false ⟨#[], #[.slice none 0 0], []⟩ 8 (by kernel_rfl) (by kernel_rfl) (by kernel_rfl) (by kernel_rfl)) ?_
  intro W base args ds gs before hval0 hW _ _
  have hval : ∀ (j : Nat) t v, Try.f6.params[j]? = some t → args[j]? = some v → Value.okWide Try.prog W .any base t v := hval0
  have hW' := hW
  obtain ⟨p, q, hA0, hV, rfl, _, _⟩ := hW
  have hA : DataW.TrodAll enc Try.prog W 0 (fun _ => true) true Try.f6.params.toList args.toList ds p := hA0
  rw [Try.params6] at hA hval
  obtain ⟨v0, vs0, d0, ds0, p0, q0, hargs, rfl, rfl, h0, r0⟩ := trodAll_cons hA
  obtain ⟨rfl, rfl, rfl⟩ := trodAll_nil r0
  obtain rfl : args = #[v0] := by cases args; simp_all
  obtain ⟨rfl, rfl⟩ := trodVars_none hV
  obtain ⟨A0, c0, xs0, rfl, hb0⟩ := view_bytes Try.underlying22 Try.underlying5 (by kernel_rfl) (hval 0 22 v0 rfl rfl) h0 (fun x hx => hW'.lt x (by simp [hx]))
  refine (walk A0 c0 xs0 W hb0).mono fun e W' ⟨he, hb⟩ => ?_
  subst he
  exact ⟨_, rfl, law_post rfl (by kernel_rfl) (by kernel_rfl) rfl Try.underlying4 hW' rfl rfl rfl hb⟩
theorem closed : joinedFacts Try.prog 6 Try.f6 Rows.fnFailuresSpec Rows.fnFailuresRow = true := by
  unfold joinedFacts
  rw [makeIs, mayIs, finalsIs]
  kernel_rfl
theorem over : Rows.fnFailuresRow.holds Try.pinned (OpenSpec.ofChange Rows.fnFailuresSpec) :=
  OpenClaim.holds_of_wide 6 Try.f6 rfl rfl rfl rfl rfl rfl rfl ⟨rfl, rfl, rfl, rfl, rfl⟩ rfl rfl rfl rfl rfl (by kernel_rfl) Try.func6 closed
    (of_decide_eq_true (by kernel_rfl)) (by unfold Func.isWrapper; first | (rw [if_pos (by decide +kernel)]; kernel_rfl) | (rw [if_neg (by decide +kernel)]; exact ⟨rfl, rfl⟩))
    (fun os started H enc _ => lifted os started H enc)
theorem proved : Rows.FnFailuresSaid := over
#print axioms proved

end failures
end Go.Proofs.Ytipnhlnbokkihaa
