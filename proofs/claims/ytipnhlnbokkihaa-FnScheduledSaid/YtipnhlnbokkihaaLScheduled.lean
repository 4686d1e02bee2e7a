/- The law that scheduling uses every item at most once and keeps the scheduler valid, also across crashes (FnScheduled). No conditions. -/
import Derived.Test.YtipnhlnbokkihaaDrawS
import Derived.Test.YtipnhlnbokkihaaHead
set_option linter.unusedVariables false
namespace Go.Proofs.Ytipnhlnbokkihaa
open Go.RowKit Go.ChangeShapes Go.WideShapes Go.ChangeAt

namespace scheduled
set_option maxRecDepth 100000 in
set_option maxHeartbeats 6400000 in
theorem walk (A : Option Addr) (c : Nat) (bs : List Int) (w : World) (hb : Bytes w w.heap.size A bs) :
    Calls Try.prog 8 #[.slice A bs.length c] w fun e w' => e = .returned (.bool true) ∧ Below w.heap.size w w' := by
  have hl := hb.len
  have HB := hid hb
  clear hb
  by_cases h1 : (1048576 : Int) < (bs.length : Int)
  · go_enter Try.func8, Try.ntmps8
    go_wp2_with (go_at_call 13; refine (big_any _ _ _ _ hl).mono ?_; rintro e w' ⟨rfl, rfl⟩)
    go_ret
    exact ⟨rfl, Below.refl _ _⟩
  have H1 := hid (show (bs.length : Int) ≤ 1048576 by omega)
  clear h1
  go_enter Try.func8, Try.ntmps8
  go_wp2_with fail
  refine (big_no _ _ _ _ hl H1.out).mono ?_
  rintro e w' ⟨rfl, rfl⟩
  have b_0 := (Below.refl w.heap.size w)
  have s_0 := b_0.size
  go_wp2_with fail
  refine calls_forget0 (W := w) ?_ ?_
  (focus (repeat (first | (with_reducible exact Below.refl _ _) | (with_reducible refine Below.trans ?_ (Below.mono (by assumption) (by first | omega | (simp; done) | (simp; omega) | (simp [*]; done)))) | (with_reducible refine Below.alloc ?_ (by first | omega | (simp; done) | (simp; omega) | (simp [*]; done)) _) | (with_reducible refine Below.setCell ?_ (by first | omega | (simp; done) | (simp; omega) | (simp [*]; done)) _) | (with_reducible refine Below.drew ?_) | (with_reducible refine below_drewN ?_))))
  intro X1 hX1
  have sX1 := hX1.size
  refine (drawSched_any _ _ _ _ ((HB.out.step (b_0.trans (hX1.mono (by omega)))).more (by omega))).mono ?_
  rintro e w1 ⟨S, J, cj, T, tcp, F, cf, hS, rfl, rj_1, rt_1, rf_1, hb1⟩
  have s1 := hb1.size
  have hT1 := hX1.trans (hb1.mono sX1)
  have b_1 := b_0.trans (hT1.mono (by omega))
  have rj_in := own_in rj_1
  have rt_in := own_in rt_1
  have rf_in := own_in rf_1
  clear b_0 hX1 hT1 hb1
  have HS := hid hS
  clear hS
  go_upto_region 4 with fail
  go_wp2_with fail
  refine calls_forget1 (W := w1) (b0 := w1.heap.size) (t0 := 31) (c0 := #[.int .i64 S.z, .int .i64 S.n, .int .i64 S.b, .slice J S.js.length cj, .slice T S.ts.length tcp, .slice F S.fs.length cf]) ?_ ?_ ?_
  (focus (first | ((repeat (first | (with_reducible assumption) | (with_reducible apply Blk.drew) | (with_reducible apply Blk.drewN) | (with_reducible apply Blk.new; first | rfl | (simp; done)) | (with_reducible apply Blk.alloc) | (with_reducible apply Blk.set_) | (with_reducible apply Blk.past; focus assumption) | (with_reducible apply Blk.far; focus (first | (simp; done) | (simp; omega) | (dsimp only; omega))))); done) | (apply Blk.cast; (case h => (repeat (first | (with_reducible assumption) | (with_reducible apply Blk.drew) | (with_reducible apply Blk.drewN) | (with_reducible apply Blk.new; first | rfl | (simp; done)) | (with_reducible apply Blk.alloc) | (with_reducible apply Blk.set_) | (with_reducible apply Blk.past; focus assumption) | (with_reducible apply Blk.far; focus (first | (simp; done) | (simp; omega) | (dsimp only; omega)))))); (case e => rfl))))
  (focus (repeat (first | (with_reducible exact Below.refl _ _) | (with_reducible refine Below.trans ?_ (Below.mono (by assumption) (by first | omega | (simp; done) | (simp; omega) | (simp [*]; done)))) | (with_reducible refine Below.alloc ?_ (by first | omega | (simp; done) | (simp; omega) | (simp [*]; done)) _) | (with_reducible refine Below.setCell ?_ (by first | omega | (simp; done) | (simp; omega) | (simp [*]; done)) _) | (with_reducible refine Below.drew ?_) | (with_reducible refine below_drewN ?_))))
  intro X2 o_n hX2
  have sX2 := hX2.size
  have o_lt := o_n.lt
  refine (places12 _ _ _ _ ((HB.out.step (b_1.trans (hX2.mono (by omega)))).more (by omega))).mono ?_
  rintro e w2 ⟨ps, gp, cp, hps, rfl, pl_2, hb2⟩
  have s2 := hb2.size
  have hT2 := hX2.trans (hb2.mono sX2)
  have b_2 := b_1.trans (hT2.mono (by omega))
  have rj_2 := own_below rj_1 hT2
  have rt_2 := own_below rt_1 hT2
  have rf_2 := own_below rf_1 hT2
  have o_2 := Blk.past hb2 o_n
  have pl_in := own_in pl_2
  clear rj_1 rt_1 rf_1 b_1 o_n hX2 hT2 hb2
  have cell_o := o_2.cell
  have froz_o := o_2.frozen
  have lt_o := o_2.lt
  have HPS := hid hps
  clear hps
  have hwo : w.heap.size ≤ w1.heap.size := by omega
  have hC : Sim w w1.heap.size gp cp ps (25 + 5 * 0) okS w2 := ⟨S, J, cj, T, tcp, F, cf, HS.out.1, HS.out.2.1, HS.out.2.2, ⟨own_weak rj_2 (by omega), own_weak rt_2 (by omega), own_weak rf_2 (by omega)⟩, o_2, own_weak pl_2 (by omega), b_2⟩
  clear rj_2 rt_2 rf_2 o_2 pl_2 b_2 cell_o froz_o lt_o
  go_wp2
  go_loopw [5] (fun i wx => ∃ k : Nat, k ≤ 6 ∧ i = .int .i64 k ∧ Sim w w1.heap.size gp cp ps (25 + 5 * k) okS wx) (fun i _ => 6 - (intOf i).toNat)
  case atStart => exact ⟨0, Nat.zero_le _, rfl, hC⟩
  case round =>
    obtain ⟨k, hk, rfl, S, J, cj, T, tcp, F, cf, hok, l1, l2, ⟨hj, ht, hf⟩, ho, hp, hb⟩ := hrel
    clear hC
    have hs16 := hok.1.2.1
    have HOK := hid hok
    clear hok HS
    by_cases hlt : k < 6
    · obtain ⟨x, hx, x0, x1⟩ := place_at HPS.out (show k < 12 by omega)
      have hw1 : IntKind.i64.wrap (20 + (k : Int)) = 20 + (k : Int) := IntWalk.i64_in _ (by omega)
      have hk0 : (0 : Int) ≤ (k : Int) := by omega
      have hk1 : (k : Int) < (12 : Int) := by omega
      have HXA := hid hx
      clear hx
      cases hq0 : (x % 4 == (0 : Int))
      case true =>
        have b_10 := hb
        have s_10 := b_10.size
        have rj_in := own_off hj ho (by decide)
        have rj_10 := hj
        clear hj
        have rt_in := own_off ht ho (by decide)
        have rt_10 := ht
        clear ht
        have rf_in := own_off hf ho (by decide)
        have rf_10 := hf
        clear hf
        have pl_in := own_off hp ho (by decide)
        have pl_10 := hp
        clear hp
        have o_10 := ho
        clear ho
        have o_lt := o_10.lt
        have cell_o := o_10.cell
        have froz_o := o_10.frozen
        have lt_o := o_10.lt
        have hf0 := (own_cells pl_10 (by omega)).2 k _ (ints_get HXA.out)
        have hgp := (own_cells pl_10 (by omega)).1
        obtain ⟨R, hR⟩ : ∃ R, crashS S = R := ⟨_, rfl⟩
        have hRok : okS R := by rw [← hR]; exact okS_crash HOK.out
        have hRl : R.ts.length ≤ 25 + 5 * (k + 1) ∧ R.fs.length ≤ 25 + 5 * (k + 1) := by rw [← hR]; have := lenSchedCrash S; omega
        have CON := hid (fun J T F cj tcp cf w h b1 b2 b3 => iSchedCrashL S J T F cj tcp cf w h b1 b2 b3)
        rw [hR] at CON
        have HOKR := hid hRok
        have q16 := hRok.1.2.1
        obtain ⟨m1, m2⟩ := hRl
        clear hR hRok
        go_wp2_with fail
        refine calls_forget0 (W := wr) ?_ ?_
        (focus (repeat (first | (with_reducible exact Below.refl _ _) | (with_reducible refine Below.trans ?_ (Below.mono (by assumption) (by first | omega | (simp; done) | (simp; omega) | (simp [*]; done)))) | (with_reducible refine Below.alloc ?_ (by first | omega | (simp; done) | (simp; omega) | (simp [*]; done)) _) | (with_reducible refine Below.setCell ?_ (by first | omega | (simp; done) | (simp; omega) | (simp [*]; done)) _) | (with_reducible refine Below.drew ?_) | (with_reducible refine below_drewN ?_))))
        intro X11 hX11
        have sX11 := hX11.size
        refine (CON.out _ _ _ _ _ _ _ ⟨own_weak (own_below rj_10 hX11) (Nat.zero_le _), own_weak (own_below rt_10 hX11) (Nat.zero_le _), own_weak (own_below rf_10 hX11) (Nat.zero_le _)⟩ (by omega) (by omega) (by omega)).mono ?_
        rintro e w11 ⟨Nj, nj', Nt, nt', Nf, nf', rfl, nj_11, nt_11, nf_11, hb11⟩
        have s11 := hb11.size
        have hT11 := hX11.trans (hb11.mono sX11)
        have b_11 := b_10.trans (hT11.mono (by omega))
        have rj_11 := own_below rj_10 hT11
        have rt_11 := own_below rt_10 hT11
        have rf_11 := own_below rf_10 hT11
        have pl_11 := own_below pl_10 hT11
        have o_11 := Blk.past hT11 o_10
        have nj_in := own_in nj_11
        have nt_in := own_in nt_11
        have nf_in := own_in nf_11
        clear rj_10 rt_10 rf_10 pl_10 o_10 b_10 cell_o froz_o lt_o hX11 hT11 hb11
        have cell_o := o_11.cell
        have froz_o := o_11.frozen
        have lt_o := o_11.lt
        clear hf0
        go_upto_region 14 with fail
        clear rj_11
        clear rt_11
        clear rf_11
        go_wp2_with fail
        refine calls_touch1 (w0 := w11) (L := [w1.heap.size]) (b0 := w1.heap.size) (t0 := 31) (c0 := #[.int .i64 R.z, .int .i64 R.n, .int .i64 R.b, .slice Nj R.js.length nj', .slice Nt R.ts.length nt', .slice Nf R.fs.length nf']) ?_ ?_ ?_
        (focus (first | ((repeat (first | (with_reducible assumption) | (with_reducible apply Blk.drew) | (with_reducible apply Blk.drewN) | (with_reducible apply Blk.new; first | rfl | (simp; done)) | (with_reducible apply Blk.alloc) | (with_reducible apply Blk.set_) | (with_reducible apply Blk.past; focus assumption) | (with_reducible apply Blk.far; focus (first | (simp; done) | (simp; omega) | (dsimp only; omega))))); done) | (apply Blk.cast; (case h => (repeat (first | (with_reducible assumption) | (with_reducible apply Blk.drew) | (with_reducible apply Blk.drewN) | (with_reducible apply Blk.new; first | rfl | (simp; done)) | (with_reducible apply Blk.alloc) | (with_reducible apply Blk.set_) | (with_reducible apply Blk.past; focus assumption) | (with_reducible apply Blk.far; focus (first | (simp; done) | (simp; omega) | (dsimp only; omega)))))); (case e => rfl))))
        (focus (repeat (first | (with_reducible exact Touch.refl _ _) | (with_reducible assumption) | (with_reducible apply Touch.drew) | (with_reducible apply Touch.drewN) | (with_reducible apply Touch.alloc) | (with_reducible refine Touch.set_ ?_ _ _ (by simp; done)) | (with_reducible refine Touch.set_new ?_ _ _ (by first | omega | (simp; omega) | (dsimp only; omega))))))
        intro w12 o_12 hX12
        have sX12 := hX12.size
        have b_12 := hX12.below b_11 (by first | (simp; done) | (simp; omega))
        have pl_12 := own_touch' hX12 pl_11 (fun q hq => by have h1 := pl_in q hq; (try have e0 := own_ne_obj pl_11 o_11 (by decide) q hq); simp; omega)
        have nj_12 := own_touch' hX12 nj_11 (fun q hq => by have h1 := nj_in q hq; (try have e0 := own_ne_obj nj_11 o_11 (by decide) q hq); simp; omega)
        have nt_12 := own_touch' hX12 nt_11 (fun q hq => by have h1 := nt_in q hq; (try have e0 := own_ne_obj nt_11 o_11 (by decide) q hq); simp; omega)
        have nf_12 := own_touch' hX12 nf_11 (fun q hq => by have h1 := nf_in q hq; (try have e0 := own_ne_obj nf_11 o_11 (by decide) q hq); simp; omega)
        clear pl_11 nj_11 nt_11 nf_11 o_11 b_11 cell_o froz_o lt_o hX12
        have cell_o := o_12.cell
        have froz_o := o_12.frozen
        have lt_o := o_12.lt
        go_wp2_with fail
        refine calls_forget0 (W := w12) ?_ ?_
        (focus (repeat (first | (with_reducible exact Below.refl _ _) | (with_reducible refine Below.trans ?_ (Below.mono (by assumption) (by first | omega | (simp; done) | (simp; omega) | (simp [*]; done)))) | (with_reducible refine Below.alloc ?_ (by first | omega | (simp; done) | (simp; omega) | (simp [*]; done)) _) | (with_reducible refine Below.setCell ?_ (by first | omega | (simp; done) | (simp; omega) | (simp [*]; done)) _) | (with_reducible refine Below.drew ?_) | (with_reducible refine below_drewN ?_))))
        intro X13 hX13
        have sX13 := hX13.size
        refine (iOkYes R HOKR.out _ _ _ _ _ _ _ ⟨own_weak (own_below nj_12 hX13) (Nat.zero_le _), own_weak (own_below nt_12 hX13) (Nat.zero_le _), own_weak (own_below nf_12 hX13) (Nat.zero_le _)⟩ (by omega) (by omega)).mono ?_
        rintro e w13 ⟨rfl, hb13⟩
        have s13 := hb13.size
        have hT13 := hX13.trans (hb13.mono sX13)
        have b_13 := b_12.trans (hT13.mono (by omega))
        have pl_13 := own_below pl_12 hT13
        have nj_13 := own_below nj_12 hT13
        have nt_13 := own_below nt_12 hT13
        have nf_13 := own_below nf_12 hT13
        have o_13 := Blk.past hT13 o_12
        clear pl_12 nj_12 nt_12 nf_12 o_12 b_12 cell_o froz_o lt_o hX13 hT13 hb13
        have cell_o := o_13.cell
        have froz_o := o_13.frozen
        have lt_o := o_13.lt
        go_wp2_with fail
        go_roundw
        case measure => (simp [intOf]; omega)
        case rel => exact ⟨k + 1, by omega, by go_num, R, Nj, nj', Nt, nt', Nf, nf', HOKR.out, m1, m2, ⟨own_weak nj_13 (by omega), own_weak nt_13 (by omega), own_weak nf_13 (by omega)⟩, o_13, own_weak pl_13 (by omega), b_13⟩
      case false =>
        cases hq1 : (x % 4 == (1 : Int))
        case true =>
          have b_10 := hb
          have s_10 := b_10.size
          have rj_in := own_off hj ho (by decide)
          have rj_10 := hj
          clear hj
          have rt_in := own_off ht ho (by decide)
          have rt_10 := ht
          clear ht
          have rf_in := own_off hf ho (by decide)
          have rf_10 := hf
          clear hf
          have pl_in := own_off hp ho (by decide)
          have pl_10 := hp
          clear hp
          have o_10 := ho
          clear ho
          have o_lt := o_10.lt
          have cell_o := o_10.cell
          have froz_o := o_10.frozen
          have lt_o := o_10.lt
          have hf0 := (own_cells pl_10 (by omega)).2 k _ (ints_get HXA.out)
          have hgp := (own_cells pl_10 (by omega)).1
          obtain ⟨u, hu⟩ : ∃ u, x % 5 = u := ⟨_, rfl⟩
          have hu0 : 0 ≤ u ∧ u ≤ 4 := by omega
          obtain ⟨v, hv⟩ : ∃ v, x % 4 = v := ⟨_, rfl⟩
          have hv0 : 0 ≤ v ∧ v ≤ 3 := by omega
          have hu2 : x.tmod 5 = u := (Int.tmod_eq_emod_of_nonneg x0).trans hu
          have hv2 : x.tmod 4 = v := (Int.tmod_eq_emod_of_nonneg x0).trans hv
          obtain ⟨hu0, hu1⟩ := hu0
          obtain ⟨hv0, hv1⟩ := hv0
          have HU := hid hu
          have HV := hid hv
          have HU2 := hid hu2
          have HV2 := hid hv2
          clear hu hv hu2 hv2
          obtain ⟨R, hR⟩ : ∃ R, addR S (20 + k) (1 + u) (1 + v) = R := ⟨_, rfl⟩
          have hRok : okS R := by rw [← hR]; exact okS_addR HOK.out (by omega)
          have hRl : R.ts.length ≤ 25 + 5 * (k + 1) ∧ R.fs.length ≤ 25 + 5 * (k + 1) := by rw [← hR]; have := lenSchedAdd S (20 + k) (1 + u) (1 + v); omega
          have CON := hid (fun J T F cj tcp cf w h b1 b2 b3 => iSchedAddL S (20 + k) (1 + u) (1 + v) J T F cj tcp cf w h b1 b2 b3)
          rw [hR] at CON
          have HOKR := hid hRok
          have q16 := hRok.1.2.1
          obtain ⟨m1, m2⟩ := hRl
          clear hR hRok
          have hw2 : IntKind.i64.wrap (1 + u) = 1 + u := IntWalk.i64_in _ (by omega)
          have hw3 : IntKind.i64.wrap (1 + v) = 1 + v := IntWalk.i64_in _ (by omega)
          have hu := HU.out
          have hv := HV.out
          have hu2 := HU2.out
          have hv2 := HV2.out
          go_wp2_with fail
          go_region_with (first | (have hgd := b_10; clear hgd; go_at_call 16; refine calls_forget0 (W := wr) ?_ ?_; (focus (repeat (first | (with_reducible exact Below.refl _ _) | (with_reducible refine Below.trans ?_ (Below.mono (by assumption) (by first | omega | (simp; done) | (simp; omega) | (simp [*]; done)))) | (with_reducible refine Below.alloc ?_ (by first | omega | (simp; done) | (simp; omega) | (simp [*]; done)) _) | (with_reducible refine Below.setCell ?_ (by first | omega | (simp; done) | (simp; omega) | (simp [*]; done)) _) | (with_reducible refine Below.drew ?_) | (with_reducible refine below_drewN ?_)))); intro X11 hX11; have sX11 := hX11.size; refine (CON.out _ _ _ _ _ _ _ ⟨own_weak (own_below rj_10 hX11) (Nat.zero_le _), own_weak (own_below rt_10 hX11) (Nat.zero_le _), own_weak (own_below rf_10 hX11) (Nat.zero_le _)⟩ (by omega) (by omega) (by omega)).mono ?_; rintro e w11 ⟨Nj, nj', Nt, nt', Nf, nf', rfl, nj_11, nt_11, nf_11, hb11⟩; have s11 := hb11.size; have hT11 := hX11.trans (hb11.mono sX11); have b_11 := b_10.trans (hT11.mono (by omega)); have rj_11 := own_below rj_10 hT11; have rt_11 := own_below rt_10 hT11; have rf_11 := own_below rf_10 hT11; have pl_11 := own_below pl_10 hT11; have o_11 := Blk.past hT11 o_10; have nj_in := own_in nj_11; have nt_in := own_in nt_11; have nf_in := own_in nf_11; clear rj_10 rt_10 rf_10 pl_10 o_10 b_10 cell_o froz_o lt_o hX11 hT11 hb11; have cell_o := o_11.cell; have froz_o := o_11.frozen; have lt_o := o_11.lt))
          all_goals
            clear hf0 hw2 hw3 hu hv hu2 hv2
            go_upto_region 14 with fail
            clear rj_11
            clear rt_11
            clear rf_11
            go_wp2_with fail
            refine calls_touch1 (w0 := w11) (L := [w1.heap.size]) (b0 := w1.heap.size) (t0 := 31) (c0 := #[.int .i64 R.z, .int .i64 R.n, .int .i64 R.b, .slice Nj R.js.length nj', .slice Nt R.ts.length nt', .slice Nf R.fs.length nf']) ?_ ?_ ?_
            (focus (first | ((repeat (first | (with_reducible assumption) | (with_reducible apply Blk.drew) | (with_reducible apply Blk.drewN) | (with_reducible apply Blk.new; first | rfl | (simp; done)) | (with_reducible apply Blk.alloc) | (with_reducible apply Blk.set_) | (with_reducible apply Blk.past; focus assumption) | (with_reducible apply Blk.far; focus (first | (simp; done) | (simp; omega) | (dsimp only; omega))))); done) | (apply Blk.cast; (case h => (repeat (first | (with_reducible assumption) | (with_reducible apply Blk.drew) | (with_reducible apply Blk.drewN) | (with_reducible apply Blk.new; first | rfl | (simp; done)) | (with_reducible apply Blk.alloc) | (with_reducible apply Blk.set_) | (with_reducible apply Blk.past; focus assumption) | (with_reducible apply Blk.far; focus (first | (simp; done) | (simp; omega) | (dsimp only; omega)))))); (case e => rfl))))
            (focus (repeat (first | (with_reducible exact Touch.refl _ _) | (with_reducible assumption) | (with_reducible apply Touch.drew) | (with_reducible apply Touch.drewN) | (with_reducible apply Touch.alloc) | (with_reducible refine Touch.set_ ?_ _ _ (by simp; done)) | (with_reducible refine Touch.set_new ?_ _ _ (by first | omega | (simp; omega) | (dsimp only; omega))))))
            intro w12 o_12 hX12
            have sX12 := hX12.size
            have b_12 := hX12.below b_11 (by first | (simp; done) | (simp; omega))
            have pl_12 := own_touch' hX12 pl_11 (fun q hq => by have h1 := pl_in q hq; (try have e0 := own_ne_obj pl_11 o_11 (by decide) q hq); simp; omega)
            have nj_12 := own_touch' hX12 nj_11 (fun q hq => by have h1 := nj_in q hq; (try have e0 := own_ne_obj nj_11 o_11 (by decide) q hq); simp; omega)
            have nt_12 := own_touch' hX12 nt_11 (fun q hq => by have h1 := nt_in q hq; (try have e0 := own_ne_obj nt_11 o_11 (by decide) q hq); simp; omega)
            have nf_12 := own_touch' hX12 nf_11 (fun q hq => by have h1 := nf_in q hq; (try have e0 := own_ne_obj nf_11 o_11 (by decide) q hq); simp; omega)
            clear pl_11 nj_11 nt_11 nf_11 o_11 b_11 cell_o froz_o lt_o hX12
            have cell_o := o_12.cell
            have froz_o := o_12.frozen
            have lt_o := o_12.lt
            go_wp2_with fail
            refine calls_forget0 (W := w12) ?_ ?_
            (focus (repeat (first | (with_reducible exact Below.refl _ _) | (with_reducible refine Below.trans ?_ (Below.mono (by assumption) (by first | omega | (simp; done) | (simp; omega) | (simp [*]; done)))) | (with_reducible refine Below.alloc ?_ (by first | omega | (simp; done) | (simp; omega) | (simp [*]; done)) _) | (with_reducible refine Below.setCell ?_ (by first | omega | (simp; done) | (simp; omega) | (simp [*]; done)) _) | (with_reducible refine Below.drew ?_) | (with_reducible refine below_drewN ?_))))
            intro X13 hX13
            have sX13 := hX13.size
            refine (iOkYes R HOKR.out _ _ _ _ _ _ _ ⟨own_weak (own_below nj_12 hX13) (Nat.zero_le _), own_weak (own_below nt_12 hX13) (Nat.zero_le _), own_weak (own_below nf_12 hX13) (Nat.zero_le _)⟩ (by omega) (by omega)).mono ?_
            rintro e w13 ⟨rfl, hb13⟩
            have s13 := hb13.size
            have hT13 := hX13.trans (hb13.mono sX13)
            have b_13 := b_12.trans (hT13.mono (by omega))
            have pl_13 := own_below pl_12 hT13
            have nj_13 := own_below nj_12 hT13
            have nt_13 := own_below nt_12 hT13
            have nf_13 := own_below nf_12 hT13
            have o_13 := Blk.past hT13 o_12
            clear pl_12 nj_12 nt_12 nf_12 o_12 b_12 cell_o froz_o lt_o hX13 hT13 hb13
            have cell_o := o_13.cell
            have froz_o := o_13.frozen
            have lt_o := o_13.lt
            go_wp2_with fail
            go_roundw
            case measure => (simp [intOf]; omega)
            case rel => exact ⟨k + 1, by omega, by go_num, R, Nj, nj', Nt, nt', Nf, nf', HOKR.out, m1, m2, ⟨own_weak nj_13 (by omega), own_weak nt_13 (by omega), own_weak nf_13 (by omega)⟩, o_13, own_weak pl_13 (by omega), b_13⟩
        case false =>
          have b_10 := hb
          have s_10 := b_10.size
          have rj_in := own_off hj ho (by decide)
          have rj_10 := hj
          clear hj
          have rt_in := own_off ht ho (by decide)
          have rt_10 := ht
          clear ht
          have rf_in := own_off hf ho (by decide)
          have rf_10 := hf
          clear hf
          have pl_in := own_off hp ho (by decide)
          have pl_10 := hp
          clear hp
          have o_10 := ho
          clear ho
          have o_lt := o_10.lt
          have cell_o := o_10.cell
          have froz_o := o_10.frozen
          have lt_o := o_10.lt
          have hf0 := (own_cells pl_10 (by omega)).2 k _ (ints_get HXA.out)
          have hgp := (own_cells pl_10 (by omega)).1
          obtain ⟨u, hu⟩ : ∃ u, x % 5 = u := ⟨_, rfl⟩
          have hu0 : 0 ≤ u ∧ u ≤ 4 := by omega
          have hu2 : x.tmod 5 = u := (Int.tmod_eq_emod_of_nonneg x0).trans hu
          obtain ⟨hu0, hu1⟩ := hu0
          have HU := hid hu
          have HU2 := hid hu2
          clear hu hu2
          have hn5 := runM_lt hu0 (show u < 5 by omega) (by omega)
          obtain ⟨R, hR⟩ : ∃ R, runS (runM u) S = R := ⟨_, rfl⟩
          have hRok : okS R := by rw [← hR]; exact okS_run _ HOK.out
          have hRl : R.ts.length ≤ 25 + 5 * (k + 1) ∧ R.fs.length ≤ 25 + 5 * (k + 1) := by rw [← hR]; have := lenRunS (runM u) S; omega
          have CON := hid (fun J T F cj tcp cf w h b1 b2 b3 => iSchedRunL S u J T F cj tcp cf w h b1 b2 b3)
          rw [hR] at CON
          have HOKR := hid hRok
          have q16 := hRok.1.2.1
          obtain ⟨m1, m2⟩ := hRl
          clear hR hRok
          clear hn5
          have hu := HU.out
          have hu2 := HU2.out
          go_wp2_with fail
          go_region_with (first | (have hgd := b_10; clear hgd; go_at_call 17; refine calls_forget0 (W := wr) ?_ ?_; (focus (repeat (first | (with_reducible exact Below.refl _ _) | (with_reducible refine Below.trans ?_ (Below.mono (by assumption) (by first | omega | (simp; done) | (simp; omega) | (simp [*]; done)))) | (with_reducible refine Below.alloc ?_ (by first | omega | (simp; done) | (simp; omega) | (simp [*]; done)) _) | (with_reducible refine Below.setCell ?_ (by first | omega | (simp; done) | (simp; omega) | (simp [*]; done)) _) | (with_reducible refine Below.drew ?_) | (with_reducible refine below_drewN ?_)))); intro X11 hX11; have sX11 := hX11.size; refine (CON.out _ _ _ _ _ _ _ ⟨own_weak (own_below rj_10 hX11) (Nat.zero_le _), own_weak (own_below rt_10 hX11) (Nat.zero_le _), own_weak (own_below rf_10 hX11) (Nat.zero_le _)⟩ (by omega) (by omega) (by omega)).mono ?_; rintro e w11 ⟨Nj, nj', Nt, nt', Nf, nf', rfl, nj_11, nt_11, nf_11, hb11⟩; have s11 := hb11.size; have hT11 := hX11.trans (hb11.mono sX11); have b_11 := b_10.trans (hT11.mono (by omega)); have rj_11 := own_below rj_10 hT11; have rt_11 := own_below rt_10 hT11; have rf_11 := own_below rf_10 hT11; have pl_11 := own_below pl_10 hT11; have o_11 := Blk.past hT11 o_10; have nj_in := own_in nj_11; have nt_in := own_in nt_11; have nf_in := own_in nf_11; clear rj_10 rt_10 rf_10 pl_10 o_10 b_10 cell_o froz_o lt_o hX11 hT11 hb11; have cell_o := o_11.cell; have froz_o := o_11.frozen; have lt_o := o_11.lt))
          all_goals
            clear hf0 hu hu2
            go_upto_region 14 with fail
            clear rj_11
            clear rt_11
            clear rf_11
            go_wp2_with fail
            refine calls_touch1 (w0 := w11) (L := [w1.heap.size]) (b0 := w1.heap.size) (t0 := 31) (c0 := #[.int .i64 R.z, .int .i64 R.n, .int .i64 R.b, .slice Nj R.js.length nj', .slice Nt R.ts.length nt', .slice Nf R.fs.length nf']) ?_ ?_ ?_
            (focus (first | ((repeat (first | (with_reducible assumption) | (with_reducible apply Blk.drew) | (with_reducible apply Blk.drewN) | (with_reducible apply Blk.new; first | rfl | (simp; done)) | (with_reducible apply Blk.alloc) | (with_reducible apply Blk.set_) | (with_reducible apply Blk.past; focus assumption) | (with_reducible apply Blk.far; focus (first | (simp; done) | (simp; omega) | (dsimp only; omega))))); done) | (apply Blk.cast; (case h => (repeat (first | (with_reducible assumption) | (with_reducible apply Blk.drew) | (with_reducible apply Blk.drewN) | (with_reducible apply Blk.new; first | rfl | (simp; done)) | (with_reducible apply Blk.alloc) | (with_reducible apply Blk.set_) | (with_reducible apply Blk.past; focus assumption) | (with_reducible apply Blk.far; focus (first | (simp; done) | (simp; omega) | (dsimp only; omega)))))); (case e => rfl))))
            (focus (repeat (first | (with_reducible exact Touch.refl _ _) | (with_reducible assumption) | (with_reducible apply Touch.drew) | (with_reducible apply Touch.drewN) | (with_reducible apply Touch.alloc) | (with_reducible refine Touch.set_ ?_ _ _ (by simp; done)) | (with_reducible refine Touch.set_new ?_ _ _ (by first | omega | (simp; omega) | (dsimp only; omega))))))
            intro w12 o_12 hX12
            have sX12 := hX12.size
            have b_12 := hX12.below b_11 (by first | (simp; done) | (simp; omega))
            have pl_12 := own_touch' hX12 pl_11 (fun q hq => by have h1 := pl_in q hq; (try have e0 := own_ne_obj pl_11 o_11 (by decide) q hq); simp; omega)
            have nj_12 := own_touch' hX12 nj_11 (fun q hq => by have h1 := nj_in q hq; (try have e0 := own_ne_obj nj_11 o_11 (by decide) q hq); simp; omega)
            have nt_12 := own_touch' hX12 nt_11 (fun q hq => by have h1 := nt_in q hq; (try have e0 := own_ne_obj nt_11 o_11 (by decide) q hq); simp; omega)
            have nf_12 := own_touch' hX12 nf_11 (fun q hq => by have h1 := nf_in q hq; (try have e0 := own_ne_obj nf_11 o_11 (by decide) q hq); simp; omega)
            clear pl_11 nj_11 nt_11 nf_11 o_11 b_11 cell_o froz_o lt_o hX12
            have cell_o := o_12.cell
            have froz_o := o_12.frozen
            have lt_o := o_12.lt
            go_wp2_with fail
            refine calls_forget0 (W := w12) ?_ ?_
            (focus (repeat (first | (with_reducible exact Below.refl _ _) | (with_reducible refine Below.trans ?_ (Below.mono (by assumption) (by first | omega | (simp; done) | (simp; omega) | (simp [*]; done)))) | (with_reducible refine Below.alloc ?_ (by first | omega | (simp; done) | (simp; omega) | (simp [*]; done)) _) | (with_reducible refine Below.setCell ?_ (by first | omega | (simp; done) | (simp; omega) | (simp [*]; done)) _) | (with_reducible refine Below.drew ?_) | (with_reducible refine below_drewN ?_))))
            intro X13 hX13
            have sX13 := hX13.size
            refine (iOkYes R HOKR.out _ _ _ _ _ _ _ ⟨own_weak (own_below nj_12 hX13) (Nat.zero_le _), own_weak (own_below nt_12 hX13) (Nat.zero_le _), own_weak (own_below nf_12 hX13) (Nat.zero_le _)⟩ (by omega) (by omega)).mono ?_
            rintro e w13 ⟨rfl, hb13⟩
            have s13 := hb13.size
            have hT13 := hX13.trans (hb13.mono sX13)
            have b_13 := b_12.trans (hT13.mono (by omega))
            have pl_13 := own_below pl_12 hT13
            have nj_13 := own_below nj_12 hT13
            have nt_13 := own_below nt_12 hT13
            have nf_13 := own_below nf_12 hT13
            have o_13 := Blk.past hT13 o_12
            clear pl_12 nj_12 nt_12 nf_12 o_12 b_12 cell_o froz_o lt_o hX13 hT13 hb13
            have cell_o := o_13.cell
            have froz_o := o_13.frozen
            have lt_o := o_13.lt
            go_wp2_with fail
            go_roundw
            case measure => (simp [intOf]; omega)
            case rel => exact ⟨k + 1, by omega, by go_num, R, Nj, nj', Nt, nt', Nf, nf', HOKR.out, m1, m2, ⟨own_weak nj_13 (by omega), own_weak nt_13 (by omega), own_weak nf_13 (by omega)⟩, o_13, own_weak pl_13 (by omega), b_13⟩
    · obtain rfl : k = 6 := by omega
      have b_10 := hb
      have s_10 := b_10.size
      have rt_in := own_off ht ho (by decide)
      have rt_10 := ht
      clear ht
      have o_10 := ho
      clear ho
      have o_lt := o_10.lt
      have cell_o := o_10.cell
      have froz_o := o_10.frozen
      have lt_o := o_10.lt
      go_wp2_with fail
      refine calls_forget0 (W := wr) ?_ ?_
      (focus (repeat (first | (with_reducible exact Below.refl _ _) | (with_reducible refine Below.trans ?_ (Below.mono (by assumption) (by first | omega | (simp; done) | (simp; omega) | (simp [*]; done)))) | (with_reducible refine Below.alloc ?_ (by first | omega | (simp; done) | (simp; omega) | (simp [*]; done)) _) | (with_reducible refine Below.setCell ?_ (by first | omega | (simp; done) | (simp; omega) | (simp [*]; done)) _) | (with_reducible refine Below.drew ?_) | (with_reducible refine below_drewN ?_))))
      intro X11 hX11
      have sX11 := hX11.size
      refine (iTicketsYes _ _ _ _ HOK.out.1.2.2.1 (Cells.of_own (own_below rt_10 hX11)) (own_cap (own_below rt_10 hX11)) (by omega)).mono ?_
      rintro e w11 ⟨rfl, hb11⟩
      have s11 := hb11.size
      have hT11 := hX11.trans (hb11.mono sX11)
      have b_11 := b_10.trans (hT11.mono (by omega))
      have rt_11 := own_below rt_10 hT11
      have o_11 := Blk.past hT11 o_10
      clear rt_10 o_10 b_10 cell_o froz_o lt_o hX11 hT11 hb11
      have cell_o := o_11.cell
      have froz_o := o_11.frozen
      have lt_o := o_11.lt
      go_wp2
      go_ret
      refine ⟨rfl, b_11.trans ?_⟩
      repeat (first | (with_reducible exact Below.refl _ _) | (with_reducible refine Below.trans ?_ (Below.mono (by assumption) (by first | omega | (simp; done) | (simp; omega) | (simp [*]; done)))) | (with_reducible refine Below.alloc ?_ (by first | omega | (simp; done) | (simp; omega) | (simp [*]; done)) _) | (with_reducible refine Below.setCell ?_ (by first | omega | (simp; done) | (simp; omega) | (simp [*]; done)) _) | (with_reducible refine Below.drew ?_) | (with_reducible refine below_drewN ?_))
set_option maxRecDepth 100000 in
theorem lifted (os : Os) (started : os.Started) (H : Type) (enc : TypeId × Value → H) :
    ReturnsInHanded {} Try.checked os 8 .any (Rows.fnScheduledSpec.pre6 enc Try.prog Try.f8 Rows.fnScheduledRow.domain false) (Rows.fnScheduledSpec.post enc Try.prog Try.f8 false true false false) := by
  refine returnsInHanded_of_change (C := Try.checked) own started (by kernel_rfl) Try.func8
    (ChangeSpec.witness6 (enc := enc) (C := Try.checked) false ⟨#[], #[.slice none 0 0], []⟩ 8 (by kernel_rfl) (by kernel_rfl) (by kernel_rfl) (by kernel_rfl)) ?_
  intro W base args ds gs before hval0 hW _ _
  have hval : ∀ (j : Nat) t v, Try.f8.params[j]? = some t → args[j]? = some v → Value.okWide Try.prog W .any base t v := hval0
  have hW' := hW
  obtain ⟨p, q, hA0, hV, rfl, _, _⟩ := hW
  have hA : DataW.TrodAll enc Try.prog W 0 (fun _ => true) true Try.f8.params.toList args.toList ds p := hA0
  rw [Try.params8] at hA hval
  obtain ⟨v0, vs0, d0, ds0, p0, q0, hargs, rfl, rfl, h0, r0⟩ := trodAll_cons hA
  obtain ⟨rfl, rfl, rfl⟩ := trodAll_nil r0
  obtain rfl : args = #[v0] := by cases args; simp_all
  obtain ⟨rfl, rfl⟩ := trodVars_none hV
  obtain ⟨A0, c0, xs0, rfl, hb0⟩ := view_bytes Try.underlying22 Try.underlying5 (by kernel_rfl) (hval 0 22 v0 rfl rfl) h0 (fun x hx => hW'.lt x (by simp [hx]))
  refine (walk A0 c0 xs0 W hb0).mono fun e W' ⟨he, hb⟩ => ?_
  subst he
  exact ⟨_, rfl, law_post rfl (by kernel_rfl) (by kernel_rfl) rfl Try.underlying4 hW' rfl rfl rfl hb⟩
theorem closed : joinedFacts Try.prog 8 Try.f8 Rows.fnScheduledSpec Rows.fnScheduledRow = true := by
  unfold joinedFacts
  rw [makeIs, mayIs, finalsIs]
  kernel_rfl
theorem over : Rows.fnScheduledRow.holds Try.pinned (OpenSpec.ofChange Rows.fnScheduledSpec) :=
  OpenClaim.holds_of_wide 8 Try.f8 rfl rfl rfl rfl rfl rfl rfl ⟨rfl, rfl, rfl, rfl, rfl⟩ rfl rfl rfl rfl rfl (by kernel_rfl) Try.func8 closed
    (of_decide_eq_true (by kernel_rfl)) (by unfold Func.isWrapper; first | (rw [if_pos (by decide +kernel)]; kernel_rfl) | (rw [if_neg (by decide +kernel)]; exact ⟨rfl, rfl⟩))
    (fun os started H enc _ => lifted os started H enc)
theorem proved : Rows.FnScheduledSaid := over
#print axioms proved

end scheduled
end Go.Proofs.Ytipnhlnbokkihaa
