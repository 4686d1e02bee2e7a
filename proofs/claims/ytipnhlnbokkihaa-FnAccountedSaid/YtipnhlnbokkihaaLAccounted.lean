/- The law that the items of all tickets, together with those that crashes lost, are at most those of the pool (FnAccounted). No conditions. -/
import Derived.Test.YtipnhlnbokkihaaDrawS
import Derived.Test.YtipnhlnbokkihaaHead
set_option linter.unusedVariables false
namespace Go.Proofs.Ytipnhlnbokkihaa
open Go.RowKit Go.ChangeShapes Go.WideShapes Go.ChangeAt

namespace accounted
theorem take_snoc' {ts : List Tk} {k : Nat} {t : Tk} (h : ts[k]? = some t) : ts.take (k + 1) = ts.take k ++ [t] := by
  rw [List.take_add_one, h]
  rfl
theorem sumT_snoc {ts : List Tk} {k : Nat} {t : Tk} (h : ts[k]? = some t) : sumT (ts.take (k + 1)) = sumT (ts.take k) + t.c := by
  rw [take_snoc' h, sumT_append]
  simp [sumT]
theorem sumT_le : ∀ {ts : List Tk}, (∀ t ∈ ts, tkIn t = true) → 0 ≤ sumT ts ∧ sumT ts ≤ 1000 * (ts.length : Int)
  | [], _ => by simp [sumT]
  | t :: ts, h => by
    have h1 := sumT_le (ts := ts) fun x hx => h x (List.mem_cons_of_mem _ hx)
    have h2 := h t (List.mem_cons_self ..)
    unfold tkIn at h2
    simp only [Bool.and_eq_true, inB_iff] at h2
    simp only [sumT, List.length_cons]
    omega
def Cut5 (W : World) (R : SV) (cnt : Int) (v5 v6 : Value) (wx : World) : Prop :=
  ∃ (b : Nat) (J : Option Addr) (cj : Nat) (T : Option Addr) (tcp : Nat) (F : Option Addr) (cf : Nat), v5 = .pointer (some ⟨b, 0, none⟩) ∧ v6 = .int .i64 cnt ∧ W.heap.size ≤ b ∧
    Blk wx b 31 #[.int .i64 R.z, .int .i64 R.n, .int .i64 R.b, .slice J R.js.length cj, .slice T R.ts.length tcp, .slice F R.fs.length cf] ∧ (wx.ownsRow W.heap.size 38 4 (.slice J R.js.length cj) R.js.length (ints (flatJ R.js)) ∧ wx.ownsRow W.heap.size 55 2 (.slice T R.ts.length tcp) R.ts.length (ints (flatT R.ts)) ∧ wx.ownsRow W.heap.size 3 1 (.slice F R.fs.length cf) R.fs.length (ints R.fs)) ∧ Below W.heap.size W wx
set_option maxRecDepth 100000 in
set_option maxHeartbeats 6400000 in
theorem walk (A : Option Addr) (c : Nat) (bs : List Int) (w : World) (hb : Bytes w w.heap.size A bs) :
    Calls Try.prog 7 #[.slice A bs.length c] w fun e w' => e = .returned (.bool true) ∧ Below w.heap.size w w' := by
  have hl := hb.len
  have HB := hid hb
  clear hb
  by_cases h1 : (1048576 : Int) < (bs.length : Int)
  · go_enter Try.func7, Try.ntmps7
    go_wp2_with (go_at_call 13; refine (big_any _ _ _ _ hl).mono ?_; rintro e w' ⟨rfl, rfl⟩)
    go_ret
    exact ⟨rfl, Below.refl _ _⟩
  have H1 := hid (show (bs.length : Int) ≤ 1048576 by omega)
  clear h1
  go_enter Try.func7, Try.ntmps7
  go_wp2_with fail
  refine (big_no _ _ _ _ hl H1.out).mono ?_
  rintro e w' ⟨rfl, rfl⟩
  have b_0 := (Below.refl w.heap.size w)
  have s_0 := b_0.size
  go_wp2_with fail
  refine calls_forget0 (W := w) ?_ ?_
  (focus (repeat (first | (with_reducible exact Below.refl _ _) | (with_reducible refine Below.trans ?_ (Below.mono (by assumption) (by first | omega | (simp; done) | (simp; omega) | (simp [*]; done)))) | (with_reducible refine Below.alloc ?_ (by first | omega | (simp; done) | (simp; omega) | (simp [*]; done)) _) | (with_reducible refine Below.setCell ?_ (by first | omega | (simp; done) | (simp; omega) | (simp [*]; done)) _) | (with_reducible refine Below.drew ?_) | (with_reducible refine below_drewN ?_))))
  intro X1 hX1
  have sX1 := hX1.size
  refine (drawSched_any _ _ _ _ ((HB.out.step (b_0.trans (hX1.mono (by omega)))).more (by omega))).mono ?_
  rintro e w1 ⟨S, J, cj, T, tcp, F, cf, hS, rfl, rj_1, rt_1, rf_1, hb1⟩
  have s1 := hb1.size
  have hT1 := hX1.trans (hb1.mono sX1)
  have b_1 := b_0.trans (hT1.mono (by omega))
  have rj_in := own_in rj_1
  have rt_in := own_in rt_1
  have rf_in := own_in rf_1
  clear b_0 hX1 hT1 hb1
  obtain ⟨hok, l1, l2⟩ := hS
  have hs16 := hok.1.2.1
  have HOK := hid hok
  clear hok
  go_upto_region 4 with fail
  go_wp2_with fail
  refine calls_forget1 (W := w1) (b0 := w1.heap.size) (t0 := 31) (c0 := #[.int .i64 S.z, .int .i64 S.n, .int .i64 S.b, .slice J S.js.length cj, .slice T S.ts.length tcp, .slice F S.fs.length cf]) ?_ ?_ ?_
  (focus (first | ((repeat (first | (with_reducible assumption) | (with_reducible apply Blk.drew) | (with_reducible apply Blk.drewN) | (with_reducible apply Blk.new; first | rfl | (simp; done)) | (with_reducible apply Blk.alloc) | (with_reducible apply Blk.set_) | (with_reducible apply Blk.past; focus assumption) | (with_reducible apply Blk.far; focus (first | (simp; done) | (simp; omega) | (dsimp only; omega))))); done) | (apply Blk.cast; (case h => (repeat (first | (with_reducible assumption) | (with_reducible apply Blk.drew) | (with_reducible apply Blk.drewN) | (with_reducible apply Blk.new; first | rfl | (simp; done)) | (with_reducible apply Blk.alloc) | (with_reducible apply Blk.set_) | (with_reducible apply Blk.past; focus assumption) | (with_reducible apply Blk.far; focus (first | (simp; done) | (simp; omega) | (dsimp only; omega)))))); (case e => rfl))))
  (focus (repeat (first | (with_reducible exact Below.refl _ _) | (with_reducible refine Below.trans ?_ (Below.mono (by assumption) (by first | omega | (simp; done) | (simp; omega) | (simp [*]; done)))) | (with_reducible refine Below.alloc ?_ (by first | omega | (simp; done) | (simp; omega) | (simp [*]; done)) _) | (with_reducible refine Below.setCell ?_ (by first | omega | (simp; done) | (simp; omega) | (simp [*]; done)) _) | (with_reducible refine Below.drew ?_) | (with_reducible refine below_drewN ?_))))
  intro X2 o_n hX2
  have sX2 := hX2.size
  have o_lt := o_n.lt
  refine (places12 _ _ _ _ ((HB.out.step (b_1.trans (hX2.mono (by omega)))).more (by omega))).mono ?_
  rintro e w2 ⟨ps, gp, cp, hps, rfl, pl_2, hb2⟩
  have s2 := hb2.size
  have hT2 := hX2.trans (hb2.mono sX2)
  have b_2 := b_1.trans (hT2.mono (by omega))
  have rj_2 := own_below rj_1 hT2
  have rt_2 := own_below rt_1 hT2
  have rf_2 := own_below rf_1 hT2
  have o_2 := Blk.past hb2 o_n
  have pl_in := own_in pl_2
  clear rj_1 rt_1 rf_1 b_1 o_n hX2 hT2 hb2
  have cell_o := o_2.cell
  have froz_o := o_2.frozen
  have lt_o := o_2.lt
  obtain ⟨x, hx, x0, x1⟩ := place_at hps (show 0 < 12 by omega)
  have hf0 := (own_cells pl_2 (by omega)).2 0 _ (ints_get hx)
  have hgp := (own_cells pl_2 (by omega)).1
  obtain ⟨u, hu⟩ : ∃ u, x % 40 = u := ⟨_, rfl⟩
  have hu0 : 0 ≤ u ∧ u ≤ 39 := by omega
  have hu2 : x.tmod 40 = u := (Int.tmod_eq_emod_of_nonneg x0).trans hu
  obtain ⟨hu0, hu1⟩ := hu0
  have hrl := lenRunS (runM u) S
  have hrt := tsRun (runM u) S
  have hm4 := runM_le u
  have hRok := okS_run (runM u) HOK.out
  have CON := hid (fun J T F cj tcp cf w h b1 b2 b3 => iSchedRunL S u J T F cj tcp cf w h b1 b2 b3)
  obtain ⟨R, hR⟩ : ∃ R, runS (runM u) S = R := ⟨_, rfl⟩
  rw [hR] at CON hrl hrt hRok
  obtain ⟨cnt, hcnt⟩ : ∃ x : Int, ((runN (runM u) S : Nat) : Int) = x := ⟨_, rfl⟩
  rw [hcnt] at CON
  have hcn : (R.ts.length : Int) - (S.ts.length : Int) ≤ cnt := by omega
  have hr16 := hRok.1.2.1
  have hpl := poolOk_iff.1 hRok.1.1
  have htk := hRok.1.2.2.1.2.1
  have hsm := hRok.2.2
  have HROK := hid hRok
  have HTK := hid htk
  have HSM := hid hsm
  clear hps hx hR hcnt hRok htk hsm hrt
  obtain ⟨p1, p2, p3, p4, p5⟩ := hpl
  obtain ⟨q1, q2, q3⟩ := hrl
  go_upto_region 5 with fail
  go_cut [5, 6] (fun v5 v6 wx => Cut5 w2 R cnt v5 v6 wx)
  case first =>
    go_region_with (first | (go_at_call 17; refine calls_forget1 (W := w2) (b0 := w2.heap.size) (t0 := 31) (c0 := #[.int .i64 0, .int .i64 0, .int .i64 0, .slice none 0 0, .slice none 0 0, .slice none 0 0]) ?_ ?_ ?_; (focus (first | ((repeat (first | (with_reducible assumption) | (with_reducible apply Blk.drew) | (with_reducible apply Blk.drewN) | (with_reducible apply Blk.new; first | rfl | (simp; done)) | (with_reducible apply Blk.alloc) | (with_reducible apply Blk.set_) | (with_reducible apply Blk.past; focus assumption) | (with_reducible apply Blk.far; focus (first | (simp; done) | (simp; omega) | (dsimp only; omega))))); done) | (apply Blk.cast; (case h => (repeat (first | (with_reducible assumption) | (with_reducible apply Blk.drew) | (with_reducible apply Blk.drewN) | (with_reducible apply Blk.new; first | rfl | (simp; done)) | (with_reducible apply Blk.alloc) | (with_reducible apply Blk.set_) | (with_reducible apply Blk.past; focus assumption) | (with_reducible apply Blk.far; focus (first | (simp; done) | (simp; omega) | (dsimp only; omega)))))); (case e => rfl)))); (focus (repeat (first | (with_reducible exact Below.refl _ _) | (with_reducible refine Below.trans ?_ (Below.mono (by assumption) (by first | omega | (simp; done) | (simp; omega) | (simp [*]; done)))) | (with_reducible refine Below.alloc ?_ (by first | omega | (simp; done) | (simp; omega) | (simp [*]; done)) _) | (with_reducible refine Below.setCell ?_ (by first | omega | (simp; done) | (simp; omega) | (simp [*]; done)) _) | (with_reducible refine Below.drew ?_) | (with_reducible refine below_drewN ?_)))); intro X3 y_n hX3; have sX3 := hX3.size; have lt_y := y_n.lt; refine (CON.out _ _ _ _ _ _ _ ⟨own_weak (own_below rj_2 hX3) (Nat.zero_le _), own_weak (own_below rt_2 hX3) (Nat.zero_le _), own_weak (own_below rf_2 hX3) (Nat.zero_le _)⟩ (by omega) (by omega) (by omega)).mono ?_; rintro e w3 ⟨Nj, nj', Nt, nt', Nf, nf', rfl, n1, n2, n3, hb3⟩; have s3 := hb3.size; have y_3 := Blk.past hb3 y_n; have cell_y := y_3.cell; have froz_y := y_3.frozen; have lt_y3 := y_3.lt; have hb2 := hX3.trans (hb3.mono sX3); clear hX3 hb3 y_n) | (go_at_call 17; refine calls_forget0 (W := w2) ?_ ?_; (focus (repeat (first | (with_reducible exact Below.refl _ _) | (with_reducible refine Below.trans ?_ (Below.mono (by assumption) (by first | omega | (simp; done) | (simp; omega) | (simp [*]; done)))) | (with_reducible refine Below.alloc ?_ (by first | omega | (simp; done) | (simp; omega) | (simp [*]; done)) _) | (with_reducible refine Below.setCell ?_ (by first | omega | (simp; done) | (simp; omega) | (simp [*]; done)) _) | (with_reducible refine Below.drew ?_) | (with_reducible refine below_drewN ?_)))); intro X3 hX3; have sX3 := hX3.size; refine (CON.out _ _ _ _ _ _ _ ⟨own_weak (own_below rj_2 hX3) (Nat.zero_le _), own_weak (own_below rt_2 hX3) (Nat.zero_le _), own_weak (own_below rf_2 hX3) (Nat.zero_le _)⟩ (by omega) (by omega) (by omega)).mono ?_; rintro e w3 ⟨Nj, nj', Nt, nt', Nf, nf', rfl, n1, n2, n3, hb3⟩; have s3 := hb3.size; have hb2 := hX3.trans (hb3.mono sX3); clear hX3 hb3))
    all_goals
      go_wp2_with fail
      go_meet
      first
      | exact ⟨w2.heap.size, Nj, nj', Nt, nt', Nf, nf', rfl, rfl, Nat.le_refl _, by (first | ((repeat (first | (with_reducible assumption) | (with_reducible apply Blk.drew) | (with_reducible apply Blk.drewN) | (with_reducible apply Blk.new; first | rfl | (simp; done)) | (with_reducible apply Blk.alloc) | (with_reducible apply Blk.set_) | (with_reducible apply Blk.past; focus assumption) | (with_reducible apply Blk.far; focus (first | (simp; done) | (simp; omega) | (dsimp only; omega))))); done) | (apply Blk.cast; (case h => (repeat (first | (with_reducible assumption) | (with_reducible apply Blk.drew) | (with_reducible apply Blk.drewN) | (with_reducible apply Blk.new; first | rfl | (simp; done)) | (with_reducible apply Blk.alloc) | (with_reducible apply Blk.set_) | (with_reducible apply Blk.past; focus assumption) | (with_reducible apply Blk.far; focus (first | (simp; done) | (simp; omega) | (dsimp only; omega)))))); (case e => rfl))), ⟨own_weak (base := X3.heap.size) (by repeat (first | (with_reducible assumption) | (with_reducible apply World.ownsRow.drew) | (with_reducible apply own_drewN) | (with_reducible apply World.ownsRow.alloc) | (with_reducible refine own_set ?_ _ _ (by first | omega | (simp; omega) | (dsimp only; omega))))) (by omega), own_weak (base := X3.heap.size) (by repeat (first | (with_reducible assumption) | (with_reducible apply World.ownsRow.drew) | (with_reducible apply own_drewN) | (with_reducible apply World.ownsRow.alloc) | (with_reducible refine own_set ?_ _ _ (by first | omega | (simp; omega) | (dsimp only; omega))))) (by omega), own_weak (base := X3.heap.size) (by repeat (first | (with_reducible assumption) | (with_reducible apply World.ownsRow.drew) | (with_reducible apply own_drewN) | (with_reducible apply World.ownsRow.alloc) | (with_reducible refine own_set ?_ _ _ (by first | omega | (simp; omega) | (dsimp only; omega))))) (by omega)⟩, by repeat (first | (with_reducible exact Below.refl _ _) | (with_reducible refine Below.trans ?_ (Below.mono (by assumption) (by first | omega | (simp; done) | (simp; omega) | (simp [*]; done)))) | (with_reducible refine Below.alloc ?_ (by first | omega | (simp; done) | (simp; omega) | (simp [*]; done)) _) | (with_reducible refine Below.setCell ?_ (by first | omega | (simp; done) | (simp; omega) | (simp [*]; done)) _) | (with_reducible refine Below.drew ?_) | (with_reducible refine below_drewN ?_))⟩
      | exact ⟨w3.heap.size, Nj, nj', Nt, nt', Nf, nf', rfl, rfl, by omega, by (first | ((repeat (first | (with_reducible assumption) | (with_reducible apply Blk.drew) | (with_reducible apply Blk.drewN) | (with_reducible apply Blk.new; first | rfl | (simp; done)) | (with_reducible apply Blk.alloc) | (with_reducible apply Blk.set_) | (with_reducible apply Blk.past; focus assumption) | (with_reducible apply Blk.far; focus (first | (simp; done) | (simp; omega) | (dsimp only; omega))))); done) | (apply Blk.cast; (case h => (repeat (first | (with_reducible assumption) | (with_reducible apply Blk.drew) | (with_reducible apply Blk.drewN) | (with_reducible apply Blk.new; first | rfl | (simp; done)) | (with_reducible apply Blk.alloc) | (with_reducible apply Blk.set_) | (with_reducible apply Blk.past; focus assumption) | (with_reducible apply Blk.far; focus (first | (simp; done) | (simp; omega) | (dsimp only; omega)))))); (case e => rfl))), ⟨own_weak (base := X3.heap.size) (by repeat (first | (with_reducible assumption) | (with_reducible apply World.ownsRow.drew) | (with_reducible apply own_drewN) | (with_reducible apply World.ownsRow.alloc) | (with_reducible refine own_set ?_ _ _ (by first | omega | (simp; omega) | (dsimp only; omega))))) (by omega), own_weak (base := X3.heap.size) (by repeat (first | (with_reducible assumption) | (with_reducible apply World.ownsRow.drew) | (with_reducible apply own_drewN) | (with_reducible apply World.ownsRow.alloc) | (with_reducible refine own_set ?_ _ _ (by first | omega | (simp; omega) | (dsimp only; omega))))) (by omega), own_weak (base := X3.heap.size) (by repeat (first | (with_reducible assumption) | (with_reducible apply World.ownsRow.drew) | (with_reducible apply own_drewN) | (with_reducible apply World.ownsRow.alloc) | (with_reducible refine own_set ?_ _ _ (by first | omega | (simp; omega) | (dsimp only; omega))))) (by omega)⟩, by repeat (first | (with_reducible exact Below.refl _ _) | (with_reducible refine Below.trans ?_ (Below.mono (by assumption) (by first | omega | (simp; done) | (simp; omega) | (simp [*]; done)))) | (with_reducible refine Below.alloc ?_ (by first | omega | (simp; done) | (simp; omega) | (simp [*]; done)) _) | (with_reducible refine Below.setCell ?_ (by first | omega | (simp; done) | (simp; omega) | (simp [*]; done)) _) | (with_reducible refine Below.drew ?_) | (with_reducible refine below_drewN ?_))⟩
  case rest =>
  obtain ⟨yb, Nj, nj', Nt, nt', Nf, nf', rfl, rfl, hyb, hy, ⟨hn1, hn2, hn3⟩, hb5⟩ := hcut
  obtain ⟨w4, rfl⟩ : ∃ z : World, z = wc := ⟨_, rfl⟩
  have o4 := Blk.past hb5 o_2
  have s5 := hb5.size
  have hb4 := b_2.trans (hb5.mono (by omega))
  clear hu hu2 hf0 rj_2 rt_2 rf_2 pl_2 o_2 b_2 hb5 cell_o froz_o lt_o rj_in rt_in rf_in pl_in
  have b_4 := hb4
  have s_4 := b_4.size
  have nj_in := own_in hn1
  have nj_4 := hn1
  clear hn1
  have nt_in := own_in hn2
  have nt_4 := hn2
  clear hn2
  have nf_in := own_in hn3
  have nf_4 := hn3
  clear hn3
  have o_4 := o4
  clear o4
  have o_lt := o_4.lt
  have cell_o := o_4.cell
  have froz_o := o_4.frozen
  have lt_o := o_4.lt
  have y_4 := hy
  clear hy
  have y_lt := y_4.lt
  have cell_y := y_4.cell
  have froz_y := y_4.frozen
  have lt_y := y_4.lt
  have HNT := hid nt_4
  go_wp2
  go_loop [7, 8] (fun v i => ∃ k : Nat, k ≤ R.ts.length ∧ i = .int .i64 k ∧ v = .int .i64 (sumT (R.ts.take k))) (fun _ i => R.ts.length - (intOf i).toNat)
  case atStart => exact ⟨0, Nat.zero_le _, rfl, rfl⟩
  case round =>
    obtain ⟨k, hk, rfl, rfl⟩ := hrel
    by_cases hlt : k < R.ts.length
    · obtain ⟨t, ht⟩ : ∃ t, R.ts[k]? = some t := ⟨_, List.getElem?_eq_getElem hlt⟩
      obtain ⟨g, rfl, hg0, hg1, _⟩ := own_at HNT.out (by omega)
      have d1 := HNT.out.cellAt (k * 2 + 1) (by omega)
      rw [ints_get (flatT_at ht 1 t.c rfl)] at d1
      have hb1 := sumT_le (ts := R.ts.take k) fun x hx => HTK.out x (List.mem_of_mem_take hx)
      rw [List.length_take] at hb1
      have hb2 := HTK.out t (List.mem_of_getElem? ht)
      unfold tkIn at hb2
      simp only [Bool.and_eq_true, inB_iff] at hb2
      obtain ⟨_, hb3, hb4⟩ := hb2
      obtain ⟨hb5, hb6⟩ := hb1
      have hb7 : sumT (R.ts.take k) ≤ 1000000 := by omega
      have HS := hid (sumT_snoc ht)
      clear ht hb6
      go_wp2
      go_round
      case rel => exact ⟨k + 1, by omega, by go_num, by rw [HS.out]⟩
      case measure => simp [intOf]; omega
    · obtain rfl : k = R.ts.length := by omega
      rw [List.take_length]
      have hYn := crash_n HROK.out
      have hYok := okS_crash HROK.out
      have hYl := lenSchedCrash R
      have CONC := hid (fun J T F cj tcp cf w h b1 b2 b3 => iSchedCrashL R J T F cj tcp cf w h b1 b2 b3)
      obtain ⟨Y, hY⟩ : ∃ Y, crashS R = Y := ⟨_, rfl⟩
      rw [hY] at CONC hYn hYok hYl
      obtain ⟨y1, y2, y3⟩ := hYl
      have HYK := hid (fun J T F cj ct cf w ho b1 b2 => iOkYes Y hYok J T F cj ct cf w ho b1 b2)
      rw [hYn] at CONC HYK
      have hsum := HSM.out
      have hsum0 := (sumT_le HTK.out).1
      have y16 := hYok.1.2.1
      clear hY hYn hYok
      have b_10 := b_4
      have s_10 := b_10.size
      have rj_in := own_in nj_4
      have rj_10 := nj_4
      clear nj_4
      have rt_in := own_in nt_4
      have rt_10 := nt_4
      clear nt_4
      have rf_in := own_in nf_4
      have rf_10 := nf_4
      clear nf_4
      have o_10 := o_4
      clear o_4
      have o_lt := o_10.lt
      have cell_o := o_10.cell
      have froz_o := o_10.frozen
      have lt_o := o_10.lt
      have y_10 := y_4
      clear y_4
      have y_lt := y_10.lt
      have cell_y := y_10.cell
      have froz_y := y_10.frozen
      have lt_y := y_10.lt
      go_wp2_with fail
      refine calls_forget0 (W := w4) ?_ ?_
      (focus (repeat (first | (with_reducible exact Below.refl _ _) | (with_reducible refine Below.trans ?_ (Below.mono (by assumption) (by first | omega | (simp; done) | (simp; omega) | (simp [*]; done)))) | (with_reducible refine Below.alloc ?_ (by first | omega | (simp; done) | (simp; omega) | (simp [*]; done)) _) | (with_reducible refine Below.setCell ?_ (by first | omega | (simp; done) | (simp; omega) | (simp [*]; done)) _) | (with_reducible refine Below.drew ?_) | (with_reducible refine below_drewN ?_))))
      intro X11 hX11
      have sX11 := hX11.size
      refine (CONC.out _ _ _ _ _ _ _ ⟨own_weak (own_below rj_10 hX11) (Nat.zero_le _), own_weak (own_below rt_10 hX11) (Nat.zero_le _), own_weak (own_below rf_10 hX11) (Nat.zero_le _)⟩ (by omega) (by omega) (by omega)).mono ?_
      rintro e w11 ⟨Zj, zj', Zt, zt', Zf, zf', rfl, zj_11, zt_11, zf_11, hb11⟩
      have s11 := hb11.size
      have hT11 := hX11.trans (hb11.mono sX11)
      have b_11 := b_10.trans (hT11.mono (by omega))
      have rj_11 := own_below rj_10 hT11
      have rt_11 := own_below rt_10 hT11
      have rf_11 := own_below rf_10 hT11
      have o_11 := Blk.past hT11 o_10
      have y_11 := Blk.past hT11 y_10
      have zj_in := own_in zj_11
      have zt_in := own_in zt_11
      have zf_in := own_in zf_11
      clear rj_10 rt_10 rf_10 o_10 y_10 b_10 cell_o froz_o lt_o cell_y froz_y lt_y hX11 hT11 hb11
      have cell_o := o_11.cell
      have froz_o := o_11.frozen
      have lt_o := o_11.lt
      have cell_y := y_11.cell
      have froz_y := y_11.frozen
      have lt_y := y_11.lt
      go_upto_region 12 with fail
      go_wp2_with fail
      refine calls_forget1 (W := w11) (b0 := w11.heap.size) (t0 := 31) (c0 := #[.int .i64 Y.z, .int .i64 R.b, .int .i64 Y.b, .slice Zj Y.js.length zj', .slice Zt Y.ts.length zt', .slice Zf Y.fs.length zf']) ?_ ?_ ?_
      (focus (first | ((repeat (first | (with_reducible assumption) | (with_reducible apply Blk.drew) | (with_reducible apply Blk.drewN) | (with_reducible apply Blk.new; first | rfl | (simp; done)) | (with_reducible apply Blk.alloc) | (with_reducible apply Blk.set_) | (with_reducible apply Blk.past; focus assumption) | (with_reducible apply Blk.far; focus (first | (simp; done) | (simp; omega) | (dsimp only; omega))))); done) | (apply Blk.cast; (case h => (repeat (first | (with_reducible assumption) | (with_reducible apply Blk.drew) | (with_reducible apply Blk.drewN) | (with_reducible apply Blk.new; first | rfl | (simp; done)) | (with_reducible apply Blk.alloc) | (with_reducible apply Blk.set_) | (with_reducible apply Blk.past; focus assumption) | (with_reducible apply Blk.far; focus (first | (simp; done) | (simp; omega) | (dsimp only; omega)))))); (case e => rfl))))
      (focus (repeat (first | (with_reducible exact Below.refl _ _) | (with_reducible refine Below.trans ?_ (Below.mono (by assumption) (by first | omega | (simp; done) | (simp; omega) | (simp [*]; done)))) | (with_reducible refine Below.alloc ?_ (by first | omega | (simp; done) | (simp; omega) | (simp [*]; done)) _) | (with_reducible refine Below.setCell ?_ (by first | omega | (simp; done) | (simp; omega) | (simp [*]; done)) _) | (with_reducible refine Below.drew ?_) | (with_reducible refine below_drewN ?_))))
      intro X12 yy_n hX12
      have sX12 := hX12.size
      have yy_lt := yy_n.lt
      refine (HYK.out _ _ _ _ _ _ _ ⟨own_weak (own_below zj_11 hX12) (Nat.zero_le _), own_weak (own_below zt_11 hX12) (Nat.zero_le _), own_weak (own_below zf_11 hX12) (Nat.zero_le _)⟩ (by omega) (by omega)).mono ?_
      rintro e w12 ⟨rfl, hb12⟩
      have s12 := hb12.size
      have hT12 := hX12.trans (hb12.mono sX12)
      have b_12 := b_11.trans (hT12.mono (by omega))
      have rj_12 := own_below rj_11 hT12
      have rt_12 := own_below rt_11 hT12
      have rf_12 := own_below rf_11 hT12
      have zj_12 := own_below zj_11 hT12
      have zt_12 := own_below zt_11 hT12
      have zf_12 := own_below zf_11 hT12
      have o_12 := Blk.past hT12 o_11
      have y_12 := Blk.past hT12 y_11
      have yy_12 := Blk.past hb12 yy_n
      clear rj_11 rt_11 rf_11 zj_11 zt_11 zf_11 o_11 y_11 b_11 cell_o froz_o lt_o cell_y froz_y lt_y yy_n hX12 hT12 hb12
      have cell_o := o_12.cell
      have froz_o := o_12.frozen
      have lt_o := o_12.lt
      have cell_y := y_12.cell
      have froz_y := y_12.frozen
      have lt_y := y_12.lt
      have cell_yy := yy_12.cell
      have froz_yy := yy_12.frozen
      have lt_yy := yy_12.lt
      go_wp2
      go_ret
      refine ⟨rfl, b_12.trans ?_⟩
      repeat (first | (with_reducible exact Below.refl _ _) | (with_reducible refine Below.trans ?_ (Below.mono (by assumption) (by first | omega | (simp; done) | (simp; omega) | (simp [*]; done)))) | (with_reducible refine Below.alloc ?_ (by first | omega | (simp; done) | (simp; omega) | (simp [*]; done)) _) | (with_reducible refine Below.setCell ?_ (by first | omega | (simp; done) | (simp; omega) | (simp [*]; done)) _) | (with_reducible refine Below.drew ?_) | (with_reducible refine below_drewN ?_))
set_option maxRecDepth 100000 in
theorem lifted (os : Os) (started : os.Started) (H : Type) (enc : TypeId × Value → H) :
    ReturnsInHanded {} Try.checked os 7 .any (Rows.fnAccountedSpec.pre6 enc Try.prog Try.f7 Rows.fnAccountedRow.domain false) (Rows.fnAccountedSpec.post enc Try.prog Try.f7 false true false false) := by
  refine returnsInHanded_of_change (C := Try.checked) own started (by kernel_rfl) Try.func7
    (ChangeSpec.witness6 (enc := enc) (C := Try.checked) false ⟨#[], #[.slice none 0 0], []⟩ 8 (by kernel_rfl) (by kernel_rfl) (by kernel_rfl) (by kernel_rfl)) ?_
  intro W base args ds gs before hval0 hW _ _
  have hval : ∀ (j : Nat) t v, Try.f7.params[j]? = some t → args[j]? = some v → Value.okWide Try.prog W .any base t v := hval0
  have hW' := hW
  obtain ⟨p, q, hA0, hV, rfl, _, _⟩ := hW
  have hA : DataW.TrodAll enc Try.prog W 0 (fun _ => true) true Try.f7.params.toList args.toList ds p := hA0
  rw [Try.params7] at hA hval
  obtain ⟨v0, vs0, d0, ds0, p0, q0, hargs, rfl, rfl, h0, r0⟩ := trodAll_cons hA
  obtain ⟨rfl, rfl, rfl⟩ := trodAll_nil r0
  obtain rfl : args = #[v0] := by cases args; simp_all
  obtain ⟨rfl, rfl⟩ := trodVars_none hV
  obtain ⟨A0, c0, xs0, rfl, hb0⟩ := view_bytes Try.underlying22 Try.underlying5 (by kernel_rfl) (hval 0 22 v0 rfl rfl) h0 (fun x hx => hW'.lt x (by simp [hx]))
  refine (walk A0 c0 xs0 W hb0).mono fun e W' ⟨he, hb⟩ => ?_
  subst he
  exact ⟨_, rfl, law_post rfl (by kernel_rfl) (by kernel_rfl) rfl Try.underlying4 hW' rfl rfl rfl hb⟩
theorem closed : joinedFacts Try.prog 7 Try.f7 Rows.fnAccountedSpec Rows.fnAccountedRow = true := by
  unfold joinedFacts
  rw [makeIs, mayIs, finalsIs]
  kernel_rfl
theorem over : Rows.fnAccountedRow.holds Try.pinned (OpenSpec.ofChange Rows.fnAccountedSpec) :=
  OpenClaim.holds_of_wide 7 Try.f7 rfl rfl rfl rfl rfl rfl rfl ⟨rfl, rfl, rfl, rfl, rfl⟩ rfl rfl rfl rfl rfl (by kernel_rfl) Try.func7 closed
    (of_decide_eq_true (by kernel_rfl)) (by unfold Func.isWrapper; first | (rw [if_pos (by decide +kernel)]; kernel_rfl) | (rw [if_neg (by decide +kernel)]; exact ⟨rfl, rfl⟩))
    (fun os started H enc _ => lifted os started H enc)
theorem proved : Rows.FnAccountedSaid := over
#print axioms proved

end accounted
end Go.Proofs.Ytipnhlnbokkihaa
