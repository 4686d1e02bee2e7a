/- The walk of the law FnServed. -/
import Derived.Test.YtcdodfekclkonaaDoorServedP
import Derived.Test.YtcdodfekclkonaaDoorSameS
import Derived.Test.YtcdodfekclkonaaDoorFmtSched
import Derived.Test.YtcdodfekclkonaaDoorTabOf
set_option linter.unusedVariables false
namespace Go.Proofs.YtcdodfekclkonaaDoor
open Go.RowKit Go.ChangeShapes Go.WideShapes Go.ChangeAt

namespace served
theorem big_no (A : Option Addr) (n c : Nat) (w : World) (hn : n ≤ 9223372036854775807) (h : (n : Int) ≤ 1048576) : Calls Tryd.prog 4 #[.slice A n c] w fun e w' => e = .returned (.bool false) ∧ w = w' := by
  refine (big_any A n c w hn).mono fun e w' ⟨he, hw⟩ => ⟨?_, hw⟩
  rw [he, decide_eq_false (by omega)]
theorem places12 (A : Option Addr) (c : Nat) (bs : List Int) (w : World) (hb : Bytes w w.heap.size A bs) :
    Calls Tryd.prog 6 #[.slice A bs.length c] w fun e w' => ∃ (ps : List Int) (g c' : Nat), (ps.length = 12 ∧ ∀ x ∈ ps, 0 ≤ x ∧ x < 10000) ∧ e = .returned (.slice (some ⟨g, 0, none⟩) 12 c') ∧
      w'.ownsRow w.heap.size 3 1 (.slice (some ⟨g, 0, none⟩) 12 c') 12 (ints ps) ∧ Below w.heap.size w w' := by
  refine (places_any A c bs w hb).mono ?_
  rintro e w' ⟨ps, hl, hs, A', c', he, ho, hb'⟩
  rw [hl] at he ho
  obtain ⟨g, rfl, _⟩ := own_at ho (by omega)
  exact ⟨ps, g, c', ⟨hl, hs⟩, he, ho, hb'⟩
theorem cells_take {w : World} {B : Nat} {A : Option Addr} {xs : List Int} (h : Cells w B A (ints xs)) (m : Nat) : Cells w B A (ints (xs.take m)) := fun h0 => by
  have hl : 0 < (ints xs).length := by
    rw [ints_length] at h0 ⊢
    rw [List.length_take] at h0
    omega
  obtain ⟨b, off, e, hb, hc⟩ := h hl
  refine ⟨b, off, e, hb, fun i v hv => hc i v ?_⟩
  unfold ints at hv ⊢
  rw [List.getElem?_map, List.getElem?_take] at hv
  split at hv
  · rw [List.getElem?_map]
    exact hv
  · simp at hv
/-- A run of the first acts. -/
theorem run_to (z : Int) (n k : Nat) (xs : List Int) (hz : 10 ≤ z ∧ z ≤ 99) (hn : n ≤ 15) (hk : k ≤ n) (hl : xs.length = n * 4) (S : SV) (L : List Int) (hS : stTo z xs k = S) (hL : codesTo z xs k = L) (A : Option Addr) (c : Nat) (w : World) (hc : Cells w w.heap.size A (ints xs)) :
    Calls Tryd.prog 7 #[.int .i64 z, .slice A k c] w fun e w' => ∃ J cj T tcp F cf G cg, (∀ q p, (Value.slice F S.fs.length cf).ownBlock = some q → (Value.slice G k cg).ownBlock = some p → q ≠ p) ∧
      e = .returned (.tuple #[.agg #[.int .i64 S.z, .int .i64 S.n, .int .i64 S.b, .slice J S.js.length cj, .slice T S.ts.length tcp, .slice F S.fs.length cf], .slice G k cg]) ∧ w'.ownsRow w.heap.size 61 4 (.slice J S.js.length cj) S.js.length (ints (flatJ S.js)) ∧ w'.ownsRow w.heap.size 69 2 (.slice T S.ts.length tcp) S.ts.length (ints (flatT S.ts)) ∧ w'.ownsRow w.heap.size 3 1 (.slice F S.fs.length cf) S.fs.length (ints S.fs) ∧ w'.ownsRow w.heap.size 3 1 (.slice G k cg) k (ints L) ∧ Below w.heap.size w w' := by
  have h := iRunActs z A c k (xs.take (k * 4)) w (cells_take hc _) (by rw [List.length_take]; omega)
  have hr : raB z k = true := by unfold raB; rw [inB_iff.2 ⟨by omega, by omega⟩, decide_eq_true (by omega)]; rfl
  have hlen := codesTo_length z xs k
  unfold raS raL at h
  rw [if_pos hr, if_pos hr, stTo_take z xs k k (Nat.le_refl _), codesTo_take z xs k k (Nat.le_refl _)] at h
  unfold GivesRun at h
  rw [hlen, hS, hL] at h
  exact h
theorem okB_of {S : SV} (h : okR S) : schedOkB S = true := schedOkB_yes h.1.1
theorem in64_of {S : SV} (h : okR S) : ∀ x ∈ S.fs, in64 x := fun x hx => by have := h.2 x hx; exact ⟨by omega, by omega⟩
theorem same_at (A B : Option Addr) (c d n : Nat) (xs : List Int) (w : World) (hn : xs.length = n) (ha : Cells w w.heap.size A (ints xs)) (hc : Cells w w.heap.size B (ints xs)) (hn2 : n ≤ 1000000000) :
    Calls Tryd.prog 10 #[.slice A n c, .slice B n d] w fun e w' => e = .returned (.bool true) ∧ Below w.heap.size w w' := by
  subst hn
  exact sameInts_same A B c d xs w ha hc hn2
/-- What DoAct hands back: a schedule of rows of one's own, and a number. -/
def DoRes (R : SV) (cd : Int) (B : Nat) (v : Value) (w : World) : Prop := ∃ u, v = .tuple #[u, .int .i64 cd] ∧ SchedRows R.z R.n R.b B R.js.length R.ts.length R.fs.length (flatJ R.js) (flatT R.ts) R.fs u w
theorem DoRes.stable {R : SV} {cd : Int} {B : Nat} : ∀ v w w', DoRes R cd B v w → Grows w w' → DoRes R cd B v w' := by
  rintro v w w' ⟨u, rfl, h⟩ hg
  exact ⟨u, rfl, SchedRows.stable _ _ _ h hg⟩
def PtrOf (B T : Nat) (cs : Array Value) (v : Value) (w : World) : Prop := ∃ b, v = .pointer (some ⟨b, 0, none⟩) ∧ B ≤ b ∧ Blk w b T cs
theorem PtrOf.stable {B T : Nat} {cs : Array Value} : ∀ v w w', PtrOf B T cs v w → Grows w w' → PtrOf B T cs v w' := by
  rintro v w w' ⟨b, rfl, hb, hk⟩ hg
  exact ⟨b, rfl, hb, Blk.past hg hk⟩
def IsInt (x : Int) (v : Value) (_w : World) : Prop := v = .int .i64 x
set_option maxRecDepth 100000 in
set_option maxHeartbeats 6400000 in
theorem walk (A : Option Addr) (c : Nat) (bs : List Int) (w : World) (hb : Bytes w w.heap.size A bs) (htab : Tab w) :
    Calls Tryd.prog 3 #[.slice A bs.length c] w fun e w' => e = .returned (.bool true) ∧ Below w.heap.size w w' := by
  have hl := hb.len
  have HB := hid hb
  have HT := hid htab
  clear hb htab
  by_cases h1 : (1048576 : Int) < (bs.length : Int)
  · go_enter Tryd.func3, Tryd.ntmps3
    go_wp2_with (go_at_call 4; refine (big_any _ _ _ _ hl).mono ?_; rintro e w' ⟨rfl, rfl⟩)
    go_ret
    exact ⟨rfl, Below.refl _ _⟩
  have H1 := hid (show (bs.length : Int) ≤ 1048576 by omega)
  clear h1
  go_enter Tryd.func3, Tryd.ntmps3
  go_wp2_with fail
  refine (big_no _ _ _ _ hl H1.out).mono ?_
  rintro e w' ⟨rfl, rfl⟩
  go_wp2_with fail
  refine (drawActs_any _ _ _ _ HB.out).mono ?_
  rintro e w1 ⟨z, n, xs, Aa, ca, ⟨hz, hn, hxl, hok⟩, rfl, hro, hb1⟩
  have s1 := hb1.size
  have HRO1 := hid hro
  have HB1 := hid hb1
  clear hro hb1
  go_wp2_with fail
  refine (places12 _ _ _ _ ((HB.out.step HB1.out).more s1)).mono ?_
  rintro e w2 ⟨ps, gp, cp, ⟨hps, hpr⟩, rfl, hpo, hb2⟩
  have s2 := hb2.size
  obtain ⟨q, hq⟩ : ∃ q, ps[0]? = some q := ⟨_, List.getElem?_eq_getElem (by omega)⟩
  obtain ⟨q0, q1⟩ := hpr q (List.mem_of_getElem? hq)
  have hcell := (hpo.cellAt 0 (by omega)).trans (ints_get hq)
  have HRO2 := hid (own_below HRO1.out hb2)
  have HB2 := hid (HB1.out.trans (hb2.mono s1))
  clear hpo hb2 hpr hq
  have hcap := own_cap' HRO2.out
  obtain ⟨k, hk, hkn⟩ : ∃ k : Nat, q.tmod ((n : Int) + 1) = (k : Int) ∧ k ≤ n := ⟨(q.tmod ((n : Int) + 1)).toNat, by
    have := tmod_lt q ((n : Int) + 1) q0 (by omega)
    omega, by
    have := tmod_lt q ((n : Int) + 1) q0 (by omega)
    omega⟩
  have hw1 : IntKind.i64.wrap ((n : Int) + 1) = (n : Int) + 1 := IntWalk.i64_in _ (by omega)
  have hw2 : IntKind.i64.wrap (k : Int) = (k : Int) := IntWalk.i64_in _ (by omega)
  have hn0 : ((n : Int) + 1 == 0) = false := by simp; omega
  have HT := hid (HT.out.step HB2.out HT.out)
  have HOKA := hid hok
  have hbw := HB2.out
  obtain ⟨S0, hS0⟩ : ∃ S0, stTo z xs k = S0 := ⟨_, rfl⟩
  obtain ⟨L0, hL0⟩ : ∃ L0, codesTo z xs k = L0 := ⟨_, rfl⟩
  clear hok HB1 HRO1
  go_wp2_with fail
  refine (run_to z n k xs hz hn hkn hxl S0 L0 hS0 hL0 Aa ca _ (Cells.of_own HRO2.out)).mono ?_
  rintro e w3 ⟨J, cj, T, tc, F, cf, G, cg, hne, rfl, hj, ht, hf, hg, hb3⟩
  have HNE := hid hne
  have E0 := hid (And.intro hS0 hL0)
  have s3 := hb3.size
  clear hne hS0 hL0 hcell hk hw1 hw2 hn0
  have b_20 := hb3
  have s_20 := b_20.size
  have rj_in := own_in hj
  have rj_20 := hj
  clear hj
  have rt_in := own_in ht
  have rt_20 := ht
  clear ht
  have rf_in := own_in hf
  have rf_20 := hf
  clear hf
  have rc_in := own_in hg
  have rc_20 := hg
  clear hg
  go_upto_region 8 with fail
  refine wp_forget1 (w0 := w3) (B := w3.heap.size) (b0 := w3.heap.size) (t0 := 34) (c0 := #[.int .i64 S0.z, .int .i64 S0.n, .int .i64 S0.b, .slice J S0.js.length cj, .slice T S0.ts.length tc, .slice F S0.fs.length cf]) ?_ ?_ ?_
  (focus (first | ((repeat (first | (with_reducible assumption) | (with_reducible apply Blk.drew) | (with_reducible apply Blk.drewN) | (with_reducible apply Blk.new; first | rfl | (simp; done)) | (with_reducible apply Blk.alloc) | (with_reducible apply Blk.set_) | (with_reducible apply Blk.past; focus assumption) | (with_reducible apply Blk.far; focus (first | (simp; done) | (simp; omega) | (dsimp only; omega))))); done) | (apply Blk.cast; (case h => (repeat (first | (with_reducible assumption) | (with_reducible apply Blk.drew) | (with_reducible apply Blk.drewN) | (with_reducible apply Blk.new; first | rfl | (simp; done)) | (with_reducible apply Blk.alloc) | (with_reducible apply Blk.set_) | (with_reducible apply Blk.past; focus assumption) | (with_reducible apply Blk.far; focus (first | (simp; done) | (simp; omega) | (dsimp only; omega)))))); (case e => rfl))))
  (focus (repeat (first | (with_reducible exact Below.refl _ _) | (with_reducible refine Below.trans ?_ (Below.mono (by assumption) (by first | omega | (simp; done) | (simp; omega) | (simp [*]; done)))) | (with_reducible refine Below.alloc ?_ (by first | omega | (simp; done) | (simp; omega) | (simp [*]; done)) _) | (with_reducible refine Below.setCell ?_ (by first | omega | (simp; done) | (simp; omega) | (simp [*]; done)) _) | (with_reducible refine Below.drew ?_) | (with_reducible refine below_drewN ?_))))
  intro w21 s_21 hX21
  have sX21 := hX21.size
  have s_lt := s_21.lt
  have b_21 := b_20.trans (hX21.mono (by omega))
  have rj_21 := own_below rj_20 hX21
  have rt_21 := own_below rt_20 hX21
  have rf_21 := own_below rf_20 hX21
  have rc_21 := own_below rc_20 hX21
  clear rj_20 rt_20 rf_20 rc_20 b_20 hX21
  have cell_s := s_21.cell
  have froz_s := s_21.frozen
  have lt_s := s_21.lt
  have K1 := hid rj_21
  have K2 := hid rt_21
  have K3 := hid rf_21
  have K4 := hid rc_21
  have K6 := hid s_21
  have K7 := hid b_21
  clear rj_21 rt_21 rf_21 rc_21 s_21 b_21 cell_s froz_s
  go_loopw [8, 9, 10, 11] (fun o i _ _ wx => ∃ (j : Nat) (S' : SV) (L' : List Int) (J1 : Option Addr) (cj1 : Nat) (T1 : Option Addr) (tc1 : Nat) (F1 : Option Addr) (cf1 : Nat) (G1 : Option Addr) (cg1 : Nat), j ≤ n ∧ i = .int .i64 j ∧ o = .slice G1 j cg1 ∧ stTo z xs j = S' ∧ codesTo z xs j = L' ∧
    (∀ q p, (Value.slice F1 S'.fs.length cf1).ownBlock = some q → (Value.slice G1 j cg1).ownBlock = some p → q ≠ p) ∧ wx.ownsRow w2.heap.size 61 4 (.slice J1 (S'.js).length cj1) (S'.js).length (ints (flatJ (S'.js))) ∧ wx.ownsRow w2.heap.size 69 2 (.slice T1 (S'.ts).length tc1) (S'.ts).length (ints (flatT (S'.ts))) ∧ wx.ownsRow w2.heap.size 3 1 (.slice F1 (S'.fs).length cf1) (S'.fs).length (ints (S'.fs)) ∧ wx.ownsRow w2.heap.size 3 1 (.slice G1 j cg1) j (ints L') ∧
    Blk wx w3.heap.size 34 #[.int .i64 S'.z, .int .i64 S'.n, .int .i64 S'.b, .slice J1 S'.js.length cj1, .slice T1 S'.ts.length tc1, .slice F1 S'.fs.length cf1] ∧ Below w2.heap.size w2 wx) (fun _ i _ _ _ => n - (intOf i).toNat)
  case atStart => exact ⟨k, S0, L0, J, cj, T, tc, F, cf, G, cg, hkn, rfl, rfl, E0.out.1, E0.out.2, HNE.out, by have h := K1.out; repeat (first | (with_reducible assumption) | (with_reducible apply World.ownsRow.drew) | (with_reducible apply own_drewN) | (with_reducible apply World.ownsRow.alloc) | (with_reducible refine own_set ?_ _ _ (by first | omega | (simp; omega) | (dsimp only; omega)))), by have h := K2.out; repeat (first | (with_reducible assumption) | (with_reducible apply World.ownsRow.drew) | (with_reducible apply own_drewN) | (with_reducible apply World.ownsRow.alloc) | (with_reducible refine own_set ?_ _ _ (by first | omega | (simp; omega) | (dsimp only; omega)))), by have h := K3.out; repeat (first | (with_reducible assumption) | (with_reducible apply World.ownsRow.drew) | (with_reducible apply own_drewN) | (with_reducible apply World.ownsRow.alloc) | (with_reducible refine own_set ?_ _ _ (by first | omega | (simp; omega) | (dsimp only; omega)))), by have h := K4.out; repeat (first | (with_reducible assumption) | (with_reducible apply World.ownsRow.drew) | (with_reducible apply own_drewN) | (with_reducible apply World.ownsRow.alloc) | (with_reducible refine own_set ?_ _ _ (by first | omega | (simp; omega) | (dsimp only; omega)))), by have h := K6.out; (first | ((repeat (first | (with_reducible assumption) | (with_reducible apply Blk.drew) | (with_reducible apply Blk.drewN) | (with_reducible apply Blk.new; first | rfl | (simp; done)) | (with_reducible apply Blk.alloc) | (with_reducible apply Blk.set_) | (with_reducible apply Blk.past; focus assumption) | (with_reducible apply Blk.far; focus (first | (simp; done) | (simp; omega) | (dsimp only; omega))))); done) | (apply Blk.cast; (case h => (repeat (first | (with_reducible assumption) | (with_reducible apply Blk.drew) | (with_reducible apply Blk.drewN) | (with_reducible apply Blk.new; first | rfl | (simp; done)) | (with_reducible apply Blk.alloc) | (with_reducible apply Blk.set_) | (with_reducible apply Blk.past; focus assumption) | (with_reducible apply Blk.far; focus (first | (simp; done) | (simp; omega) | (dsimp only; omega)))))); (case e => rfl))), by have h := K7.out; repeat (first | (with_reducible exact Below.refl _ _) | (with_reducible refine Below.trans ?_ (Below.mono (by assumption) (by first | omega | (simp; done) | (simp; omega) | (simp [*]; done)))) | (with_reducible refine Below.alloc ?_ (by first | omega | (simp; done) | (simp; omega) | (simp [*]; done)) _) | (with_reducible refine Below.setCell ?_ (by first | omega | (simp; done) | (simp; omega) | (simp [*]; done)) _) | (with_reducible refine Below.drew ?_) | (with_reducible refine below_drewN ?_))⟩
  case round =>
    clear K1 K2 K3 K4 K6 K7 HNE E0
    obtain ⟨j, S', L', J1, cj1, T1, tc1, F1, cf1, G1, cg1, hj, rfl, rfl, e1, e2, ne0, hrj, hrt, hrf, hrc, ho, hb⟩ := hrel
    have zr := hb.size
    have hsl := stTo_len z xs j
    rw [e1] at hsl
    obtain ⟨l1, l2, l3⟩ := hsl
    have los := ho.lt
    by_cases hlt : j < n
    · obtain ⟨x0, f0⟩ : ∃ x, xs[j * 4]? = some x := ⟨_, List.getElem?_eq_getElem (by omega)⟩
      obtain ⟨x1, f1⟩ : ∃ x, xs[j * 4 + 1]? = some x := ⟨_, List.getElem?_eq_getElem (by omega)⟩
      obtain ⟨x2, f2⟩ : ∃ x, xs[j * 4 + 2]? = some x := ⟨_, List.getElem?_eq_getElem (by omega)⟩
      obtain ⟨x3, f3⟩ : ∃ x, xs[j * 4 + 3]? = some x := ⟨_, List.getElem?_eq_getElem (by omega)⟩
      obtain ⟨ga, rfl, _, hga, _⟩ := own_at HRO2.out (by omega)
      have hda := own_below HRO2.out hb
      have hd0 := (hda.cellAt (j * 4) (by omega)).trans (ints_get f0)
      have hd1 := (hda.cellAt (j * 4 + 1) (by omega)).trans (ints_get f1)
      have hd2 := (hda.cellAt (j * 4 + 2) (by omega)).trans (ints_get f2)
      have hd3 := (hda.cellAt (j * 4 + 3) (by omega)).trans (ints_get f3)
      have lga : ga < wr.heap.size := by omega
      obtain ⟨R, hR⟩ : ∃ R, doS S' x0 x1 x2 x3 = R := ⟨_, rfl⟩
      obtain ⟨cd, hcd⟩ : ∃ cd, doI S' x0 x1 x2 x3 = cd := ⟨_, rfl⟩
      have HDO := hid (fun J T F cj ct cf w h => iDoAct S' x0 x1 x2 x3 J T F cj ct cf w h (by omega) (by omega) (by omega))
      rw [hR, hcd] at HDO
      have hn1 : stTo z xs (j + 1) = R := by rw [stTo, e1, getD_of f0, getD_of f1, getD_of f2, getD_of f3, hR]
      have hn2 : codesTo z xs (j + 1) = L' ++ [cd] := by rw [codesTo, e1, e2, getD_of f0, getD_of f1, getD_of f2, getD_of f3, hcd]
      have HN1 := hid hn1
      have HN2 := hid hn2
      have hlt' : (j : Int) < (n : Int) := by omega
      clear hda f0 f1 f2 f3 hR hcd hn1 hn2 e1 e2 ne0
      have b_30 := hb
      have s_30 := b_30.size
      have rj_in := own_off hrj ho (by decide)
      have rj_30 := hrj
      clear hrj
      have rt_in := own_off hrt ho (by decide)
      have rt_30 := hrt
      clear hrt
      have rf_in := own_off hrf ho (by decide)
      have rf_30 := hrf
      clear hrf
      have rc_in := own_off hrc ho (by decide)
      have rc_30 := hrc
      clear hrc
      have s_30 := ho
      clear ho
      have s_lt := s_30.lt
      have cell_s := s_30.cell
      have froz_s := s_30.frozen
      have lt_s := s_30.lt
      have a0_30 := hd0
      clear hd0
      have lt_a0 : ga < wr.heap.size := by omega
      have a1_30 := hd1
      clear hd1
      have lt_a1 : ga < wr.heap.size := by omega
      have a2_30 := hd2
      clear hd2
      have lt_a2 : ga < wr.heap.size := by omega
      have a3_30 := hd3
      clear hd3
      have lt_a3 : ga < wr.heap.size := by omega
      go_upto_region 10 with fail
      go_cut [10, 11] (fun v10 v11 wx => CutA R cd wr v10 v11 wx)
      case first =>
        have gh_30 := hid (Below.refl wr.heap.size wr)
        have zb := b_30.size
        clear rc_30 rc_in
        have zl_s := s_30.lt
        have zl_a0 := lt_a0
        have zl_a1 := lt_a1
        have zl_a2 := lt_a2
        have zl_a3 := lt_a3
        try clear s0
        try clear sX0
        try clear s1
        try clear sX1
        try clear s2
        try clear sX2
        try clear s3
        try clear sX3
        try clear s4
        try clear sX4
        try clear s5
        try clear sX5
        try clear s6
        try clear sX6
        try clear s7
        try clear sX7
        try clear s8
        try clear sX8
        try clear s9
        try clear sX9
        try clear s10
        try clear sX10
        try clear s11
        try clear sX11
        try clear s12
        try clear sX12
        try clear s13
        try clear sX13
        try clear s14
        try clear sX14
        try clear s15
        try clear sX15
        try clear s16
        try clear sX16
        try clear s17
        try clear sX17
        try clear s18
        try clear sX18
        try clear s19
        try clear sX19
        try clear s20
        try clear sX20
        try clear s21
        try clear sX21
        try clear s22
        try clear sX22
        try clear s23
        try clear sX23
        try clear s24
        try clear sX24
        try clear s25
        try clear sX25
        try clear s26
        try clear sX26
        try clear s27
        try clear sX27
        try clear s28
        try clear sX28
        try clear s29
        try clear sX29
        try clear s30
        try clear sX30
        go_region_held3 (fun w' => w'.cell? ⟨w3.heap.size, 0, none⟩ = some (.int .i64 (S'.z)) ∧ w'.cell? ⟨w3.heap.size, 1, none⟩ = some (.int .i64 (S'.n)) ∧ w'.cell? ⟨w3.heap.size, 2, none⟩ = some (.int .i64 (S'.b)) ∧ w'.cell? ⟨w3.heap.size, 3, none⟩ = some (.slice J1 (S'.js.length) cj1) ∧ w'.cell? ⟨w3.heap.size, 4, none⟩ = some (.slice T1 (S'.ts.length) tc1) ∧ w'.cell? ⟨w3.heap.size, 5, none⟩ = some (.slice F1 (S'.fs.length) cf1) ∧ w'.cell? ⟨ga, j * 4, none⟩ = some (.int .i64 x0) ∧ w'.cell? ⟨ga, j * 4 + 1, none⟩ = some (.int .i64 x1) ∧ w'.cell? ⟨ga, j * 4 + 2, none⟩ = some (.int .i64 x2) ∧ w'.cell? ⟨ga, j * 4 + 3, none⟩ = some (.int .i64 x3)) (exact ⟨(Blk.cell (t := 34) (cs := #[.int .i64 (S'.z), .int .i64 (S'.n), .int .i64 (S'.b), .slice J1 (S'.js.length) cj1, .slice T1 (S'.ts.length) tc1, .slice F1 (S'.fs.length) cf1]) (by repeat (first | (with_reducible assumption) | (with_reducible apply Blk.drew) | (with_reducible apply Blk.drewN) | (with_reducible apply Blk.new; first | rfl | (simp; done)) | (with_reducible apply Blk.alloc) | (with_reducible apply Blk.set_) | (with_reducible apply Blk.past; focus assumption) | (with_reducible apply Blk.far; focus (first | (simp; done) | (simp; omega) | (dsimp only; omega))))) 0), (Blk.cell (t := 34) (cs := #[.int .i64 (S'.z), .int .i64 (S'.n), .int .i64 (S'.b), .slice J1 (S'.js.length) cj1, .slice T1 (S'.ts.length) tc1, .slice F1 (S'.fs.length) cf1]) (by repeat (first | (with_reducible assumption) | (with_reducible apply Blk.drew) | (with_reducible apply Blk.drewN) | (with_reducible apply Blk.new; first | rfl | (simp; done)) | (with_reducible apply Blk.alloc) | (with_reducible apply Blk.set_) | (with_reducible apply Blk.past; focus assumption) | (with_reducible apply Blk.far; focus (first | (simp; done) | (simp; omega) | (dsimp only; omega))))) 1), (Blk.cell (t := 34) (cs := #[.int .i64 (S'.z), .int .i64 (S'.n), .int .i64 (S'.b), .slice J1 (S'.js.length) cj1, .slice T1 (S'.ts.length) tc1, .slice F1 (S'.fs.length) cf1]) (by repeat (first | (with_reducible assumption) | (with_reducible apply Blk.drew) | (with_reducible apply Blk.drewN) | (with_reducible apply Blk.new; first | rfl | (simp; done)) | (with_reducible apply Blk.alloc) | (with_reducible apply Blk.set_) | (with_reducible apply Blk.past; focus assumption) | (with_reducible apply Blk.far; focus (first | (simp; done) | (simp; omega) | (dsimp only; omega))))) 2), (Blk.cell (t := 34) (cs := #[.int .i64 (S'.z), .int .i64 (S'.n), .int .i64 (S'.b), .slice J1 (S'.js.length) cj1, .slice T1 (S'.ts.length) tc1, .slice F1 (S'.fs.length) cf1]) (by repeat (first | (with_reducible assumption) | (with_reducible apply Blk.drew) | (with_reducible apply Blk.drewN) | (with_reducible apply Blk.new; first | rfl | (simp; done)) | (with_reducible apply Blk.alloc) | (with_reducible apply Blk.set_) | (with_reducible apply Blk.past; focus assumption) | (with_reducible apply Blk.far; focus (first | (simp; done) | (simp; omega) | (dsimp only; omega))))) 3), (Blk.cell (t := 34) (cs := #[.int .i64 (S'.z), .int .i64 (S'.n), .int .i64 (S'.b), .slice J1 (S'.js.length) cj1, .slice T1 (S'.ts.length) tc1, .slice F1 (S'.fs.length) cf1]) (by repeat (first | (with_reducible assumption) | (with_reducible apply Blk.drew) | (with_reducible apply Blk.drewN) | (with_reducible apply Blk.new; first | rfl | (simp; done)) | (with_reducible apply Blk.alloc) | (with_reducible apply Blk.set_) | (with_reducible apply Blk.past; focus assumption) | (with_reducible apply Blk.far; focus (first | (simp; done) | (simp; omega) | (dsimp only; omega))))) 4), (Blk.cell (t := 34) (cs := #[.int .i64 (S'.z), .int .i64 (S'.n), .int .i64 (S'.b), .slice J1 (S'.js.length) cj1, .slice T1 (S'.ts.length) tc1, .slice F1 (S'.fs.length) cf1]) (by repeat (first | (with_reducible assumption) | (with_reducible apply Blk.drew) | (with_reducible apply Blk.drewN) | (with_reducible apply Blk.new; first | rfl | (simp; done)) | (with_reducible apply Blk.alloc) | (with_reducible apply Blk.set_) | (with_reducible apply Blk.past; focus assumption) | (with_reducible apply Blk.far; focus (first | (simp; done) | (simp; omega) | (dsimp only; omega))))) 5), (by first | ((repeat (first | (with_reducible assumption) | (with_reducible refine cell_drew ?_) | (with_reducible refine cell_alloc ?_ (by first | (dsimp only; omega) | (simp; omega))) | (with_reducible refine cell_far ?_ (by first | (dsimp only; omega) | (simp; omega))))); done) | exact cell_kept a0_30 (by repeat (first | (with_reducible exact Below.refl _ _) | (with_reducible refine Below.trans ?_ (Below.mono (by assumption) (by first | omega | (simp; done) | (simp; omega) | (simp [*]; done)))) | (with_reducible refine Below.alloc ?_ (by first | omega | (simp; done) | (simp; omega) | (simp [*]; done)) _) | (with_reducible refine Below.setCell ?_ (by first | omega | (simp; done) | (simp; omega) | (simp [*]; done)) _) | (with_reducible refine Below.drew ?_) | (with_reducible refine below_drewN ?_))) (by dsimp only; omega)), (by first | ((repeat (first | (with_reducible assumption) | (with_reducible refine cell_drew ?_) | (with_reducible refine cell_alloc ?_ (by first | (dsimp only; omega) | (simp; omega))) | (with_reducible refine cell_far ?_ (by first | (dsimp only; omega) | (simp; omega))))); done) | exact cell_kept a1_30 (by repeat (first | (with_reducible exact Below.refl _ _) | (with_reducible refine Below.trans ?_ (Below.mono (by assumption) (by first | omega | (simp; done) | (simp; omega) | (simp [*]; done)))) | (with_reducible refine Below.alloc ?_ (by first | omega | (simp; done) | (simp; omega) | (simp [*]; done)) _) | (with_reducible refine Below.setCell ?_ (by first | omega | (simp; done) | (simp; omega) | (simp [*]; done)) _) | (with_reducible refine Below.drew ?_) | (with_reducible refine below_drewN ?_))) (by dsimp only; omega)), (by first | ((repeat (first | (with_reducible assumption) | (with_reducible refine cell_drew ?_) | (with_reducible refine cell_alloc ?_ (by first | (dsimp only; omega) | (simp; omega))) | (with_reducible refine cell_far ?_ (by first | (dsimp only; omega) | (simp; omega))))); done) | exact cell_kept a2_30 (by repeat (first | (with_reducible exact Below.refl _ _) | (with_reducible refine Below.trans ?_ (Below.mono (by assumption) (by first | omega | (simp; done) | (simp; omega) | (simp [*]; done)))) | (with_reducible refine Below.alloc ?_ (by first | omega | (simp; done) | (simp; omega) | (simp [*]; done)) _) | (with_reducible refine Below.setCell ?_ (by first | omega | (simp; done) | (simp; omega) | (simp [*]; done)) _) | (with_reducible refine Below.drew ?_) | (with_reducible refine below_drewN ?_))) (by dsimp only; omega)), (by first | ((repeat (first | (with_reducible assumption) | (with_reducible refine cell_drew ?_) | (with_reducible refine cell_alloc ?_ (by first | (dsimp only; omega) | (simp; omega))) | (with_reducible refine cell_far ?_ (by first | (dsimp only; omega) | (simp; omega))))); done) | exact cell_kept a3_30 (by repeat (first | (with_reducible exact Below.refl _ _) | (with_reducible refine Below.trans ?_ (Below.mono (by assumption) (by first | omega | (simp; done) | (simp; omega) | (simp [*]; done)))) | (with_reducible refine Below.alloc ?_ (by first | omega | (simp; done) | (simp; omega) | (simp [*]; done)) _) | (with_reducible refine Below.setCell ?_ (by first | omega | (simp; done) | (simp; omega) | (simp [*]; done)) _) | (with_reducible refine Below.drew ?_) | (with_reducible refine below_drewN ?_))) (by dsimp only; omega))⟩) (first | (go_at_call 8; refine calls_forget1 (W := wr) (b0 := wr.heap.size) (t0 := 34) (c0 := #[.int .i64 0, .int .i64 0, .int .i64 0, .slice none 0 0, .slice none 0 0, .slice none 0 0]) ?_ ?_ ?_; (focus (first | ((repeat (first | (with_reducible assumption) | (with_reducible apply Blk.drew) | (with_reducible apply Blk.drewN) | (with_reducible apply Blk.new; first | rfl | (simp; done)) | (with_reducible apply Blk.alloc) | (with_reducible apply Blk.set_) | (with_reducible apply Blk.past; focus assumption) | (with_reducible apply Blk.far; focus (first | (simp; done) | (simp; omega) | (dsimp only; omega))))); done) | (apply Blk.cast; (case h => (repeat (first | (with_reducible assumption) | (with_reducible apply Blk.drew) | (with_reducible apply Blk.drewN) | (with_reducible apply Blk.new; first | rfl | (simp; done)) | (with_reducible apply Blk.alloc) | (with_reducible apply Blk.set_) | (with_reducible apply Blk.past; focus assumption) | (with_reducible apply Blk.far; focus (first | (simp; done) | (simp; omega) | (dsimp only; omega)))))); (case e => rfl)))); (focus (repeat (first | (with_reducible exact Below.refl _ _) | (with_reducible refine Below.trans ?_ (Below.mono (by assumption) (by first | omega | (simp; done) | (simp; omega) | (simp [*]; done)))) | (with_reducible refine Below.alloc ?_ (by first | omega | (simp; done) | (simp; omega) | (simp [*]; done)) _) | (with_reducible refine Below.setCell ?_ (by first | omega | (simp; done) | (simp; omega) | (simp [*]; done)) _) | (with_reducible refine Below.drew ?_) | (with_reducible refine below_drewN ?_)))); intro X31 x_n hX31; have sX31 := hX31.size; have x_lt := x_n.lt; refine (HDO.out _ _ _ _ _ _ _ ⟨own_weak (own_below rj_30 hX31) (Nat.zero_le _), own_weak (own_below rt_30 hX31) (Nat.zero_le _), own_weak (own_below rf_30 hX31) (Nat.zero_le _)⟩).mono ?_; rintro e w31 ⟨Nj, nj', Nt, nt', Nf, nf', rfl, nj_31, nt_31, nf_31, hb31⟩; have s31 := hb31.size; have hT31 := hX31.trans (hb31.mono sX31); have b_31 := b_30.trans (hT31.mono (by omega)); have gh_31 := hid (gh_30.out.trans (hT31.mono (by omega))); have rj_31 := own_below rj_30 hT31; have rt_31 := own_below rt_30 hT31; have rf_31 := own_below rf_30 hT31; have s_31 := Blk.past hT31 s_30; have a0_31 := cell_kept a0_30 hT31 (by dsimp only; omega); have a1_31 := cell_kept a1_30 hT31 (by dsimp only; omega); have a2_31 := cell_kept a2_30 hT31 (by dsimp only; omega); have a3_31 := cell_kept a3_30 hT31 (by dsimp only; omega); have x_31 := Blk.past hb31 x_n; have nj_in := own_in nj_31; have nt_in := own_in nt_31; have nf_in := own_in nf_31; clear gh_30 rj_30 rt_30 rf_30 s_30 a0_30 a1_30 a2_30 a3_30 b_30 cell_s froz_s lt_s lt_a0 lt_a1 lt_a2 lt_a3 x_n hX31 hT31 hb31; have cell_s := s_31.cell; have froz_s := s_31.frozen; have lt_s := s_31.lt; have cell_x := x_31.cell; have froz_x := x_31.frozen; have lt_x := x_31.lt; have lt_a0 : ga < w31.heap.size := (by omega); have lt_a1 : ga < w31.heap.size := (by omega); have lt_a2 : ga < w31.heap.size := (by omega); have lt_a3 : ga < w31.heap.size := (by omega)) | (go_at_call 8; refine calls_forget0 (W := wr) ?_ ?_; (focus (repeat (first | (with_reducible exact Below.refl _ _) | (with_reducible refine Below.trans ?_ (Below.mono (by assumption) (by first | omega | (simp; done) | (simp; omega) | (simp [*]; done)))) | (with_reducible refine Below.alloc ?_ (by first | omega | (simp; done) | (simp; omega) | (simp [*]; done)) _) | (with_reducible refine Below.setCell ?_ (by first | omega | (simp; done) | (simp; omega) | (simp [*]; done)) _) | (with_reducible refine Below.drew ?_) | (with_reducible refine below_drewN ?_)))); intro X31 hX31; have sX31 := hX31.size; refine (HDO.out _ _ _ _ _ _ _ ⟨own_weak (own_below rj_30 hX31) (Nat.zero_le _), own_weak (own_below rt_30 hX31) (Nat.zero_le _), own_weak (own_below rf_30 hX31) (Nat.zero_le _)⟩).mono ?_; rintro e w31 ⟨Nj, nj', Nt, nt', Nf, nf', rfl, nj_31, nt_31, nf_31, hb31⟩; have s31 := hb31.size; have hT31 := hX31.trans (hb31.mono sX31); have b_31 := b_30.trans (hT31.mono (by omega)); have gh_31 := hid (gh_30.out.trans (hT31.mono (by omega))); have rj_31 := own_below rj_30 hT31; have rt_31 := own_below rt_30 hT31; have rf_31 := own_below rf_30 hT31; have s_31 := Blk.past hT31 s_30; have a0_31 := cell_kept a0_30 hT31 (by dsimp only; omega); have a1_31 := cell_kept a1_30 hT31 (by dsimp only; omega); have a2_31 := cell_kept a2_30 hT31 (by dsimp only; omega); have a3_31 := cell_kept a3_30 hT31 (by dsimp only; omega); have nj_in := own_in nj_31; have nt_in := own_in nt_31; have nf_in := own_in nf_31; clear gh_30 rj_30 rt_30 rf_30 s_30 a0_30 a1_30 a2_30 a3_30 b_30 cell_s froz_s lt_s lt_a0 lt_a1 lt_a2 lt_a3 hX31 hT31 hb31; have cell_s := s_31.cell; have froz_s := s_31.frozen; have lt_s := s_31.lt; have lt_a0 : ga < w31.heap.size := (by omega); have lt_a1 : ga < w31.heap.size := (by omega); have lt_a2 : ga < w31.heap.size := (by omega); have lt_a3 : ga < w31.heap.size := (by omega)))
        all_goals
          go_wp2_with fail
          go_meet
          first
          | exact ⟨wr.heap.size, Nj, nj', Nt, nt', Nf, nf', rfl, rfl, by first | exact Nat.le_refl _ | omega, by (first | ((repeat (first | (with_reducible assumption) | (with_reducible apply Blk.drew) | (with_reducible apply Blk.drewN) | (with_reducible apply Blk.new; first | rfl | (simp; done)) | (with_reducible apply Blk.alloc) | (with_reducible apply Blk.set_) | (with_reducible apply Blk.past; focus assumption) | (with_reducible apply Blk.far; focus (first | (simp; done) | (simp; omega) | (dsimp only; omega))))); done) | (apply Blk.cast; (case h => (repeat (first | (with_reducible assumption) | (with_reducible apply Blk.drew) | (with_reducible apply Blk.drewN) | (with_reducible apply Blk.new; first | rfl | (simp; done)) | (with_reducible apply Blk.alloc) | (with_reducible apply Blk.set_) | (with_reducible apply Blk.past; focus assumption) | (with_reducible apply Blk.far; focus (first | (simp; done) | (simp; omega) | (dsimp only; omega)))))); (case e => rfl))), ⟨own_weak (base := X31.heap.size) (by repeat (first | (with_reducible assumption) | (with_reducible apply World.ownsRow.drew) | (with_reducible apply own_drewN) | (with_reducible apply World.ownsRow.alloc) | (with_reducible refine own_set ?_ _ _ (by first | omega | (simp; omega) | (dsimp only; omega))))) (by omega), own_weak (base := X31.heap.size) (by repeat (first | (with_reducible assumption) | (with_reducible apply World.ownsRow.drew) | (with_reducible apply own_drewN) | (with_reducible apply World.ownsRow.alloc) | (with_reducible refine own_set ?_ _ _ (by first | omega | (simp; omega) | (dsimp only; omega))))) (by omega), own_weak (base := X31.heap.size) (by repeat (first | (with_reducible assumption) | (with_reducible apply World.ownsRow.drew) | (with_reducible apply own_drewN) | (with_reducible apply World.ownsRow.alloc) | (with_reducible refine own_set ?_ _ _ (by first | omega | (simp; omega) | (dsimp only; omega))))) (by omega)⟩, by have gq := gh_31.out; repeat (first | (with_reducible exact Below.refl _ _) | (with_reducible refine Below.trans ?_ (Below.mono (by assumption) (by first | omega | (simp; done) | (simp; omega) | (simp [*]; done)))) | (with_reducible refine Below.alloc ?_ (by first | omega | (simp; done) | (simp; omega) | (simp [*]; done)) _) | (with_reducible refine Below.setCell ?_ (by first | omega | (simp; done) | (simp; omega) | (simp [*]; done)) _) | (with_reducible refine Below.drew ?_) | (with_reducible refine below_drewN ?_))⟩
          | exact ⟨w31.heap.size, Nj, nj', Nt, nt', Nf, nf', rfl, rfl, by first | exact Nat.le_refl _ | omega, by (first | ((repeat (first | (with_reducible assumption) | (with_reducible apply Blk.drew) | (with_reducible apply Blk.drewN) | (with_reducible apply Blk.new; first | rfl | (simp; done)) | (with_reducible apply Blk.alloc) | (with_reducible apply Blk.set_) | (with_reducible apply Blk.past; focus assumption) | (with_reducible apply Blk.far; focus (first | (simp; done) | (simp; omega) | (dsimp only; omega))))); done) | (apply Blk.cast; (case h => (repeat (first | (with_reducible assumption) | (with_reducible apply Blk.drew) | (with_reducible apply Blk.drewN) | (with_reducible apply Blk.new; first | rfl | (simp; done)) | (with_reducible apply Blk.alloc) | (with_reducible apply Blk.set_) | (with_reducible apply Blk.past; focus assumption) | (with_reducible apply Blk.far; focus (first | (simp; done) | (simp; omega) | (dsimp only; omega)))))); (case e => rfl))), ⟨own_weak (base := X31.heap.size) (by repeat (first | (with_reducible assumption) | (with_reducible apply World.ownsRow.drew) | (with_reducible apply own_drewN) | (with_reducible apply World.ownsRow.alloc) | (with_reducible refine own_set ?_ _ _ (by first | omega | (simp; omega) | (dsimp only; omega))))) (by omega), own_weak (base := X31.heap.size) (by repeat (first | (with_reducible assumption) | (with_reducible apply World.ownsRow.drew) | (with_reducible apply own_drewN) | (with_reducible apply World.ownsRow.alloc) | (with_reducible refine own_set ?_ _ _ (by first | omega | (simp; omega) | (dsimp only; omega))))) (by omega), own_weak (base := X31.heap.size) (by repeat (first | (with_reducible assumption) | (with_reducible apply World.ownsRow.drew) | (with_reducible apply own_drewN) | (with_reducible apply World.ownsRow.alloc) | (with_reducible refine own_set ?_ _ _ (by first | omega | (simp; omega) | (dsimp only; omega))))) (by omega)⟩, by have gq := gh_31.out; repeat (first | (with_reducible exact Below.refl _ _) | (with_reducible refine Below.trans ?_ (Below.mono (by assumption) (by first | omega | (simp; done) | (simp; omega) | (simp [*]; done)))) | (with_reducible refine Below.alloc ?_ (by first | omega | (simp; done) | (simp; omega) | (simp [*]; done)) _) | (with_reducible refine Below.setCell ?_ (by first | omega | (simp; done) | (simp; omega) | (simp [*]; done)) _) | (with_reducible refine Below.drew ?_) | (with_reducible refine below_drewN ?_))⟩
      case rest =>
        obtain ⟨b_x, Nj, nj', Nt, nt', Nf, nf', rfl, rfl, x_ge, x_32, ⟨nj_32, nt_32, nf_32⟩, hb32⟩ := hcut
        obtain ⟨w32, rfl⟩ : ∃ z : World, z = wc := ⟨_, rfl⟩
        have s32 := hb32.size
        have b_32 := b_30.trans (hb32.mono (by omega))
        have rj_32 := own_below rj_30 hb32
        have rt_32 := own_below rt_30 hb32
        have rf_32 := own_below rf_30 hb32
        have rc_32 := own_below rc_30 hb32
        have s_32 := Blk.past hb32 s_30
        have a0_32 := cell_kept a0_30 hb32 (by dsimp only; omega)
        have a1_32 := cell_kept a1_30 hb32 (by dsimp only; omega)
        have a2_32 := cell_kept a2_30 hb32 (by dsimp only; omega)
        have a3_32 := cell_kept a3_30 hb32 (by dsimp only; omega)
        clear rj_30 rt_30 rf_30 rc_30 s_30 a0_30 a1_30 a2_30 a3_30 b_30 cell_s froz_s lt_s lt_a0 lt_a1 lt_a2 lt_a3 hb32
        have x_lt := x_32.lt
        have nj_in := own_off nj_32 x_32 (by decide)
        have nt_in := own_off nt_32 x_32 (by decide)
        have nf_in := own_off nf_32 x_32 (by decide)
        have cell_s := s_32.cell
        have froz_s := s_32.frozen
        have lt_s := s_32.lt
        have cell_x := x_32.cell
        have froz_x := x_32.frozen
        have lt_x := x_32.lt
        have lt_a0 : ga < w32.heap.size := (by omega)
        have lt_a1 : ga < w32.heap.size := (by omega)
        have lt_a2 : ga < w32.heap.size := (by omega)
        have lt_a3 : ga < w32.heap.size := (by omega)
        clear rj_32
        clear rt_32
        clear rf_32
        go_wp2_with (at_builtin; refine wpList_appi rfl _ _ 27 rfl w2.heap.size 3 (.int .i64 0) 1 8 Tryd.underlying27 infoInt rfl (by decide) _ j _ rfl (rc_32.alloc _) ⟨w32.heap.size, 0, none⟩ 1 1 _ rfl rfl (one_new _ _ _) (one_one _) (by omega) (by decide) (by simp; omega) ?_)
        intro A_rc c_rc w33 rc_33 hg33 li33
        have hg33 := grown_alloc hg33
        try simp only [World.size_alloc] at li33
        have s33 := hg33.size
        have b_33 := gr_below hg33 b_32 (by omega) (fun q hq => by have h1 := rc_in q hq; omega)
        have nj_33 := gr_own hg33 nj_32 (fun q p hq hp => by first | (have h1 := rc_in q hq; have h2 := nj_in p hp; omega) | exact own_ne rc_32 nj_32 (by decide) q p hq hp | exact ne_rc_nj q p hq hp | exact (ne_nj_rc p q hp hq).symm)
        have nt_33 := gr_own hg33 nt_32 (fun q p hq hp => by first | (have h1 := rc_in q hq; have h2 := nt_in p hp; omega) | exact own_ne rc_32 nt_32 (by decide) q p hq hp | exact ne_rc_nt q p hq hp | exact (ne_nt_rc p q hp hq).symm)
        have nf_33 := gr_own hg33 nf_32 (fun q p hq hp => by first | (have h1 := rc_in q hq; have h2 := nf_in p hp; omega) | exact own_ne rc_32 nf_32 (by decide) q p hq hp | exact ne_rc_nf q p hq hp | exact (ne_nf_rc p q hp hq).symm)
        have s_33 := gr_blk hg33 s_32 (fun q hq => by have h1 := rc_in q hq; omega)
        have x_33 := gr_blk hg33 x_32 (fun q hq => by have h1 := rc_in q hq; omega)
        have a0_33 := gr_cell hg33 a0_32 (by dsimp only; omega) (fun q hq => by have h1 := rc_in q hq; dsimp only; omega)
        have a1_33 := gr_cell hg33 a1_32 (by dsimp only; omega) (fun q hq => by have h1 := rc_in q hq; dsimp only; omega)
        have a2_33 := gr_cell hg33 a2_32 (by dsimp only; omega) (fun q hq => by have h1 := rc_in q hq; dsimp only; omega)
        have a3_33 := gr_cell hg33 a3_32 (by dsimp only; omega) (fun q hq => by have h1 := rc_in q hq; dsimp only; omega)
        have rc_ix : ∀ q, (Value.slice A_rc (j + 1) c_rc).ownBlock = some q → q < wr.heap.size ∨ w32.heap.size ≤ q := (fun q hq => by have h3 := (own_in rc_33 q hq).2; rcases li33 q hq with h | h; (have h1 := rc_in q h; omega); omega)
        clear rc_32 nj_32 nt_32 nf_32 s_32 x_32 a0_32 a1_32 a2_32 a3_32 b_32 cell_s froz_s lt_s cell_x froz_x lt_x lt_a0 lt_a1 lt_a2 lt_a3 hg33 li33 rc_in
        have rc_in := rc_ix
        clear rc_ix
        have cell_s := s_33.cell
        have froz_s := s_33.frozen
        have lt_s := s_33.lt
        have cell_x := x_33.cell
        have froz_x := x_33.frozen
        have lt_x := x_33.lt
        have lt_a0 : ga < w33.heap.size := (by omega)
        have lt_a1 : ga < w33.heap.size := (by omega)
        have lt_a2 : ga < w33.heap.size := (by omega)
        have lt_a3 : ga < w33.heap.size := (by omega)
        rw [← ints_snoc] at rc_33
        go_upto_region 9 with fail
        refine wp_touch1 (w0 := w33) (L := [w3.heap.size]) (b0 := w3.heap.size) (t0 := 34) (c0 := #[.int .i64 R.z, .int .i64 R.n, .int .i64 R.b, .slice Nj R.js.length nj', .slice Nt R.ts.length nt', .slice Nf R.fs.length nf']) ?_ ?_ ?_
        (focus (first | ((repeat (first | (with_reducible assumption) | (with_reducible apply Blk.drew) | (with_reducible apply Blk.drewN) | (with_reducible apply Blk.new; first | rfl | (simp; done)) | (with_reducible apply Blk.alloc) | (with_reducible apply Blk.set_) | (with_reducible apply Blk.past; focus assumption) | (with_reducible apply Blk.far; focus (first | (simp; done) | (simp; omega) | (dsimp only; omega))))); done) | (apply Blk.cast; (case h => (repeat (first | (with_reducible assumption) | (with_reducible apply Blk.drew) | (with_reducible apply Blk.drewN) | (with_reducible apply Blk.new; first | rfl | (simp; done)) | (with_reducible apply Blk.alloc) | (with_reducible apply Blk.set_) | (with_reducible apply Blk.past; focus assumption) | (with_reducible apply Blk.far; focus (first | (simp; done) | (simp; omega) | (dsimp only; omega)))))); (case e => rfl))))
        (focus (repeat (first | (with_reducible exact Touch.refl _ _) | (with_reducible assumption) | (with_reducible apply Touch.drew) | (with_reducible apply Touch.drewN) | (with_reducible apply Touch.alloc) | (with_reducible refine Touch.set_ ?_ _ _ (by simp; done)) | (with_reducible refine Touch.set_new ?_ _ _ (by first | omega | (simp; omega) | (dsimp only; omega))))))
        intro w34 s_34 hX34
        have sX34 := hX34.size
        have b_34 := hX34.below b_33 (by first | (simp; done) | (simp; omega))
        have rc_34 := own_touch' hX34 rc_33 (fun q hq => by have h1 := rc_in q hq; (try have e0 := own_ne_obj rc_33 s_33 (by decide) q hq); simp; omega)
        have nj_34 := own_touch' hX34 nj_33 (fun q hq => by have h1 := nj_in q hq; (try have e0 := own_ne_obj nj_33 s_33 (by decide) q hq); simp; omega)
        have nt_34 := own_touch' hX34 nt_33 (fun q hq => by have h1 := nt_in q hq; (try have e0 := own_ne_obj nt_33 s_33 (by decide) q hq); simp; omega)
        have nf_34 := own_touch' hX34 nf_33 (fun q hq => by have h1 := nf_in q hq; (try have e0 := own_ne_obj nf_33 s_33 (by decide) q hq); simp; omega)
        have x_34 := Blk.touch hX34 x_33 (by first | (simp; done) | (simp; omega))
        have a0_34 := Touch.cell hX34 a0_33 (by dsimp only; omega) (by first | (simp; done) | (simp; omega))
        have a1_34 := Touch.cell hX34 a1_33 (by dsimp only; omega) (by first | (simp; done) | (simp; omega))
        have a2_34 := Touch.cell hX34 a2_33 (by dsimp only; omega) (by first | (simp; done) | (simp; omega))
        have a3_34 := Touch.cell hX34 a3_33 (by dsimp only; omega) (by first | (simp; done) | (simp; omega))
        clear rc_33 nj_33 nt_33 nf_33 s_33 x_33 a0_33 a1_33 a2_33 a3_33 b_33 cell_s froz_s lt_s cell_x froz_x lt_x lt_a0 lt_a1 lt_a2 lt_a3 hX34
        have cell_s := s_34.cell
        have froz_s := s_34.frozen
        have lt_s := s_34.lt
        have cell_x := x_34.cell
        have froz_x := x_34.frozen
        have lt_x := x_34.lt
        have lt_a0 : ga < w34.heap.size := (by omega)
        have lt_a1 : ga < w34.heap.size := (by omega)
        have lt_a2 : ga < w34.heap.size := (by omega)
        have lt_a3 : ga < w34.heap.size := (by omega)
        have P1 := hid nj_34
        have P2 := hid nt_34
        have P3 := hid nf_34
        have P4 := hid rc_34
        have P6 := hid s_34
        have P7 := hid b_34
        have KN : ∀ q p, (Value.slice Nf R.fs.length nf').ownBlock = some q → (Value.slice A_rc (j + 1) c_rc).ownBlock = some p → q ≠ p := fun q p hq hp => (by have h1 := nf_in q hq; have h2 := rc_in p hp; omega)
        clear nj_34 nt_34 nf_34 rc_34 s_34 b_34
        go_wp2
        go_roundw
        case rel => exact ⟨j + 1, R, L' ++ [cd], Nj, nj', Nt, nt', Nf, nf', A_rc, c_rc, by omega, by go_num, rfl, HN1.out, HN2.out, KN, own_weak (by have h := P1.out; repeat (first | (with_reducible assumption) | (with_reducible apply World.ownsRow.drew) | (with_reducible apply own_drewN) | (with_reducible apply World.ownsRow.alloc) | (with_reducible refine own_set ?_ _ _ (by first | omega | (simp; omega) | (dsimp only; omega))))) (by omega), own_weak (by have h := P2.out; repeat (first | (with_reducible assumption) | (with_reducible apply World.ownsRow.drew) | (with_reducible apply own_drewN) | (with_reducible apply World.ownsRow.alloc) | (with_reducible refine own_set ?_ _ _ (by first | omega | (simp; omega) | (dsimp only; omega))))) (by omega), own_weak (by have h := P3.out; repeat (first | (with_reducible assumption) | (with_reducible apply World.ownsRow.drew) | (with_reducible apply own_drewN) | (with_reducible apply World.ownsRow.alloc) | (with_reducible refine own_set ?_ _ _ (by first | omega | (simp; omega) | (dsimp only; omega))))) (by omega), by have h := P4.out; repeat (first | (with_reducible assumption) | (with_reducible apply World.ownsRow.drew) | (with_reducible apply own_drewN) | (with_reducible apply World.ownsRow.alloc) | (with_reducible refine own_set ?_ _ _ (by first | omega | (simp; omega) | (dsimp only; omega)))), by have h := P6.out; (first | ((repeat (first | (with_reducible assumption) | (with_reducible apply Blk.drew) | (with_reducible apply Blk.drewN) | (with_reducible apply Blk.new; first | rfl | (simp; done)) | (with_reducible apply Blk.alloc) | (with_reducible apply Blk.set_) | (with_reducible apply Blk.past; focus assumption) | (with_reducible apply Blk.far; focus (first | (simp; done) | (simp; omega) | (dsimp only; omega))))); done) | (apply Blk.cast; (case h => (repeat (first | (with_reducible assumption) | (with_reducible apply Blk.drew) | (with_reducible apply Blk.drewN) | (with_reducible apply Blk.new; first | rfl | (simp; done)) | (with_reducible apply Blk.alloc) | (with_reducible apply Blk.set_) | (with_reducible apply Blk.past; focus assumption) | (with_reducible apply Blk.far; focus (first | (simp; done) | (simp; omega) | (dsimp only; omega)))))); (case e => rfl))), by have h := P7.out; repeat (first | (with_reducible exact Below.refl _ _) | (with_reducible refine Below.trans ?_ (Below.mono (by assumption) (by first | omega | (simp; done) | (simp; omega) | (simp [*]; done)))) | (with_reducible refine Below.alloc ?_ (by first | omega | (simp; done) | (simp; omega) | (simp [*]; done)) _) | (with_reducible refine Below.setCell ?_ (by first | omega | (simp; done) | (simp; omega) | (simp [*]; done)) _) | (with_reducible refine Below.drew ?_) | (with_reducible refine below_drewN ?_))⟩
        case measure => simp [intOf]; omega
    · obtain rfl : j = n := by omega
      have hRS := okR_to (z := z) (xs := xs) (by omega) (by omega) j HOKA.out
      rw [e1] at hRS
      have HYES := hid (fun J T F cj ct cf w h ht => iFmtYes S' (okB_of hRS) J T F cj ct cf w h (by omega) (in64_of hRS) ht)
      have HSOK := hid (fun J T F cj ct cf w h => iSchedOkF S' J T F cj ct cf w h (by omega) (by omega))
      rw [okB_of hRS] at HSOK
      have HRUN := hid (fun A c w hc => run_to z j j xs hz hn (Nat.le_refl _) hxl S' L' e1 e2 A c w hc)
      have hLl := codesTo_length z xs j
      rw [e2] at hLl
      have HLL := hid hLl
      have hda := own_below HRO2.out hb
      have ne_rf_rc := ne0
      clear e1 e2 ne0 hRS hLl
      have b_60 := hb
      have s_60 := b_60.size
      have ra_in := own_in hda
      have ra_60 := hda
      clear hda
      have rj_in := own_off hrj ho (by decide)
      have rj_60 := hrj
      clear hrj
      have rt_in := own_off hrt ho (by decide)
      have rt_60 := hrt
      clear hrt
      have rf_in := own_off hrf ho (by decide)
      have rf_60 := hrf
      clear hrf
      have rc_in := own_off hrc ho (by decide)
      have rc_60 := hrc
      clear hrc
      have s_60 := ho
      clear ho
      have s_lt := s_60.lt
      have cell_s := s_60.cell
      have froz_s := s_60.frozen
      have lt_s := s_60.lt
      go_wp2_with fail
      refine calls_forget0 (W := wr) ?_ ?_
      (focus (repeat (first | (with_reducible exact Below.refl _ _) | (with_reducible refine Below.trans ?_ (Below.mono (by assumption) (by first | omega | (simp; done) | (simp; omega) | (simp [*]; done)))) | (with_reducible refine Below.alloc ?_ (by first | omega | (simp; done) | (simp; omega) | (simp [*]; done)) _) | (with_reducible refine Below.setCell ?_ (by first | omega | (simp; done) | (simp; omega) | (simp [*]; done)) _) | (with_reducible refine Below.drew ?_) | (with_reducible refine below_drewN ?_))))
      intro X61 hX61
      have sX61 := hX61.size
      refine (HRUN.out _ _ _ (Cells.of_own (own_below ra_60 hX61))).mono ?_
      rintro e w61 ⟨Yj, yj', Yt, yt', Yf, yf', Yc, yc', ne_yf_yc, rfl, yj_61, yt_61, yf_61, yc_61, hb61⟩
      have s61 := hb61.size
      have hT61 := hX61.trans (hb61.mono sX61)
      have b_61 := b_60.trans (hT61.mono (by omega))
      have ra_61 := own_below ra_60 hT61
      have rj_61 := own_below rj_60 hT61
      have rt_61 := own_below rt_60 hT61
      have rf_61 := own_below rf_60 hT61
      have rc_61 := own_below rc_60 hT61
      have s_61 := Blk.past hT61 s_60
      have yj_in := own_in yj_61
      have yt_in := own_in yt_61
      have yf_in := own_in yf_61
      have yc_in := own_in yc_61
      clear ra_60 rj_60 rt_60 rf_60 rc_60 s_60 b_60 cell_s froz_s lt_s hX61 hT61 hb61
      have cell_s := s_61.cell
      have froz_s := s_61.frozen
      have lt_s := s_61.lt
      go_upto_region 14 with fail
      refine wp_forget1 (w0 := w61) (B := w61.heap.size) (b0 := w61.heap.size) (t0 := 34) (c0 := #[.int .i64 (S'.z), .int .i64 (S'.n), .int .i64 (S'.b), .slice Yj (S'.js.length) yj', .slice Yt (S'.ts.length) yt', .slice Yf (S'.fs.length) yf']) ?_ ?_ ?_
      (focus (first | ((repeat (first | (with_reducible assumption) | (with_reducible apply Blk.drew) | (with_reducible apply Blk.drewN) | (with_reducible apply Blk.new; first | rfl | (simp; done)) | (with_reducible apply Blk.alloc) | (with_reducible apply Blk.set_) | (with_reducible apply Blk.past; focus assumption) | (with_reducible apply Blk.far; focus (first | (simp; done) | (simp; omega) | (dsimp only; omega))))); done) | (apply Blk.cast; (case h => (repeat (first | (with_reducible assumption) | (with_reducible apply Blk.drew) | (with_reducible apply Blk.drewN) | (with_reducible apply Blk.new; first | rfl | (simp; done)) | (with_reducible apply Blk.alloc) | (with_reducible apply Blk.set_) | (with_reducible apply Blk.past; focus assumption) | (with_reducible apply Blk.far; focus (first | (simp; done) | (simp; omega) | (dsimp only; omega)))))); (case e => rfl))))
      (focus (repeat (first | (with_reducible exact Below.refl _ _) | (with_reducible refine Below.trans ?_ (Below.mono (by assumption) (by first | omega | (simp; done) | (simp; omega) | (simp [*]; done)))) | (with_reducible refine Below.alloc ?_ (by first | omega | (simp; done) | (simp; omega) | (simp [*]; done)) _) | (with_reducible refine Below.setCell ?_ (by first | omega | (simp; done) | (simp; omega) | (simp [*]; done)) _) | (with_reducible refine Below.drew ?_) | (with_reducible refine below_drewN ?_))))
      intro w62 y_62 hX62
      have sX62 := hX62.size
      have y_lt := y_62.lt
      have b_62 := b_61.trans (hX62.mono (by omega))
      have ra_62 := own_below ra_61 hX62
      have rj_62 := own_below rj_61 hX62
      have rt_62 := own_below rt_61 hX62
      have rf_62 := own_below rf_61 hX62
      have rc_62 := own_below rc_61 hX62
      have yj_62 := own_below yj_61 hX62
      have yt_62 := own_below yt_61 hX62
      have yf_62 := own_below yf_61 hX62
      have yc_62 := own_below yc_61 hX62
      have s_62 := Blk.past hX62 s_61
      clear ra_61 rj_61 rt_61 rf_61 rc_61 yj_61 yt_61 yf_61 yc_61 s_61 b_61 cell_s froz_s lt_s hX62
      have cell_s := s_62.cell
      have froz_s := s_62.frozen
      have lt_s := s_62.lt
      have cell_y := y_62.cell
      have froz_y := y_62.frozen
      have lt_y := y_62.lt
      go_wp2_with fail
      refine calls_forget0 (W := w62) ?_ ?_
      (focus (repeat (first | (with_reducible exact Below.refl _ _) | (with_reducible refine Below.trans ?_ (Below.mono (by assumption) (by first | omega | (simp; done) | (simp; omega) | (simp [*]; done)))) | (with_reducible refine Below.alloc ?_ (by first | omega | (simp; done) | (simp; omega) | (simp [*]; done)) _) | (with_reducible refine Below.setCell ?_ (by first | omega | (simp; done) | (simp; omega) | (simp [*]; done)) _) | (with_reducible refine Below.drew ?_) | (with_reducible refine below_drewN ?_))))
      intro X63 hX63
      have sX63 := hX63.size
      refine (HYES.out _ _ _ _ _ _ _ ⟨own_weak (own_below yj_62 hX63) (Nat.zero_le _), own_weak (own_below yt_62 hX63) (Nat.zero_le _), own_weak (own_below yf_62 hX63) (Nat.zero_le _)⟩ (HT.out.step (b_62.trans (hX63.mono (by omega))) HT.out)).mono ?_
      rintro e w63 ⟨Al, cl, rfl, li_63, hb63⟩
      have s63 := hb63.size
      have hT63 := hX63.trans (hb63.mono sX63)
      have b_63 := b_62.trans (hT63.mono (by omega))
      have ra_63 := own_below ra_62 hT63
      have rj_63 := own_below rj_62 hT63
      have rt_63 := own_below rt_62 hT63
      have rf_63 := own_below rf_62 hT63
      have rc_63 := own_below rc_62 hT63
      have yj_63 := own_below yj_62 hT63
      have yt_63 := own_below yt_62 hT63
      have yf_63 := own_below yf_62 hT63
      have yc_63 := own_below yc_62 hT63
      have s_63 := Blk.past hT63 s_62
      have y_63 := Blk.past hT63 y_62
      have li_in := own_in li_63
      clear ra_62 rj_62 rt_62 rf_62 rc_62 yj_62 yt_62 yf_62 yc_62 s_62 y_62 b_62 cell_s froz_s lt_s cell_y froz_y lt_y hX63 hT63 hb63
      have cell_s := s_63.cell
      have froz_s := s_63.frozen
      have lt_s := s_63.lt
      have cell_y := y_63.cell
      have froz_y := y_63.frozen
      have lt_y := y_63.lt
      clear li_63
      go_wp2_with fail
      refine calls_forget0 (W := w63) ?_ ?_
      (focus (repeat (first | (with_reducible exact Below.refl _ _) | (with_reducible refine Below.trans ?_ (Below.mono (by assumption) (by first | omega | (simp; done) | (simp; omega) | (simp [*]; done)))) | (with_reducible refine Below.alloc ?_ (by first | omega | (simp; done) | (simp; omega) | (simp [*]; done)) _) | (with_reducible refine Below.setCell ?_ (by first | omega | (simp; done) | (simp; omega) | (simp [*]; done)) _) | (with_reducible refine Below.drew ?_) | (with_reducible refine below_drewN ?_))))
      intro X64 hX64
      have sX64 := hX64.size
      refine (same_at _ _ _ _ _ _ _ HLL.out (Cells.of_own (own_below rc_63 hX64)) (Cells.of_own (own_below yc_63 hX64)) (by omega)).mono ?_
      rintro e w64 ⟨rfl, hb64⟩
      have s64 := hb64.size
      have hT64 := hX64.trans (hb64.mono sX64)
      have b_64 := b_63.trans (hT64.mono (by omega))
      have ra_64 := own_below ra_63 hT64
      have rj_64 := own_below rj_63 hT64
      have rt_64 := own_below rt_63 hT64
      have rf_64 := own_below rf_63 hT64
      have rc_64 := own_below rc_63 hT64
      have yj_64 := own_below yj_63 hT64
      have yt_64 := own_below yt_63 hT64
      have yf_64 := own_below yf_63 hT64
      have yc_64 := own_below yc_63 hT64
      have s_64 := Blk.past hT64 s_63
      have y_64 := Blk.past hT64 y_63
      clear ra_63 rj_63 rt_63 rf_63 rc_63 yj_63 yt_63 yf_63 yc_63 s_63 y_63 b_63 cell_s froz_s lt_s cell_y froz_y lt_y hX64 hT64 hb64
      have cell_s := s_64.cell
      have froz_s := s_64.frozen
      have lt_s := s_64.lt
      have cell_y := y_64.cell
      have froz_y := y_64.frozen
      have lt_y := y_64.lt
      go_wp2_with fail
      refine calls_forget0 (W := w64) ?_ ?_
      (focus (repeat (first | (with_reducible exact Below.refl _ _) | (with_reducible refine Below.trans ?_ (Below.mono (by assumption) (by first | omega | (simp; done) | (simp; omega) | (simp [*]; done)))) | (with_reducible refine Below.alloc ?_ (by first | omega | (simp; done) | (simp; omega) | (simp [*]; done)) _) | (with_reducible refine Below.setCell ?_ (by first | omega | (simp; done) | (simp; omega) | (simp [*]; done)) _) | (with_reducible refine Below.drew ?_) | (with_reducible refine below_drewN ?_))))
      intro X65 hX65
      have sX65 := hX65.size
      refine (sameSched_same S' _ _ _ _ _ _ _ _ _ _ _ _ _ (Cells.of_own (own_below rj_64 hX65)) (Cells.of_own (own_below yj_64 hX65)) (Cells.of_own (own_below rt_64 hX65)) (Cells.of_own (own_below yt_64 hX65)) (Cells.of_own (own_below rf_64 hX65)) (Cells.of_own (own_below yf_64 hX65)) (by omega) (by omega) (by omega)).mono ?_
      rintro e w65 ⟨rfl, hb65⟩
      have s65 := hb65.size
      have hT65 := hX65.trans (hb65.mono sX65)
      have b_65 := b_64.trans (hT65.mono (by omega))
      have ra_65 := own_below ra_64 hT65
      have rj_65 := own_below rj_64 hT65
      have rt_65 := own_below rt_64 hT65
      have rf_65 := own_below rf_64 hT65
      have rc_65 := own_below rc_64 hT65
      have yj_65 := own_below yj_64 hT65
      have yt_65 := own_below yt_64 hT65
      have yf_65 := own_below yf_64 hT65
      have yc_65 := own_below yc_64 hT65
      have s_65 := Blk.past hT65 s_64
      have y_65 := Blk.past hT65 y_64
      clear ra_64 rj_64 rt_64 rf_64 rc_64 yj_64 yt_64 yf_64 yc_64 s_64 y_64 b_64 cell_s froz_s lt_s cell_y froz_y lt_y hX65 hT65 hb65
      have cell_s := s_65.cell
      have froz_s := s_65.frozen
      have lt_s := s_65.lt
      have cell_y := y_65.cell
      have froz_y := y_65.frozen
      have lt_y := y_65.lt
      go_wp2_with fail
      refine calls_forget0 (W := w65) ?_ ?_
      (focus (repeat (first | (with_reducible exact Below.refl _ _) | (with_reducible refine Below.trans ?_ (Below.mono (by assumption) (by first | omega | (simp; done) | (simp; omega) | (simp [*]; done)))) | (with_reducible refine Below.alloc ?_ (by first | omega | (simp; done) | (simp; omega) | (simp [*]; done)) _) | (with_reducible refine Below.setCell ?_ (by first | omega | (simp; done) | (simp; omega) | (simp [*]; done)) _) | (with_reducible refine Below.drew ?_) | (with_reducible refine below_drewN ?_))))
      intro X66 hX66
      have sX66 := hX66.size
      refine (HSOK.out _ _ _ _ _ _ _ ⟨own_weak (own_below yj_65 hX66) (Nat.zero_le _), own_weak (own_below yt_65 hX66) (Nat.zero_le _), own_weak (own_below yf_65 hX66) (Nat.zero_le _)⟩).mono ?_
      rintro e w66 ⟨rfl, hb66⟩
      have s66 := hb66.size
      have hT66 := hX66.trans (hb66.mono sX66)
      have b_66 := b_65.trans (hT66.mono (by omega))
      have ra_66 := own_below ra_65 hT66
      have rj_66 := own_below rj_65 hT66
      have rt_66 := own_below rt_65 hT66
      have rf_66 := own_below rf_65 hT66
      have rc_66 := own_below rc_65 hT66
      have yj_66 := own_below yj_65 hT66
      have yt_66 := own_below yt_65 hT66
      have yf_66 := own_below yf_65 hT66
      have yc_66 := own_below yc_65 hT66
      have s_66 := Blk.past hT66 s_65
      have y_66 := Blk.past hT66 y_65
      clear ra_65 rj_65 rt_65 rf_65 rc_65 yj_65 yt_65 yf_65 yc_65 s_65 y_65 b_65 cell_s froz_s lt_s cell_y froz_y lt_y hX66 hT66 hb66
      have cell_s := s_66.cell
      have froz_s := s_66.frozen
      have lt_s := s_66.lt
      have cell_y := y_66.cell
      have froz_y := y_66.frozen
      have lt_y := y_66.lt
      have HBF := hid (hbw.trans (b_66.mono (by omega)))
      go_wp2
      go_ret
      exact ⟨rfl, by have h := HBF.out; repeat (first | (with_reducible exact Below.refl _ _) | (with_reducible refine Below.trans ?_ (Below.mono (by assumption) (by first | omega | (simp; done) | (simp; omega) | (simp [*]; done)))) | (with_reducible refine Below.alloc ?_ (by first | omega | (simp; done) | (simp; omega) | (simp [*]; done)) _) | (with_reducible refine Below.setCell ?_ (by first | omega | (simp; done) | (simp; omega) | (simp [*]; done)) _) | (with_reducible refine Below.drew ?_) | (with_reducible refine below_drewN ?_))⟩
end served
end Go.Proofs.YtcdodfekclkonaaDoor
