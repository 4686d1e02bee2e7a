/- The reference's drawn schedule. -/
import Derived.Test.YtipnhlnbokkihaaRunSpec
import Derived.Test.YtipnhlnbokkihaaRunL
import Derived.Test.YtipnhlnbokkihaaOnce
import Derived.Test.YtipnhlnbokkihaaAdd
import Derived.StillTailTactics
namespace Go.Proofs.Ytipnhlnbokkihaa
open Go.RowKit

theorem runM_small {x : Int} (h : x < 6) : runM x ≤ 5 := by
  unfold runM
  split <;> omega
theorem sNewOk (z : Int) (h : inB z 1 1000 = true) (w : World) : Calls Try.prog 18 #[.int .i64 z] w fun e w' => e = .returned (.tuple #[.agg #[.int .i64 z, .int .i64 0, .int .i64 0, .slice none 0 0, .slice none 0 0, .slice none 0 0], .bool true]) ∧ Below w.heap.size w w' := by
  have h0 := sSchedNew z w
  rw [h, pick_yes] at h0
  exact h0
theorem okS_addR {S : SV} {id need rounds : Int} (h : okS S) (hr : rounds ≤ 20) : okS (addR S id need rounds) := by
  unfold addR
  split
  · next hb => exact okS_add h hb hr
  · exact h
theorem okS_pick {S : SV} (h : okS S) (k : Int) : okS { S with b := pick (resB S.z S.n S.b k) (S.b + k) S.b } := by
  cases hr : resB S.z S.n S.b k
  · rw [pick_no]
    exact h
  · rw [pick_yes]
    exact okS_reserve h hr
def CaseS (w : World) (p : Nat) (A : Option Addr) (n c o m : Nat) (wx : World) : Prop :=
  ∃ (S : SV) (J : Option Addr) (cj : Nat) (T : Option Addr) (tcp : Nat) (F : Option Addr) (cf : Nat), okS S ∧ S.ts.length ≤ m ∧ S.fs.length ≤ m ∧ (wx.ownsRow w.heap.size 38 4 (.slice J S.js.length cj) S.js.length (ints (flatJ S.js)) ∧ wx.ownsRow w.heap.size 55 2 (.slice T S.ts.length tcp) S.ts.length (ints (flatT S.ts)) ∧ wx.ownsRow w.heap.size 3 1 (.slice F S.fs.length cf) S.fs.length (ints S.fs)) ∧
    Blk wx w.heap.size 31 #[.int .i64 0, .int .i64 0, .int .i64 0, .slice none 0 0, .slice none 0 0, .slice none 0 0] ∧
    Blk wx o 31 #[.int .i64 S.z, .int .i64 S.n, .int .i64 S.b, .slice J S.js.length cj, .slice T S.ts.length tcp, .slice F S.fs.length cf] ∧ Cur wx p A n c ∧ Touch [p] w wx
theorem CaseS.put {w wx wz : World} {p n c o m : Nat} {A : Option Addr} (hp : p < w.heap.size) (ho : w.heap.size < o) (S : SV) (J : Option Addr) (cj : Nat) (T : Option Addr) (tcp : Nat) (F : Option Addr) (cf : Nat) (hok : okS S) (l1 : S.ts.length ≤ m) (l2 : S.fs.length ≤ m)
    (h : wx.ownsRow w.heap.size 38 4 (.slice J S.js.length cj) S.js.length (ints (flatJ S.js)) ∧ wx.ownsRow w.heap.size 55 2 (.slice T S.ts.length tcp) S.ts.length (ints (flatT S.ts)) ∧ wx.ownsRow w.heap.size 3 1 (.slice F S.fs.length cf) S.fs.length (ints S.fs)) (hr : Blk wx w.heap.size 31 #[.int .i64 0, .int .i64 0, .int .i64 0, .slice none 0 0, .slice none 0 0, .slice none 0 0]) {cs0 : Array Value}
    (hko : Blk wx o 31 cs0) (hc : Cur wx p A n c) (hT : Touch [p] w wx) (hz : Touch [o] wx wz)
    (hk : Blk wz o 31 #[.int .i64 S.z, .int .i64 S.n, .int .i64 S.b, .slice J S.js.length cj, .slice T S.ts.length tcp, .slice F S.fs.length cf]) : CaseS w p A n c o m wz := by
  obtain ⟨h1, h2, h3⟩ := h
  have hpo : p ∉ [o] := by simp; omega
  have hro : w.heap.size ∉ [o] := by simp; omega
  refine ⟨S, J, cj, T, tcp, F, cf, hok, l1, l2, ⟨?_, ?_, ?_⟩, Blk.touch hz hr hro, hk, hc.touch hz hpo, hT.trans_new hz (by simp; omega)⟩
  · exact own_touch' hz h1 (fun q hq => by have := own_ne_obj h1 hko (by decide) q hq; simp; exact this)
  · exact own_touch' hz h2 (fun q hq => by have := own_ne_obj h2 hko (by decide) q hq; simp; exact this)
  · exact own_touch' hz h3 (fun q hq => by have := own_ne_obj h3 hko (by decide) q hq; simp; exact this)
theorem CaseS.mono {w wx : World} {p n c o m m' : Nat} {A : Option Addr} (h : CaseS w p A n c o m wx) (hm : m ≤ m') : CaseS w p A n c o m' wx := by
  obtain ⟨S, J, cj, T, tcp, F, cf, hok, l1, l2, h⟩ := h
  exact ⟨S, J, cj, T, tcp, F, cf, hok, Nat.le_trans l1 hm, Nat.le_trans l2 hm, h⟩
theorem CaseS.fin {w wx wz : World} {p : Nat} (S : SV) (J : Option Addr) (cj : Nat) (T : Option Addr) (tcp : Nat) (F : Option Addr) (cf : Nat) (h : wx.ownsRow w.heap.size 38 4 (.slice J S.js.length cj) S.js.length (ints (flatJ S.js)) ∧ wx.ownsRow w.heap.size 55 2 (.slice T S.ts.length tcp) S.ts.length (ints (flatT S.ts)) ∧ wx.ownsRow w.heap.size 3 1 (.slice F S.fs.length cf) S.fs.length (ints S.fs))
    {cs0 : Array Value} (hr : Blk wx w.heap.size 31 cs0) (hT : Touch [p] w wx) (hz : Touch [w.heap.size] wx wz) : (wz.ownsRow w.heap.size 38 4 (.slice J S.js.length cj) S.js.length (ints (flatJ S.js)) ∧ wz.ownsRow w.heap.size 55 2 (.slice T S.ts.length tcp) S.ts.length (ints (flatT S.ts)) ∧ wz.ownsRow w.heap.size 3 1 (.slice F S.fs.length cf) S.fs.length (ints S.fs)) ∧ Touch [p] w wz := by
  obtain ⟨h1, h2, h3⟩ := h
  refine ⟨⟨?_, ?_, ?_⟩, hT.trans_new hz (by simp)⟩
  · exact own_touch' hz h1 (fun q hq => by have := own_ne_obj h1 hr (by decide) q hq; simp; exact this)
  · exact own_touch' hz h2 (fun q hq => by have := own_ne_obj h2 hr (by decide) q hq; simp; exact this)
  · exact own_touch' hz h3 (fun q hq => by have := own_ne_obj h3 hr (by decide) q hq; simp; exact this)
set_option maxRecDepth 100000 in
set_option maxHeartbeats 6400000 in
theorem case_any (p : Nat) (A : Option Addr) (c : Nat) (bs : List Int) (w : World) (hc : Cur w p A bs.length c) (hb : Bytes w p A bs) :
    Calls Try.prog 61 #[.pointer (some ⟨p, 0, none⟩)] w fun e w' => ∃ (S : SV) (J : Option Addr) (cj : Nat) (T : Option Addr) (tcp : Nat) (F : Option Addr) (cf : Nat), e = .returned (.agg #[.int .i64 S.z, .int .i64 S.n, .int .i64 S.b, .slice J S.js.length cj, .slice T S.ts.length tcp, .slice F S.fs.length cf]) ∧
      okS S ∧ S.ts.length ≤ 25 ∧ S.fs.length ≤ 25 ∧ ((w'.ownsRow w.heap.size 38 4 (.slice J S.js.length cj) S.js.length (ints (flatJ S.js)) ∧ w'.ownsRow w.heap.size 55 2 (.slice T S.ts.length tcp) S.ts.length (ints (flatT S.ts)) ∧ w'.ownsRow w.heap.size 3 1 (.slice F S.fs.length cf) S.fs.length (ints S.fs)) ∧ Touch [p] w w') := by
  obtain ⟨i0, h0, hcu, cu_i0, cu_i1⟩ := hc
  have hp := hcu.lt
  have bc_s := hid hb.small
  have bc_l := hid hb.len
  have HBY := hb.cells
  have HBY0 := hid hb.cells
  clear hb
  go_enter Try.func61, Try.ntmps61
  have b_0 := (Below.refl 0 w)
  have s_0 := b_0.size
  have T_0 := Touch.refl [p] w
  have bc_0 := HBY
  clear HBY
  have cu_0 := hcu
  clear hcu
  have cu_lt := cu_0.lt
  have cell_cu := cu_0.cell
  have froz_cu := cu_0.frozen
  have lt_cu := cu_0.lt
  go_wp2_with fail
  refine calls_forget1 (W := w) (b0 := w.heap.size) (t0 := 31) (c0 := #[.int .i64 0, .int .i64 0, .int .i64 0, .slice none 0 0, .slice none 0 0, .slice none 0 0]) ?_ ?_ ?_
  (focus (first | ((repeat (first | (with_reducible assumption) | (with_reducible apply Blk.drew) | (with_reducible apply Blk.drewN) | (with_reducible apply Blk.new; first | rfl | (simp; done)) | (with_reducible apply Blk.alloc) | (with_reducible apply Blk.set_) | (with_reducible apply Blk.past; focus assumption) | (with_reducible apply Blk.far; focus (first | (simp; done) | (simp; omega) | (dsimp only; omega))))); done) | (apply Blk.cast; (case h => (repeat (first | (with_reducible assumption) | (with_reducible apply Blk.drew) | (with_reducible apply Blk.drewN) | (with_reducible apply Blk.new; first | rfl | (simp; done)) | (with_reducible apply Blk.alloc) | (with_reducible apply Blk.set_) | (with_reducible apply Blk.past; focus assumption) | (with_reducible apply Blk.far; focus (first | (simp; done) | (simp; omega) | (dsimp only; omega)))))); (case e => rfl))))
  (focus (repeat (first | (with_reducible exact Below.refl _ _) | (with_reducible refine Below.trans ?_ (Below.mono (by assumption) (by first | omega | (simp; done) | (simp; omega) | (simp [*]; done)))) | (with_reducible refine Below.alloc ?_ (by first | omega | (simp; done) | (simp; omega) | (simp [*]; done)) _) | (with_reducible refine Below.setCell ?_ (by first | omega | (simp; done) | (simp; omega) | (simp [*]; done)) _) | (with_reducible refine Below.drew ?_) | (with_reducible refine below_drewN ?_))))
  intro X1 r_n hX1
  have sX1 := hX1.size
  have r_lt := r_n.lt
  refine (below_any 80 _ _ _ _ _ (by omega) (by omega) (show Cur _ _ _ _ _ from ⟨_, _, Blk.past hX1 cu_0, cu_i0, cu_i1⟩) ⟨cells_below bc_0 hX1 (by omega), bc_s.out, bc_l.out⟩).mono ?_
  clear cu_i0 cu_i1
  rintro e w1 ⟨z, rfl, z0, z1, ⟨i_1, h_1, cu_1, cu_i0, cu_i1⟩, hY1⟩
  have s1 := hY1.size
  have b_1 := below0_touch hY1 (b_0.trans (hX1.mono (by omega)))
  have T_1 := (T_0.trans (Touch.of_below hX1)).trans hY1
  have bc_1 := cells_touch hY1 (cells_below bc_0 hX1 (by omega)) (by omega) (by first | (simp; done) | (simp; omega))
  have r_1 := Blk.touch hY1 r_n (by first | (simp; done) | (simp; omega))
  clear T_0 bc_0 cu_0 b_0 cell_cu froz_cu lt_cu r_n hX1 hY1
  have cell_cu := cu_1.cell
  have froz_cu := cu_1.frozen
  have lt_cu := cu_1.lt
  have cell_r := r_1.cell
  have froz_r := r_1.frozen
  have lt_r := r_1.lt
  go_wp2_with fail
  refine calls_forget0 (W := w1) ?_ ?_
  (focus (repeat (first | (with_reducible exact Below.refl _ _) | (with_reducible refine Below.trans ?_ (Below.mono (by assumption) (by first | omega | (simp; done) | (simp; omega) | (simp [*]; done)))) | (with_reducible refine Below.alloc ?_ (by first | omega | (simp; done) | (simp; omega) | (simp [*]; done)) _) | (with_reducible refine Below.setCell ?_ (by first | omega | (simp; done) | (simp; omega) | (simp [*]; done)) _) | (with_reducible refine Below.drew ?_) | (with_reducible refine below_drewN ?_))))
  intro X2 hX2
  have sX2 := hX2.size
  refine (sNewOk (10 + z) (inB_iff.2 ⟨by omega, by omega⟩) _).mono ?_
  rintro e w2 ⟨rfl, hb2⟩
  have s2 := hb2.size
  have hT2 := hX2.trans (hb2.mono sX2)
  have b_2 := b_1.trans (hT2.mono (by omega))
  have T_2 := T_1.trans (Touch.of_below hT2)
  have bc_2 := cells_below bc_1 hT2 (by omega)
  have cu_2 := Blk.past hT2 cu_1
  have r_2 := Blk.past hT2 r_1
  clear T_1 bc_1 cu_1 r_1 b_1 cell_cu froz_cu lt_cu cell_r froz_r lt_r hX2 hT2 hb2
  have cell_cu := cu_2.cell
  have froz_cu := cu_2.frozen
  have lt_cu := cu_2.lt
  have cell_r := r_2.cell
  have froz_r := r_2.frozen
  have lt_r := r_2.lt
  go_upto_region 2 with fail
  refine wp_forget1 (w0 := w2) (B := w2.heap.size) (b0 := w2.heap.size) (t0 := 31) (c0 := #[.int .i64 (10 + z), .int .i64 0, .int .i64 0, .slice none 0 0, .slice none 0 0, .slice none 0 0]) ?_ ?_ ?_
  (focus (first | ((repeat (first | (with_reducible assumption) | (with_reducible apply Blk.drew) | (with_reducible apply Blk.drewN) | (with_reducible apply Blk.new; first | rfl | (simp; done)) | (with_reducible apply Blk.alloc) | (with_reducible apply Blk.set_) | (with_reducible apply Blk.past; focus assumption) | (with_reducible apply Blk.far; focus (first | (simp; done) | (simp; omega) | (dsimp only; omega))))); done) | (apply Blk.cast; (case h => (repeat (first | (with_reducible assumption) | (with_reducible apply Blk.drew) | (with_reducible apply Blk.drewN) | (with_reducible apply Blk.new; first | rfl | (simp; done)) | (with_reducible apply Blk.alloc) | (with_reducible apply Blk.set_) | (with_reducible apply Blk.past; focus assumption) | (with_reducible apply Blk.far; focus (first | (simp; done) | (simp; omega) | (dsimp only; omega)))))); (case e => rfl))))
  (focus (repeat (first | (with_reducible exact Below.refl _ _) | (with_reducible refine Below.trans ?_ (Below.mono (by assumption) (by first | omega | (simp; done) | (simp; omega) | (simp [*]; done)))) | (with_reducible refine Below.alloc ?_ (by first | omega | (simp; done) | (simp; omega) | (simp [*]; done)) _) | (with_reducible refine Below.setCell ?_ (by first | omega | (simp; done) | (simp; omega) | (simp [*]; done)) _) | (with_reducible refine Below.drew ?_) | (with_reducible refine below_drewN ?_))))
  intro w3 o_3 hX3
  have sX3 := hX3.size
  have o_lt := o_3.lt
  have b_3 := b_2.trans (hX3.mono (by omega))
  have T_3 := T_2.trans (Touch.of_below hX3)
  have bc_3 := cells_below bc_2 hX3 (by omega)
  have cu_3 := Blk.past hX3 cu_2
  have r_3 := Blk.past hX3 r_2
  clear T_2 bc_2 cu_2 r_2 b_2 cell_cu froz_cu lt_cu cell_r froz_r lt_r hX3
  have cell_cu := cu_3.cell
  have froz_cu := cu_3.frozen
  have lt_cu := cu_3.lt
  have cell_r := r_3.cell
  have froz_r := r_3.frozen
  have lt_r := r_3.lt
  have cell_o := o_3.cell
  have froz_o := o_3.frozen
  have lt_o := o_3.lt
  have hwo : w.heap.size < w2.heap.size := by omega
  have hC : CaseS w p A bs.length c w2.heap.size 0 w3 := ⟨⟨10 + z, 0, 0, [], [], []⟩, none, 0, none, 0, none, 0, okS_new (by omega) (by omega), Nat.le_refl _, Nat.le_refl _, ⟨World.ownsRow_nil _ _ _ _, World.ownsRow_nil _ _ _ _, World.ownsRow_nil _ _ _ _⟩, r_3, o_3, ⟨_, _, cu_3, cu_i0, cu_i1⟩, T_3⟩
  clear bc_3 r_3 o_3 cu_3 T_3 b_3 cell_cu froz_cu lt_cu cell_r froz_r lt_r cell_o froz_o lt_o cu_i0 cu_i1 z0 z1
  go_wp2
  go_loopw [5] (fun i wx => ∃ k : Nat, k ≤ 5 ∧ i = .int .i64 k ∧ CaseS w p A bs.length c w2.heap.size (5 * k) wx) (fun i _ => 5 - (intOf i).toNat)
  case atStart => exact ⟨0, Nat.zero_le _, rfl, hC⟩
  case round =>
    obtain ⟨k, hk, rfl, hC0⟩ := hrel
    clear hC
    obtain ⟨S, J, cj, T, tcp, F, cf, hok, l1, l2, ⟨hj, ht, hf⟩, hr, ho, ⟨i1, h1, hcu, cu_i0, cu_i1⟩, hT⟩ := hC0
    have hsz := hT.size
    have hby := cells_touch hT HBY0.out (by omega) (by simp)
    have b_10 := (Below.refl 0 wr)
    have s_10 := b_10.size
    have T_10 := hT
    have bc_10 := hby
    clear hby
    have rj_in := own_off hj ho (by decide)
    have rj_10 := hj
    clear hj
    have rt_in := own_off ht ho (by decide)
    have rt_10 := ht
    clear ht
    have rf_in := own_off hf ho (by decide)
    have rf_10 := hf
    clear hf
    have cu_10 := hcu
    clear hcu
    have cu_lt := cu_10.lt
    have cell_cu := cu_10.cell
    have froz_cu := cu_10.frozen
    have lt_cu := cu_10.lt
    have r_10 := hr
    clear hr
    have r_lt := r_10.lt
    have cell_r := r_10.cell
    have froz_r := r_10.frozen
    have lt_r := r_10.lt
    have o_10 := ho
    clear ho
    have o_lt := o_10.lt
    have cell_o := o_10.cell
    have froz_o := o_10.frozen
    have lt_o := o_10.lt
    go_wp2_with fail
    refine calls_forget0 (W := wr) ?_ ?_
    (focus (repeat (first | (with_reducible exact Below.refl _ _) | (with_reducible refine Below.trans ?_ (Below.mono (by assumption) (by first | omega | (simp; done) | (simp; omega) | (simp [*]; done)))) | (with_reducible refine Below.alloc ?_ (by first | omega | (simp; done) | (simp; omega) | (simp [*]; done)) _) | (with_reducible refine Below.setCell ?_ (by first | omega | (simp; done) | (simp; omega) | (simp [*]; done)) _) | (with_reducible refine Below.drew ?_) | (with_reducible refine below_drewN ?_))))
    intro X11 hX11
    have sX11 := hX11.size
    refine (below_any 6 _ _ _ _ _ (by omega) (by omega) (show Cur _ _ _ _ _ from ⟨_, _, Blk.past hX11 cu_10, cu_i0, cu_i1⟩) ⟨cells_below bc_10 hX11 (by omega), bc_s.out, bc_l.out⟩).mono ?_
    clear cu_i0 cu_i1
    rintro e w11 ⟨q, rfl, q0, q1, ⟨i_11, h_11, cu_11, cu_i0, cu_i1⟩, hY11⟩
    have s11 := hY11.size
    have b_11 := below0_touch hY11 (b_10.trans (hX11.mono (by omega)))
    have T_11 := (T_10.trans (Touch.of_below hX11)).trans hY11
    have bc_11 := cells_touch hY11 (cells_below bc_10 hX11 (by omega)) (by omega) (by first | (simp; done) | (simp; omega))
    have rj_11 := own_touch' hY11 (own_below rj_10 hX11) (fun q hq => by have h1 := rj_in q hq; simp; omega)
    have rt_11 := own_touch' hY11 (own_below rt_10 hX11) (fun q hq => by have h1 := rt_in q hq; simp; omega)
    have rf_11 := own_touch' hY11 (own_below rf_10 hX11) (fun q hq => by have h1 := rf_in q hq; simp; omega)
    have r_11 := Blk.touch hY11 (Blk.past hX11 r_10) (by first | (simp; done) | (simp; omega))
    have o_11 := Blk.touch hY11 (Blk.past hX11 o_10) (by first | (simp; done) | (simp; omega))
    clear T_10 bc_10 rj_10 rt_10 rf_10 cu_10 r_10 o_10 b_10 cell_cu froz_cu lt_cu cell_r froz_r lt_r cell_o froz_o lt_o hX11 hY11
    have cell_cu := cu_11.cell
    have froz_cu := cu_11.frozen
    have lt_cu := cu_11.lt
    have cell_r := r_11.cell
    have froz_r := r_11.frozen
    have lt_r := r_11.lt
    have cell_o := o_11.cell
    have froz_o := o_11.frozen
    have lt_o := o_11.lt
    have hC1 : CaseS w p A bs.length c w2.heap.size (5 * k) w11 := ⟨S, J, cj, T, tcp, F, cf, hok, l1, l2, ⟨rj_11, rt_11, rf_11⟩, r_11, o_11, ⟨_, _, cu_11, cu_i0, cu_i1⟩, T_11⟩
    clear bc_11 rj_11 rt_11 rf_11 r_11 o_11 cu_11 T_11 b_11 cell_cu froz_cu lt_cu cell_r froz_r lt_r cell_o froz_o lt_o cu_i0 cu_i1 rj_in rt_in rf_in l1 l2 hok
    by_cases hlt : (k : Int) < q
    · go_wp2_with fail
      go_cut [] (fun wx => CaseS w p A bs.length c w2.heap.size (5 * k) wx)
      case first =>
        obtain ⟨S, J, cj, T, tcp, F, cf, hok, l1, l2, ⟨hj, ht, hf⟩, hr, ho, ⟨i1, h1, hcu, cu_i0, cu_i1⟩, hT⟩ := hC1
        have hsz := hT.size
        have hby := cells_touch hT HBY0.out (by omega) (by simp)
        have b_20 := (Below.refl 0 w11)
        have s_20 := b_20.size
        have T_20 := hT
        have bc_20 := hby
        clear hby
        have rj_in := own_off hj ho (by decide)
        have rj_20 := hj
        clear hj
        have rt_in := own_off ht ho (by decide)
        have rt_20 := ht
        clear ht
        have rf_in := own_off hf ho (by decide)
        have rf_20 := hf
        clear hf
        have cu_20 := hcu
        clear hcu
        have cu_lt := cu_20.lt
        have cell_cu := cu_20.cell
        have froz_cu := cu_20.frozen
        have lt_cu := cu_20.lt
        have r_20 := hr
        clear hr
        have r_lt := r_20.lt
        have cell_r := r_20.cell
        have froz_r := r_20.frozen
        have lt_r := r_20.lt
        have o_20 := ho
        clear ho
        have o_lt := o_20.lt
        have cell_o := o_20.cell
        have froz_o := o_20.frozen
        have lt_o := o_20.lt
        go_wp2_with fail
        go_region_with (first | (have hgd := b_20; clear hgd; go_at_call 35; refine calls_forget0 (W := w11) ?_ ?_; (focus (repeat (first | (with_reducible exact Below.refl _ _) | (with_reducible refine Below.trans ?_ (Below.mono (by assumption) (by first | omega | (simp; done) | (simp; omega) | (simp [*]; done)))) | (with_reducible refine Below.alloc ?_ (by first | omega | (simp; done) | (simp; omega) | (simp [*]; done)) _) | (with_reducible refine Below.setCell ?_ (by first | omega | (simp; done) | (simp; omega) | (simp [*]; done)) _) | (with_reducible refine Below.drew ?_) | (with_reducible refine below_drewN ?_)))); intro X21 hX21; have sX21 := hX21.size; refine (below_any 9 _ _ _ _ _ (by omega) (by omega) (show Cur _ _ _ _ _ from ⟨_, _, Blk.past hX21 cu_20, cu_i0, cu_i1⟩) ⟨cells_below bc_20 hX21 (by omega), bc_s.out, bc_l.out⟩).mono ?_; clear cu_i0 cu_i1; rintro e w21 ⟨x1, rfl, x10, x11, ⟨i_21, h_21, cu_21, cu_i0, cu_i1⟩, hY21⟩; have s21 := hY21.size; have b_21 := below0_touch hY21 (b_20.trans (hX21.mono (by omega))); have T_21 := (T_20.trans (Touch.of_below hX21)).trans hY21; have bc_21 := cells_touch hY21 (cells_below bc_20 hX21 (by omega)) (by omega) (by first | (simp; done) | (simp; omega)); have rj_21 := own_touch' hY21 (own_below rj_20 hX21) (fun q hq => by have h1 := rj_in q hq; simp; omega); have rt_21 := own_touch' hY21 (own_below rt_20 hX21) (fun q hq => by have h1 := rt_in q hq; simp; omega); have rf_21 := own_touch' hY21 (own_below rf_20 hX21) (fun q hq => by have h1 := rf_in q hq; simp; omega); have r_21 := Blk.touch hY21 (Blk.past hX21 r_20) (by first | (simp; done) | (simp; omega)); have o_21 := Blk.touch hY21 (Blk.past hX21 o_20) (by first | (simp; done) | (simp; omega)); clear T_20 bc_20 rj_20 rt_20 rf_20 cu_20 r_20 o_20 b_20 cell_cu froz_cu lt_cu cell_r froz_r lt_r cell_o froz_o lt_o hX21 hY21; have cell_cu := cu_21.cell; have froz_cu := cu_21.frozen; have lt_cu := cu_21.lt; have cell_r := r_21.cell; have froz_r := r_21.frozen; have lt_r := r_21.lt; have cell_o := o_21.cell; have froz_o := o_21.frozen; have lt_o := o_21.lt) | (have hgd := b_21; clear hgd; go_at_call 35; refine calls_forget0 (W := w21) ?_ ?_; (focus (repeat (first | (with_reducible exact Below.refl _ _) | (with_reducible refine Below.trans ?_ (Below.mono (by assumption) (by first | omega | (simp; done) | (simp; omega) | (simp [*]; done)))) | (with_reducible refine Below.alloc ?_ (by first | omega | (simp; done) | (simp; omega) | (simp [*]; done)) _) | (with_reducible refine Below.setCell ?_ (by first | omega | (simp; done) | (simp; omega) | (simp [*]; done)) _) | (with_reducible refine Below.drew ?_) | (with_reducible refine below_drewN ?_)))); intro X22 hX22; have sX22 := hX22.size; refine (below_any 5 _ _ _ _ _ (by omega) (by omega) (show Cur _ _ _ _ _ from ⟨_, _, Blk.past hX22 cu_21, cu_i0, cu_i1⟩) ⟨cells_below bc_21 hX22 (by omega), bc_s.out, bc_l.out⟩).mono ?_; clear cu_i0 cu_i1; rintro e w22 ⟨x2, rfl, x20, x21, ⟨i_22, h_22, cu_22, cu_i0, cu_i1⟩, hY22⟩; have s22 := hY22.size; have b_22 := below0_touch hY22 (b_21.trans (hX22.mono (by omega))); have T_22 := (T_21.trans (Touch.of_below hX22)).trans hY22; have bc_22 := cells_touch hY22 (cells_below bc_21 hX22 (by omega)) (by omega) (by first | (simp; done) | (simp; omega)); have rj_22 := own_touch' hY22 (own_below rj_21 hX22) (fun q hq => by have h1 := rj_in q hq; simp; omega); have rt_22 := own_touch' hY22 (own_below rt_21 hX22) (fun q hq => by have h1 := rt_in q hq; simp; omega); have rf_22 := own_touch' hY22 (own_below rf_21 hX22) (fun q hq => by have h1 := rf_in q hq; simp; omega); have r_22 := Blk.touch hY22 (Blk.past hX22 r_21) (by first | (simp; done) | (simp; omega)); have o_22 := Blk.touch hY22 (Blk.past hX22 o_21) (by first | (simp; done) | (simp; omega)); clear T_21 bc_21 rj_21 rt_21 rf_21 cu_21 r_21 o_21 b_21 cell_cu froz_cu lt_cu cell_r froz_r lt_r cell_o froz_o lt_o hX22 hY22; have cell_cu := cu_22.cell; have froz_cu := cu_22.frozen; have lt_cu := cu_22.lt; have cell_r := r_22.cell; have froz_r := r_22.frozen; have lt_r := r_22.lt; have cell_o := o_22.cell; have froz_o := o_22.frozen; have lt_o := o_22.lt) | (have hgd := b_22; clear hgd; go_at_call 35; refine calls_forget0 (W := w22) ?_ ?_; (focus (repeat (first | (with_reducible exact Below.refl _ _) | (with_reducible refine Below.trans ?_ (Below.mono (by assumption) (by first | omega | (simp; done) | (simp; omega) | (simp [*]; done)))) | (with_reducible refine Below.alloc ?_ (by first | omega | (simp; done) | (simp; omega) | (simp [*]; done)) _) | (with_reducible refine Below.setCell ?_ (by first | omega | (simp; done) | (simp; omega) | (simp [*]; done)) _) | (with_reducible refine Below.drew ?_) | (with_reducible refine below_drewN ?_)))); intro X23 hX23; have sX23 := hX23.size; refine (below_any 5 _ _ _ _ _ (by omega) (by omega) (show Cur _ _ _ _ _ from ⟨_, _, Blk.past hX23 cu_22, cu_i0, cu_i1⟩) ⟨cells_below bc_22 hX23 (by omega), bc_s.out, bc_l.out⟩).mono ?_; clear cu_i0 cu_i1; rintro e w23 ⟨x3, rfl, x30, x31, ⟨i_23, h_23, cu_23, cu_i0, cu_i1⟩, hY23⟩; have s23 := hY23.size; have b_23 := below0_touch hY23 (b_22.trans (hX23.mono (by omega))); have T_23 := (T_22.trans (Touch.of_below hX23)).trans hY23; have bc_23 := cells_touch hY23 (cells_below bc_22 hX23 (by omega)) (by omega) (by first | (simp; done) | (simp; omega)); have rj_23 := own_touch' hY23 (own_below rj_22 hX23) (fun q hq => by have h1 := rj_in q hq; simp; omega); have rt_23 := own_touch' hY23 (own_below rt_22 hX23) (fun q hq => by have h1 := rt_in q hq; simp; omega); have rf_23 := own_touch' hY23 (own_below rf_22 hX23) (fun q hq => by have h1 := rf_in q hq; simp; omega); have r_23 := Blk.touch hY23 (Blk.past hX23 r_22) (by first | (simp; done) | (simp; omega)); have o_23 := Blk.touch hY23 (Blk.past hX23 o_22) (by first | (simp; done) | (simp; omega)); clear T_22 bc_22 rj_22 rt_22 rf_22 cu_22 r_22 o_22 b_22 cell_cu froz_cu lt_cu cell_r froz_r lt_r cell_o froz_o lt_o hX23 hY23; have cell_cu := cu_23.cell; have froz_cu := cu_23.frozen; have lt_cu := cu_23.lt; have cell_r := r_23.cell; have froz_r := r_23.frozen; have lt_r := r_23.lt; have cell_o := o_23.cell; have froz_o := o_23.frozen; have lt_o := o_23.lt) | (have hgd := b_23; clear hgd; go_at_call 30; refine calls_forget0 (W := w23) ?_ ?_; (focus (repeat (first | (with_reducible exact Below.refl _ _) | (with_reducible refine Below.trans ?_ (Below.mono (by assumption) (by first | omega | (simp; done) | (simp; omega) | (simp [*]; done)))) | (with_reducible refine Below.alloc ?_ (by first | omega | (simp; done) | (simp; omega) | (simp [*]; done)) _) | (with_reducible refine Below.setCell ?_ (by first | omega | (simp; done) | (simp; omega) | (simp [*]; done)) _) | (with_reducible refine Below.drew ?_) | (with_reducible refine below_drewN ?_)))); intro X24 hX24; have sX24 := hX24.size; refine (sSchedAddL S _ _ _ _ _ _ _ _ _ _ ⟨own_weak (own_below rj_23 hX24) (Nat.zero_le _), own_weak (own_below rt_23 hX24) (Nat.zero_le _), own_weak (own_below rf_23 hX24) (Nat.zero_le _)⟩ (by have := hok.1.2.1; omega) (by omega) (by omega)).mono ?_; rintro e w24 ⟨Nj, nj', Nt, nt', Nf, nf', rfl, nj_24, nt_24, nf_24, hb24⟩; have s24 := hb24.size; have hT24 := hX24.trans (hb24.mono sX24); have b_24 := b_23.trans (hT24.mono (by omega)); have T_24 := T_23.trans (Touch.of_below hT24); have bc_24 := cells_below bc_23 hT24 (by omega); have rj_24 := own_below rj_23 hT24; have rt_24 := own_below rt_23 hT24; have rf_24 := own_below rf_23 hT24; have cu_24 := Blk.past hT24 cu_23; have r_24 := Blk.past hT24 r_23; have o_24 := Blk.past hT24 o_23; have nj_in := own_in nj_24; have nt_in := own_in nt_24; have nf_in := own_in nf_24; clear T_23 bc_23 rj_23 rt_23 rf_23 cu_23 r_23 o_23 b_23 cell_cu froz_cu lt_cu cell_r froz_r lt_r cell_o froz_o lt_o hX24 hT24 hb24; have cell_cu := cu_24.cell; have froz_cu := cu_24.frozen; have lt_cu := cu_24.lt; have cell_r := r_24.cell; have froz_r := r_24.frozen; have lt_r := r_24.lt; have cell_o := o_24.cell; have froz_o := o_24.frozen; have lt_o := o_24.lt))
        all_goals
          go_wp2_with fail
          go_meet
          have hw : IntKind.i64.wrap (1 + x3) = 1 + x3 := IntWalk.i64_in _ (by omega)
          refine CaseS.put hp hwo _ _ _ _ _ _ _ ?_ ?_ ?_ ⟨own_weak nj_24 (by omega), own_weak nt_24 (by omega), own_weak nf_24 (by omega)⟩ r_24 o_24 ⟨_, _, cu_24, cu_i0, cu_i1⟩ T_24 ?_ ?_
          · exact okS_addR hok (by first | (rw [hw]; omega) | omega)
          · exact Nat.le_trans (lenSchedAdd S _ _ _).2.1 l1
          · exact Nat.le_trans (lenSchedAdd S _ _ _).2.2 l2
          · repeat (first | (with_reducible exact Touch.refl _ _) | (with_reducible assumption) | (with_reducible apply Touch.drew) | (with_reducible apply Touch.drewN) | (with_reducible apply Touch.alloc) | (with_reducible refine Touch.set_ ?_ _ _ (by simp; done)) | (with_reducible refine Touch.set_new ?_ _ _ (by first | omega | (simp; omega) | (dsimp only; omega))))
          · (first | ((repeat (first | (with_reducible assumption) | (with_reducible apply Blk.drew) | (with_reducible apply Blk.drewN) | (with_reducible apply Blk.new; first | rfl | (simp; done)) | (with_reducible apply Blk.alloc) | (with_reducible apply Blk.set_) | (with_reducible apply Blk.past; focus assumption) | (with_reducible apply Blk.far; focus (first | (simp; done) | (simp; omega) | (dsimp only; omega))))); done) | (apply Blk.cast; (case h => (repeat (first | (with_reducible assumption) | (with_reducible apply Blk.drew) | (with_reducible apply Blk.drewN) | (with_reducible apply Blk.new; first | rfl | (simp; done)) | (with_reducible apply Blk.alloc) | (with_reducible apply Blk.set_) | (with_reducible apply Blk.past; focus assumption) | (with_reducible apply Blk.far; focus (first | (simp; done) | (simp; omega) | (dsimp only; omega)))))); (case e => rfl)))
      case rest =>
        obtain ⟨wa30, rfl⟩ : ∃ z : World, z = wc := ⟨_, rfl⟩
        obtain ⟨S, J, cj, T, tcp, F, cf, hok, l1, l2, ⟨hj, ht, hf⟩, hr, ho, ⟨i1, h1, hcu, cu_i0, cu_i1⟩, hT⟩ := hcut
        have hsz := hT.size
        have hby := cells_touch hT HBY0.out (by omega) (by simp)
        have b_30 := (Below.refl 0 wa30)
        have s_30 := b_30.size
        have T_30 := hT
        have bc_30 := hby
        clear hby
        have rj_in := own_off hj ho (by decide)
        have rj_30 := hj
        clear hj
        have rt_in := own_off ht ho (by decide)
        have rt_30 := ht
        clear ht
        have rf_in := own_off hf ho (by decide)
        have rf_30 := hf
        clear hf
        have cu_30 := hcu
        clear hcu
        have cu_lt := cu_30.lt
        have cell_cu := cu_30.cell
        have froz_cu := cu_30.frozen
        have lt_cu := cu_30.lt
        have r_30 := hr
        clear hr
        have r_lt := r_30.lt
        have cell_r := r_30.cell
        have froz_r := r_30.frozen
        have lt_r := r_30.lt
        have o_30 := ho
        clear ho
        have o_lt := o_30.lt
        have cell_o := o_30.cell
        have froz_o := o_30.frozen
        have lt_o := o_30.lt
        go_wp2_with fail
        refine calls_forget0 (W := wa30) ?_ ?_
        (focus (repeat (first | (with_reducible exact Below.refl _ _) | (with_reducible refine Below.trans ?_ (Below.mono (by assumption) (by first | omega | (simp; done) | (simp; omega) | (simp [*]; done)))) | (with_reducible refine Below.alloc ?_ (by first | omega | (simp; done) | (simp; omega) | (simp [*]; done)) _) | (with_reducible refine Below.setCell ?_ (by first | omega | (simp; done) | (simp; omega) | (simp [*]; done)) _) | (with_reducible refine Below.drew ?_) | (with_reducible refine below_drewN ?_))))
        intro X31 hX31
        have sX31 := hX31.size
        refine (once_any 2 _ _ _ _ _ (by omega) (by omega) (show Cur _ _ _ _ _ from ⟨_, _, Blk.past hX31 cu_30, cu_i0, cu_i1⟩) ⟨cells_below bc_30 hX31 (by omega), bc_s.out, bc_l.out⟩).mono ?_
        clear cu_i0 cu_i1
        rintro e w31 ⟨b1, rfl, ⟨i_31, h_31, cu_31, cu_i0, cu_i1⟩, hY31⟩
        have s31 := hY31.size
        have b_31 := below0_touch hY31 (b_30.trans (hX31.mono (by omega)))
        have T_31 := (T_30.trans (Touch.of_below hX31)).trans hY31
        have bc_31 := cells_touch hY31 (cells_below bc_30 hX31 (by omega)) (by omega) (by first | (simp; done) | (simp; omega))
        have rj_31 := own_touch' hY31 (own_below rj_30 hX31) (fun q hq => by have h1 := rj_in q hq; simp; omega)
        have rt_31 := own_touch' hY31 (own_below rt_30 hX31) (fun q hq => by have h1 := rt_in q hq; simp; omega)
        have rf_31 := own_touch' hY31 (own_below rf_30 hX31) (fun q hq => by have h1 := rf_in q hq; simp; omega)
        have r_31 := Blk.touch hY31 (Blk.past hX31 r_30) (by first | (simp; done) | (simp; omega))
        have o_31 := Blk.touch hY31 (Blk.past hX31 o_30) (by first | (simp; done) | (simp; omega))
        clear T_30 bc_30 rj_30 rt_30 rf_30 cu_30 r_30 o_30 b_30 cell_cu froz_cu lt_cu cell_r froz_r lt_r cell_o froz_o lt_o hX31 hY31
        have cell_cu := cu_31.cell
        have froz_cu := cu_31.frozen
        have lt_cu := cu_31.lt
        have cell_r := r_31.cell
        have froz_r := r_31.frozen
        have lt_r := r_31.lt
        have cell_o := o_31.cell
        have froz_o := o_31.frozen
        have lt_o := o_31.lt
        have hC2 : CaseS w p A bs.length c w2.heap.size (5 * k) w31 := ⟨S, J, cj, T, tcp, F, cf, hok, l1, l2, ⟨rj_31, rt_31, rf_31⟩, r_31, o_31, ⟨_, _, cu_31, cu_i0, cu_i1⟩, T_31⟩
        clear bc_31 rj_31 rt_31 rf_31 r_31 o_31 cu_31 T_31 b_31 cell_cu froz_cu lt_cu cell_r froz_r lt_r cell_o froz_o lt_o cu_i0 cu_i1 rj_in rt_in rf_in l1 l2 hok
        go_upto_if 34 with fail
        go_cut [] (fun wx => CaseS w p A bs.length c w2.heap.size (5 * k + 5) wx)
        case first =>
          cases b1
          · go_wp2_with fail
            go_meet
            exact hC2.mono (by omega)
          · skip
            obtain ⟨S, J, cj, T, tcp, F, cf, hok, l1, l2, ⟨hj, ht, hf⟩, hr, ho, ⟨i1, h1, hcu, cu_i0, cu_i1⟩, hT⟩ := hC2
            have hsz := hT.size
            have hby := cells_touch hT HBY0.out (by omega) (by simp)
            have b_35 := (Below.refl 0 w31)
            have s_35 := b_35.size
            have T_35 := hT
            have bc_35 := hby
            clear hby
            have rj_in := own_off hj ho (by decide)
            have rj_35 := hj
            clear hj
            have rt_in := own_off ht ho (by decide)
            have rt_35 := ht
            clear ht
            have rf_in := own_off hf ho (by decide)
            have rf_35 := hf
            clear hf
            have cu_35 := hcu
            clear hcu
            have cu_lt := cu_35.lt
            have cell_cu := cu_35.cell
            have froz_cu := cu_35.frozen
            have lt_cu := cu_35.lt
            have r_35 := hr
            clear hr
            have r_lt := r_35.lt
            have cell_r := r_35.cell
            have froz_r := r_35.frozen
            have lt_r := r_35.lt
            have o_35 := ho
            clear ho
            have o_lt := o_35.lt
            have cell_o := o_35.cell
            have froz_o := o_35.frozen
            have lt_o := o_35.lt
            go_wp2_with fail
            go_region_with (first | (have hgd := b_35; clear hgd; go_at_call 35; refine calls_forget0 (W := w31) ?_ ?_; (focus (repeat (first | (with_reducible exact Below.refl _ _) | (with_reducible refine Below.trans ?_ (Below.mono (by assumption) (by first | omega | (simp; done) | (simp; omega) | (simp [*]; done)))) | (with_reducible refine Below.alloc ?_ (by first | omega | (simp; done) | (simp; omega) | (simp [*]; done)) _) | (with_reducible refine Below.setCell ?_ (by first | omega | (simp; done) | (simp; omega) | (simp [*]; done)) _) | (with_reducible refine Below.drew ?_) | (with_reducible refine below_drewN ?_)))); intro X36 hX36; have sX36 := hX36.size; refine (below_any 6 _ _ _ _ _ (by omega) (by omega) (show Cur _ _ _ _ _ from ⟨_, _, Blk.past hX36 cu_35, cu_i0, cu_i1⟩) ⟨cells_below bc_35 hX36 (by omega), bc_s.out, bc_l.out⟩).mono ?_; clear cu_i0 cu_i1; rintro e w36 ⟨x1, rfl, x10, x11, ⟨i_36, h_36, cu_36, cu_i0, cu_i1⟩, hY36⟩; have s36 := hY36.size; have b_36 := below0_touch hY36 (b_35.trans (hX36.mono (by omega))); have T_36 := (T_35.trans (Touch.of_below hX36)).trans hY36; have bc_36 := cells_touch hY36 (cells_below bc_35 hX36 (by omega)) (by omega) (by first | (simp; done) | (simp; omega)); have rj_36 := own_touch' hY36 (own_below rj_35 hX36) (fun q hq => by have h1 := rj_in q hq; simp; omega); have rt_36 := own_touch' hY36 (own_below rt_35 hX36) (fun q hq => by have h1 := rt_in q hq; simp; omega); have rf_36 := own_touch' hY36 (own_below rf_35 hX36) (fun q hq => by have h1 := rf_in q hq; simp; omega); have r_36 := Blk.touch hY36 (Blk.past hX36 r_35) (by first | (simp; done) | (simp; omega)); have o_36 := Blk.touch hY36 (Blk.past hX36 o_35) (by first | (simp; done) | (simp; omega)); clear T_35 bc_35 rj_35 rt_35 rf_35 cu_35 r_35 o_35 b_35 cell_cu froz_cu lt_cu cell_r froz_r lt_r cell_o froz_o lt_o hX36 hY36; have cell_cu := cu_36.cell; have froz_cu := cu_36.frozen; have lt_cu := cu_36.lt; have cell_r := r_36.cell; have froz_r := r_36.frozen; have lt_r := r_36.lt; have cell_o := o_36.cell; have froz_o := o_36.frozen; have lt_o := o_36.lt) | (have hgd := b_36; clear hgd; go_at_call 33; refine calls_forget0 (W := w36) ?_ ?_; (focus (repeat (first | (with_reducible exact Below.refl _ _) | (with_reducible refine Below.trans ?_ (Below.mono (by assumption) (by first | omega | (simp; done) | (simp; omega) | (simp [*]; done)))) | (with_reducible refine Below.alloc ?_ (by first | omega | (simp; done) | (simp; omega) | (simp [*]; done)) _) | (with_reducible refine Below.setCell ?_ (by first | omega | (simp; done) | (simp; omega) | (simp [*]; done)) _) | (with_reducible refine Below.drew ?_) | (with_reducible refine below_drewN ?_)))); intro X37 hX37; have sX37 := hX37.size; refine (sSchedRunL S x1 _ _ _ _ _ _ _ ⟨own_weak (own_below rj_36 hX37) (Nat.zero_le _), own_weak (own_below rt_36 hX37) (Nat.zero_le _), own_weak (own_below rf_36 hX37) (Nat.zero_le _)⟩ (by have := hok.1.2.1; omega) (by omega) (by omega)).mono ?_; rintro e w37 ⟨Nj, nj', Nt, nt', Nf, nf', rfl, nj_37, nt_37, nf_37, hb37⟩; have s37 := hb37.size; have hT37 := hX37.trans (hb37.mono sX37); have b_37 := b_36.trans (hT37.mono (by omega)); have T_37 := T_36.trans (Touch.of_below hT37); have bc_37 := cells_below bc_36 hT37 (by omega); have rj_37 := own_below rj_36 hT37; have rt_37 := own_below rt_36 hT37; have rf_37 := own_below rf_36 hT37; have cu_37 := Blk.past hT37 cu_36; have r_37 := Blk.past hT37 r_36; have o_37 := Blk.past hT37 o_36; have nj_in := own_in nj_37; have nt_in := own_in nt_37; have nf_in := own_in nf_37; clear T_36 bc_36 rj_36 rt_36 rf_36 cu_36 r_36 o_36 b_36 cell_cu froz_cu lt_cu cell_r froz_r lt_r cell_o froz_o lt_o hX37 hT37 hb37; have cell_cu := cu_37.cell; have froz_cu := cu_37.frozen; have lt_cu := cu_37.lt; have cell_r := r_37.cell; have froz_r := r_37.frozen; have lt_r := r_37.lt; have cell_o := o_37.cell; have froz_o := o_37.frozen; have lt_o := o_37.lt))
            all_goals
              have hl := lenRunS (runM x1) S
              have hm := runM_small x11
              go_wp2_with fail
              go_meet
              refine CaseS.put hp hwo _ _ _ _ _ _ _ (okS_run (runM x1) hok) (by omega) (by omega) ⟨own_weak nj_37 (by omega), own_weak nt_37 (by omega), own_weak nf_37 (by omega)⟩ r_37 o_37 ⟨_, _, cu_37, cu_i0, cu_i1⟩ T_37 ?_ ?_
              · repeat (first | (with_reducible exact Touch.refl _ _) | (with_reducible assumption) | (with_reducible apply Touch.drew) | (with_reducible apply Touch.drewN) | (with_reducible apply Touch.alloc) | (with_reducible refine Touch.set_ ?_ _ _ (by simp; done)) | (with_reducible refine Touch.set_new ?_ _ _ (by first | omega | (simp; omega) | (dsimp only; omega))))
              · (first | ((repeat (first | (with_reducible assumption) | (with_reducible apply Blk.drew) | (with_reducible apply Blk.drewN) | (with_reducible apply Blk.new; first | rfl | (simp; done)) | (with_reducible apply Blk.alloc) | (with_reducible apply Blk.set_) | (with_reducible apply Blk.past; focus assumption) | (with_reducible apply Blk.far; focus (first | (simp; done) | (simp; omega) | (dsimp only; omega))))); done) | (apply Blk.cast; (case h => (repeat (first | (with_reducible assumption) | (with_reducible apply Blk.drew) | (with_reducible apply Blk.drewN) | (with_reducible apply Blk.new; first | rfl | (simp; done)) | (with_reducible apply Blk.alloc) | (with_reducible apply Blk.set_) | (with_reducible apply Blk.past; focus assumption) | (with_reducible apply Blk.far; focus (first | (simp; done) | (simp; omega) | (dsimp only; omega)))))); (case e => rfl)))
        case rest =>
          obtain ⟨wa40, rfl⟩ : ∃ z : World, z = wc := ⟨_, rfl⟩
          obtain ⟨S, J, cj, T, tcp, F, cf, hok, l1, l2, ⟨hj, ht, hf⟩, hr, ho, ⟨i1, h1, hcu, cu_i0, cu_i1⟩, hT⟩ := hcut
          have hsz := hT.size
          have hby := cells_touch hT HBY0.out (by omega) (by simp)
          have b_40 := (Below.refl 0 wa40)
          have s_40 := b_40.size
          have T_40 := hT
          have bc_40 := hby
          clear hby
          have rj_in := own_off hj ho (by decide)
          have rj_40 := hj
          clear hj
          have rt_in := own_off ht ho (by decide)
          have rt_40 := ht
          clear ht
          have rf_in := own_off hf ho (by decide)
          have rf_40 := hf
          clear hf
          have cu_40 := hcu
          clear hcu
          have cu_lt := cu_40.lt
          have cell_cu := cu_40.cell
          have froz_cu := cu_40.frozen
          have lt_cu := cu_40.lt
          have r_40 := hr
          clear hr
          have r_lt := r_40.lt
          have cell_r := r_40.cell
          have froz_r := r_40.frozen
          have lt_r := r_40.lt
          have o_40 := ho
          clear ho
          have o_lt := o_40.lt
          have cell_o := o_40.cell
          have froz_o := o_40.frozen
          have lt_o := o_40.lt
          go_wp2_with fail
          refine calls_forget0 (W := wa40) ?_ ?_
          (focus (repeat (first | (with_reducible exact Below.refl _ _) | (with_reducible refine Below.trans ?_ (Below.mono (by assumption) (by first | omega | (simp; done) | (simp; omega) | (simp [*]; done)))) | (with_reducible refine Below.alloc ?_ (by first | omega | (simp; done) | (simp; omega) | (simp [*]; done)) _) | (with_reducible refine Below.setCell ?_ (by first | omega | (simp; done) | (simp; omega) | (simp [*]; done)) _) | (with_reducible refine Below.drew ?_) | (with_reducible refine below_drewN ?_))))
          intro X41 hX41
          have sX41 := hX41.size
          refine (once_any 5 _ _ _ _ _ (by omega) (by omega) (show Cur _ _ _ _ _ from ⟨_, _, Blk.past hX41 cu_40, cu_i0, cu_i1⟩) ⟨cells_below bc_40 hX41 (by omega), bc_s.out, bc_l.out⟩).mono ?_
          clear cu_i0 cu_i1
          rintro e w41 ⟨b1, rfl, ⟨i_41, h_41, cu_41, cu_i0, cu_i1⟩, hY41⟩
          have s41 := hY41.size
          have b_41 := below0_touch hY41 (b_40.trans (hX41.mono (by omega)))
          have T_41 := (T_40.trans (Touch.of_below hX41)).trans hY41
          have bc_41 := cells_touch hY41 (cells_below bc_40 hX41 (by omega)) (by omega) (by first | (simp; done) | (simp; omega))
          have rj_41 := own_touch' hY41 (own_below rj_40 hX41) (fun q hq => by have h1 := rj_in q hq; simp; omega)
          have rt_41 := own_touch' hY41 (own_below rt_40 hX41) (fun q hq => by have h1 := rt_in q hq; simp; omega)
          have rf_41 := own_touch' hY41 (own_below rf_40 hX41) (fun q hq => by have h1 := rf_in q hq; simp; omega)
          have r_41 := Blk.touch hY41 (Blk.past hX41 r_40) (by first | (simp; done) | (simp; omega))
          have o_41 := Blk.touch hY41 (Blk.past hX41 o_40) (by first | (simp; done) | (simp; omega))
          clear T_40 bc_40 rj_40 rt_40 rf_40 cu_40 r_40 o_40 b_40 cell_cu froz_cu lt_cu cell_r froz_r lt_r cell_o froz_o lt_o hX41 hY41
          have cell_cu := cu_41.cell
          have froz_cu := cu_41.frozen
          have lt_cu := cu_41.lt
          have cell_r := r_41.cell
          have froz_r := r_41.frozen
          have lt_r := r_41.lt
          have cell_o := o_41.cell
          have froz_o := o_41.frozen
          have lt_o := o_41.lt
          have hC3 : CaseS w p A bs.length c w2.heap.size (5 * k + 5) w41 := ⟨S, J, cj, T, tcp, F, cf, hok, l1, l2, ⟨rj_41, rt_41, rf_41⟩, r_41, o_41, ⟨_, _, cu_41, cu_i0, cu_i1⟩, T_41⟩
          clear bc_41 rj_41 rt_41 rf_41 r_41 o_41 cu_41 T_41 b_41 cell_cu froz_cu lt_cu cell_r froz_r lt_r cell_o froz_o lt_o cu_i0 cu_i1 rj_in rt_in rf_in l1 l2 hok
          go_upto_if 43 with fail
          go_cut [] (fun wx => CaseS w p A bs.length c w2.heap.size (5 * k + 5) wx)
          case first =>
            cases b1
            · go_wp2_with fail
              go_meet
              exact hC3.mono (by omega)
            · skip
              obtain ⟨S, J, cj, T, tcp, F, cf, hok, l1, l2, ⟨hj, ht, hf⟩, hr, ho, ⟨i1, h1, hcu, cu_i0, cu_i1⟩, hT⟩ := hC3
              have hsz := hT.size
              have hby := cells_touch hT HBY0.out (by omega) (by simp)
              have b_45 := (Below.refl 0 w41)
              have s_45 := b_45.size
              have T_45 := hT
              have bc_45 := hby
              clear hby
              have rj_in := own_off hj ho (by decide)
              have rj_45 := hj
              clear hj
              have rt_in := own_off ht ho (by decide)
              have rt_45 := ht
              clear ht
              have rf_in := own_off hf ho (by decide)
              have rf_45 := hf
              clear hf
              have cu_45 := hcu
              clear hcu
              have cu_lt := cu_45.lt
              have cell_cu := cu_45.cell
              have froz_cu := cu_45.frozen
              have lt_cu := cu_45.lt
              have r_45 := hr
              clear hr
              have r_lt := r_45.lt
              have cell_r := r_45.cell
              have froz_r := r_45.frozen
              have lt_r := r_45.lt
              have o_45 := ho
              clear ho
              have o_lt := o_45.lt
              have cell_o := o_45.cell
              have froz_o := o_45.frozen
              have lt_o := o_45.lt
              go_wp2_with fail
              go_region_with (first | (have hgd := b_45; clear hgd; go_at_call 35; refine calls_forget0 (W := w41) ?_ ?_; (focus (repeat (first | (with_reducible exact Below.refl _ _) | (with_reducible refine Below.trans ?_ (Below.mono (by assumption) (by first | omega | (simp; done) | (simp; omega) | (simp [*]; done)))) | (with_reducible refine Below.alloc ?_ (by first | omega | (simp; done) | (simp; omega) | (simp [*]; done)) _) | (with_reducible refine Below.setCell ?_ (by first | omega | (simp; done) | (simp; omega) | (simp [*]; done)) _) | (with_reducible refine Below.drew ?_) | (with_reducible refine below_drewN ?_)))); intro X46 hX46; have sX46 := hX46.size; refine (below_any 9 _ _ _ _ _ (by omega) (by omega) (show Cur _ _ _ _ _ from ⟨_, _, Blk.past hX46 cu_45, cu_i0, cu_i1⟩) ⟨cells_below bc_45 hX46 (by omega), bc_s.out, bc_l.out⟩).mono ?_; clear cu_i0 cu_i1; rintro e w46 ⟨x1, rfl, x10, x11, ⟨i_46, h_46, cu_46, cu_i0, cu_i1⟩, hY46⟩; have s46 := hY46.size; have b_46 := below0_touch hY46 (b_45.trans (hX46.mono (by omega))); have T_46 := (T_45.trans (Touch.of_below hX46)).trans hY46; have bc_46 := cells_touch hY46 (cells_below bc_45 hX46 (by omega)) (by omega) (by first | (simp; done) | (simp; omega)); have rj_46 := own_touch' hY46 (own_below rj_45 hX46) (fun q hq => by have h1 := rj_in q hq; simp; omega); have rt_46 := own_touch' hY46 (own_below rt_45 hX46) (fun q hq => by have h1 := rt_in q hq; simp; omega); have rf_46 := own_touch' hY46 (own_below rf_45 hX46) (fun q hq => by have h1 := rf_in q hq; simp; omega); have r_46 := Blk.touch hY46 (Blk.past hX46 r_45) (by first | (simp; done) | (simp; omega)); have o_46 := Blk.touch hY46 (Blk.past hX46 o_45) (by first | (simp; done) | (simp; omega)); clear T_45 bc_45 rj_45 rt_45 rf_45 cu_45 r_45 o_45 b_45 cell_cu froz_cu lt_cu cell_r froz_r lt_r cell_o froz_o lt_o hX46 hY46; have cell_cu := cu_46.cell; have froz_cu := cu_46.frozen; have lt_cu := cu_46.lt; have cell_r := r_46.cell; have froz_r := r_46.frozen; have lt_r := r_46.lt; have cell_o := o_46.cell; have froz_o := o_46.frozen; have lt_o := o_46.lt) | (have hgd := b_46; clear hgd; go_at_call 76; refine calls_forget0 (W := w46) ?_ ?_; (focus (repeat (first | (with_reducible exact Below.refl _ _) | (with_reducible refine Below.trans ?_ (Below.mono (by assumption) (by first | omega | (simp; done) | (simp; omega) | (simp [*]; done)))) | (with_reducible refine Below.alloc ?_ (by first | omega | (simp; done) | (simp; omega) | (simp [*]; done)) _) | (with_reducible refine Below.setCell ?_ (by first | omega | (simp; done) | (simp; omega) | (simp [*]; done)) _) | (with_reducible refine Below.drew ?_) | (with_reducible refine below_drewN ?_)))); intro X47 hX47; have sX47 := hX47.size; refine (sPoolReserve S.z S.n S.b _ _).mono ?_; rintro e w47 ⟨rfl, hb47⟩; have s47 := hb47.size; have hT47 := hX47.trans (hb47.mono sX47); have b_47 := b_46.trans (hT47.mono (by omega)); have T_47 := T_46.trans (Touch.of_below hT47); have bc_47 := cells_below bc_46 hT47 (by omega); have rj_47 := own_below rj_46 hT47; have rt_47 := own_below rt_46 hT47; have rf_47 := own_below rf_46 hT47; have cu_47 := Blk.past hT47 cu_46; have r_47 := Blk.past hT47 r_46; have o_47 := Blk.past hT47 o_46; clear T_46 bc_46 rj_46 rt_46 rf_46 cu_46 r_46 o_46 b_46 cell_cu froz_cu lt_cu cell_r froz_r lt_r cell_o froz_o lt_o hX47 hT47 hb47; have cell_cu := cu_47.cell; have froz_cu := cu_47.frozen; have lt_cu := cu_47.lt; have cell_r := r_47.cell; have froz_r := r_47.frozen; have lt_r := r_47.lt; have cell_o := o_47.cell; have froz_o := o_47.frozen; have lt_o := o_47.lt))
              all_goals
                go_wp2_with fail
                go_meet
                refine CaseS.put hp hwo _ _ _ _ _ _ _ (okS_pick hok (IntKind.i64.wrap (1 + x1))) l1 l2 ⟨rj_47, rt_47, rf_47⟩ r_47 o_47 ⟨_, _, cu_47, cu_i0, cu_i1⟩ T_47 ?_ ?_
                · repeat (first | (with_reducible exact Touch.refl _ _) | (with_reducible assumption) | (with_reducible apply Touch.drew) | (with_reducible apply Touch.drewN) | (with_reducible apply Touch.alloc) | (with_reducible refine Touch.set_ ?_ _ _ (by simp; done)) | (with_reducible refine Touch.set_new ?_ _ _ (by first | omega | (simp; omega) | (dsimp only; omega))))
                · (first | ((repeat (first | (with_reducible assumption) | (with_reducible apply Blk.drew) | (with_reducible apply Blk.drewN) | (with_reducible apply Blk.new; first | rfl | (simp; done)) | (with_reducible apply Blk.alloc) | (with_reducible apply Blk.set_) | (with_reducible apply Blk.past; focus assumption) | (with_reducible apply Blk.far; focus (first | (simp; done) | (simp; omega) | (dsimp only; omega))))); done) | (apply Blk.cast; (case h => (repeat (first | (with_reducible assumption) | (with_reducible apply Blk.drew) | (with_reducible apply Blk.drewN) | (with_reducible apply Blk.new; first | rfl | (simp; done)) | (with_reducible apply Blk.alloc) | (with_reducible apply Blk.set_) | (with_reducible apply Blk.past; focus assumption) | (with_reducible apply Blk.far; focus (first | (simp; done) | (simp; omega) | (dsimp only; omega)))))); (case e => rfl)))
          case rest =>
            obtain ⟨wa50, rfl⟩ : ∃ z : World, z = wc := ⟨_, rfl⟩
            obtain ⟨S, J, cj, T, tcp, F, cf, hok, l1, l2, ⟨hj, ht, hf⟩, hr, ho, ⟨i1, h1, hcu, cu_i0, cu_i1⟩, hT⟩ := hcut
            have hsz := hT.size
            have hby := cells_touch hT HBY0.out (by omega) (by simp)
            have b_50 := (Below.refl 0 wa50)
            have s_50 := b_50.size
            have T_50 := hT
            have bc_50 := hby
            clear hby
            have rj_in := own_off hj ho (by decide)
            have rj_50 := hj
            clear hj
            have rt_in := own_off ht ho (by decide)
            have rt_50 := ht
            clear ht
            have rf_in := own_off hf ho (by decide)
            have rf_50 := hf
            clear hf
            have cu_50 := hcu
            clear hcu
            have cu_lt := cu_50.lt
            have cell_cu := cu_50.cell
            have froz_cu := cu_50.frozen
            have lt_cu := cu_50.lt
            have r_50 := hr
            clear hr
            have r_lt := r_50.lt
            have cell_r := r_50.cell
            have froz_r := r_50.frozen
            have lt_r := r_50.lt
            have o_50 := ho
            clear ho
            have o_lt := o_50.lt
            have cell_o := o_50.cell
            have froz_o := o_50.frozen
            have lt_o := o_50.lt
            go_wp2_with fail
            refine calls_forget0 (W := wa50) ?_ ?_
            (focus (repeat (first | (with_reducible exact Below.refl _ _) | (with_reducible refine Below.trans ?_ (Below.mono (by assumption) (by first | omega | (simp; done) | (simp; omega) | (simp [*]; done)))) | (with_reducible refine Below.alloc ?_ (by first | omega | (simp; done) | (simp; omega) | (simp [*]; done)) _) | (with_reducible refine Below.setCell ?_ (by first | omega | (simp; done) | (simp; omega) | (simp [*]; done)) _) | (with_reducible refine Below.drew ?_) | (with_reducible refine below_drewN ?_))))
            intro X51 hX51
            have sX51 := hX51.size
            refine (once_any 8 _ _ _ _ _ (by omega) (by omega) (show Cur _ _ _ _ _ from ⟨_, _, Blk.past hX51 cu_50, cu_i0, cu_i1⟩) ⟨cells_below bc_50 hX51 (by omega), bc_s.out, bc_l.out⟩).mono ?_
            clear cu_i0 cu_i1
            rintro e w51 ⟨b1, rfl, ⟨i_51, h_51, cu_51, cu_i0, cu_i1⟩, hY51⟩
            have s51 := hY51.size
            have b_51 := below0_touch hY51 (b_50.trans (hX51.mono (by omega)))
            have T_51 := (T_50.trans (Touch.of_below hX51)).trans hY51
            have bc_51 := cells_touch hY51 (cells_below bc_50 hX51 (by omega)) (by omega) (by first | (simp; done) | (simp; omega))
            have rj_51 := own_touch' hY51 (own_below rj_50 hX51) (fun q hq => by have h1 := rj_in q hq; simp; omega)
            have rt_51 := own_touch' hY51 (own_below rt_50 hX51) (fun q hq => by have h1 := rt_in q hq; simp; omega)
            have rf_51 := own_touch' hY51 (own_below rf_50 hX51) (fun q hq => by have h1 := rf_in q hq; simp; omega)
            have r_51 := Blk.touch hY51 (Blk.past hX51 r_50) (by first | (simp; done) | (simp; omega))
            have o_51 := Blk.touch hY51 (Blk.past hX51 o_50) (by first | (simp; done) | (simp; omega))
            clear T_50 bc_50 rj_50 rt_50 rf_50 cu_50 r_50 o_50 b_50 cell_cu froz_cu lt_cu cell_r froz_r lt_r cell_o froz_o lt_o hX51 hY51
            have cell_cu := cu_51.cell
            have froz_cu := cu_51.frozen
            have lt_cu := cu_51.lt
            have cell_r := r_51.cell
            have froz_r := r_51.frozen
            have lt_r := r_51.lt
            have cell_o := o_51.cell
            have froz_o := o_51.frozen
            have lt_o := o_51.lt
            have hC4 : CaseS w p A bs.length c w2.heap.size (5 * k + 5) w51 := ⟨S, J, cj, T, tcp, F, cf, hok, l1, l2, ⟨rj_51, rt_51, rf_51⟩, r_51, o_51, ⟨_, _, cu_51, cu_i0, cu_i1⟩, T_51⟩
            clear bc_51 rj_51 rt_51 rf_51 r_51 o_51 cu_51 T_51 b_51 cell_cu froz_cu lt_cu cell_r froz_r lt_r cell_o froz_o lt_o cu_i0 cu_i1 rj_in rt_in rf_in l1 l2 hok
            cases b1
            · go_wp2_with fail
              go_roundw
              case rel => exact ⟨k + 1, by omega, by go_num, hC4.mono (by omega)⟩
              case measure => simp [intOf]; omega
            · skip
              obtain ⟨S, J, cj, T, tcp, F, cf, hok, l1, l2, ⟨hj, ht, hf⟩, hr, ho, ⟨i1, h1, hcu, cu_i0, cu_i1⟩, hT⟩ := hC4
              have hsz := hT.size
              have hby := cells_touch hT HBY0.out (by omega) (by simp)
              have b_55 := (Below.refl 0 w51)
              have s_55 := b_55.size
              have T_55 := hT
              have bc_55 := hby
              clear hby
              have rj_in := own_off hj ho (by decide)
              have rj_55 := hj
              clear hj
              have rt_in := own_off ht ho (by decide)
              have rt_55 := ht
              clear ht
              have rf_in := own_off hf ho (by decide)
              have rf_55 := hf
              clear hf
              have cu_55 := hcu
              clear hcu
              have cu_lt := cu_55.lt
              have cell_cu := cu_55.cell
              have froz_cu := cu_55.frozen
              have lt_cu := cu_55.lt
              have r_55 := hr
              clear hr
              have r_lt := r_55.lt
              have cell_r := r_55.cell
              have froz_r := r_55.frozen
              have lt_r := r_55.lt
              have o_55 := ho
              clear ho
              have o_lt := o_55.lt
              have cell_o := o_55.cell
              have froz_o := o_55.frozen
              have lt_o := o_55.lt
              go_wp2_with fail
              refine calls_forget0 (W := w51) ?_ ?_
              (focus (repeat (first | (with_reducible exact Below.refl _ _) | (with_reducible refine Below.trans ?_ (Below.mono (by assumption) (by first | omega | (simp; done) | (simp; omega) | (simp [*]; done)))) | (with_reducible refine Below.alloc ?_ (by first | omega | (simp; done) | (simp; omega) | (simp [*]; done)) _) | (with_reducible refine Below.setCell ?_ (by first | omega | (simp; done) | (simp; omega) | (simp [*]; done)) _) | (with_reducible refine Below.drew ?_) | (with_reducible refine below_drewN ?_))))
              intro X56 hX56
              have sX56 := hX56.size
              refine (sSchedCrashL S _ _ _ _ _ _ _ ⟨own_weak (own_below rj_55 hX56) (Nat.zero_le _), own_weak (own_below rt_55 hX56) (Nat.zero_le _), own_weak (own_below rf_55 hX56) (Nat.zero_le _)⟩ (by have := hok.1.2.1; omega) (by omega) (by omega)).mono ?_
              rintro e w56 ⟨Nj, nj', Nt, nt', Nf, nf', rfl, nj_56, nt_56, nf_56, hb56⟩
              have s56 := hb56.size
              have hT56 := hX56.trans (hb56.mono sX56)
              have b_56 := b_55.trans (hT56.mono (by omega))
              have T_56 := T_55.trans (Touch.of_below hT56)
              have bc_56 := cells_below bc_55 hT56 (by omega)
              have rj_56 := own_below rj_55 hT56
              have rt_56 := own_below rt_55 hT56
              have rf_56 := own_below rf_55 hT56
              have cu_56 := Blk.past hT56 cu_55
              have r_56 := Blk.past hT56 r_55
              have o_56 := Blk.past hT56 o_55
              have nj_in := own_in nj_56
              have nt_in := own_in nt_56
              have nf_in := own_in nf_56
              clear T_55 bc_55 rj_55 rt_55 rf_55 cu_55 r_55 o_55 b_55 cell_cu froz_cu lt_cu cell_r froz_r lt_r cell_o froz_o lt_o hX56 hT56 hb56
              have cell_cu := cu_56.cell
              have froz_cu := cu_56.frozen
              have lt_cu := cu_56.lt
              have cell_r := r_56.cell
              have froz_r := r_56.frozen
              have lt_r := r_56.lt
              have cell_o := o_56.cell
              have froz_o := o_56.frozen
              have lt_o := o_56.lt
              go_wp2_with fail
              go_roundw
              case measure => (simp [intOf]; omega)
              case rel =>
              refine ⟨k + 1, by omega, by go_num, CaseS.mono (m := 5 * k + 5) ?_ (by omega)⟩
              refine CaseS.put hp hwo _ _ _ _ _ _ _ (okS_crash hok) (Nat.le_trans (lenSchedCrash S).2.1 l1) (Nat.le_trans (lenSchedCrash S).2.2 l2) ⟨own_weak nj_56 (by omega), own_weak nt_56 (by omega), own_weak nf_56 (by omega)⟩ r_56 o_56 ⟨_, _, cu_56, cu_i0, cu_i1⟩ T_56 ?_ ?_
              · repeat (first | (with_reducible exact Touch.refl _ _) | (with_reducible assumption) | (with_reducible apply Touch.drew) | (with_reducible apply Touch.drewN) | (with_reducible apply Touch.alloc) | (with_reducible refine Touch.set_ ?_ _ _ (by simp; done)) | (with_reducible refine Touch.set_new ?_ _ _ (by first | omega | (simp; omega) | (dsimp only; omega))))
              · (first | ((repeat (first | (with_reducible assumption) | (with_reducible apply Blk.drew) | (with_reducible apply Blk.drewN) | (with_reducible apply Blk.new; first | rfl | (simp; done)) | (with_reducible apply Blk.alloc) | (with_reducible apply Blk.set_) | (with_reducible apply Blk.past; focus assumption) | (with_reducible apply Blk.far; focus (first | (simp; done) | (simp; omega) | (dsimp only; omega))))); done) | (apply Blk.cast; (case h => (repeat (first | (with_reducible assumption) | (with_reducible apply Blk.drew) | (with_reducible apply Blk.drewN) | (with_reducible apply Blk.new; first | rfl | (simp; done)) | (with_reducible apply Blk.alloc) | (with_reducible apply Blk.set_) | (with_reducible apply Blk.past; focus assumption) | (with_reducible apply Blk.far; focus (first | (simp; done) | (simp; omega) | (dsimp only; omega)))))); (case e => rfl)))
    · skip
      obtain ⟨S, J, cj, T, tcp, F, cf, hok, l1, l2, ⟨hj, ht, hf⟩, hr, ho, ⟨i1, h1, hcu, cu_i0, cu_i1⟩, hT⟩ := hC1
      have hsz := hT.size
      have hby := cells_touch hT HBY0.out (by omega) (by simp)
      have b_60 := (Below.refl 0 w11)
      have s_60 := b_60.size
      have T_60 := hT
      have bc_60 := hby
      clear hby
      have rj_in := own_off hj ho (by decide)
      have rj_60 := hj
      clear hj
      have rt_in := own_off ht ho (by decide)
      have rt_60 := ht
      clear ht
      have rf_in := own_off hf ho (by decide)
      have rf_60 := hf
      clear hf
      have cu_60 := hcu
      clear hcu
      have cu_lt := cu_60.lt
      have cell_cu := cu_60.cell
      have froz_cu := cu_60.frozen
      have lt_cu := cu_60.lt
      have r_60 := hr
      clear hr
      have r_lt := r_60.lt
      have cell_r := r_60.cell
      have froz_r := r_60.frozen
      have lt_r := r_60.lt
      have o_60 := ho
      clear ho
      have o_lt := o_60.lt
      have cell_o := o_60.cell
      have froz_o := o_60.frozen
      have lt_o := o_60.lt
      go_wp2_with fail
      ((try simp only [Exit.inBlock, Exit.then]); apply bodyPost_ret0; focus ((try simp only [results, Try.results61]); (try go_simp); (try rfl)))
      refine ⟨S, J, cj, T, tcp, F, cf, rfl, hok, by omega, by omega, CaseS.fin S _ _ _ _ _ _ ⟨rj_60, rt_60, rf_60⟩ r_60 T_60 ?_⟩
      repeat (first | (with_reducible exact Touch.refl _ _) | (with_reducible assumption) | (with_reducible apply Touch.drew) | (with_reducible apply Touch.drewN) | (with_reducible apply Touch.alloc) | (with_reducible refine Touch.set_ ?_ _ _ (by simp; done)) | (with_reducible refine Touch.set_new ?_ _ _ (by first | omega | (simp; omega) | (dsimp only; omega))))
end Go.Proofs.Ytipnhlnbokkihaa
