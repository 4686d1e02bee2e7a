/- The reference's draws of programs, inputs and tapes. Only what the laws need of them is kept. -/
import Derived.Test.YtonanjcojfjbdaaDrawB
import Derived.Test.YtonanjcojfjbdaaLab
namespace Go.Proofs.Ytonanjcojfjbdaa
open Go.RowKit

theorem Touch.trans_new {L M : List Nat} {w w1 w2 : World} (h1 : Touch L w w1) (h2 : Touch M w1 w2) (hM : ∀ i ∈ M, w.heap.size ≤ i) : Touch L w w2 :=
  ⟨h2.os.trans h1.os, h2.tape.trans h1.tape, h2.output.trans h1.output, Nat.le_trans h1.size h2.size, fun i hi hn => (h2.block i (Nat.lt_of_lt_of_le hi h1.size) (fun hm => by have := hM i hm; omega)).trans (h1.block i hi hn)⟩
theorem below0_touch {L : List Nat} {w0 w w' : World} (h : Touch L w w') (h0 : Below 0 w0 w) : Below 0 w0 w' :=
  ⟨h.os.trans h0.os, h.tape.trans h0.tape, h.output.trans h0.output, Nat.le_trans h0.size h.size, fun i hi => absurd hi (Nat.not_lt_zero i)⟩
theorem Touch.of_below {L : List Nat} {w w' : World} (h : Below w.heap.size w w') : Touch L w w' := ⟨h.os, h.tape, h.output, h.size, fun i hi _ => h.block i hi⟩
theorem Touch.trans_b {L : List Nat} {w w1 w2 : World} (h : Touch L w w1) (hb : Below w.heap.size w1 w2) : Touch L w w2 :=
  ⟨hb.os.trans h.os, hb.tape.trans h.tape, hb.output.trans h.output, Nat.le_trans h.size hb.size, fun i hi hn => (hb.block i hi).trans (h.block i hi hn)⟩
theorem Touch.grown {L : List Nat} {w w1 w2 : World} {row : Option Nat} (h : Touch L w w1) (hg : w1.grownBy w2 row) (hlo : ∀ q, row = some q → w.heap.size ≤ q) : Touch L w w2 :=
  h.trans_b (gr_below hg (Below.refl _ _) h.size hlo)
theorem Bytes.touch' {L : List Nat} {w w' : World} {p : Nat} {A : Option Addr} {bs : List Int} (h : Bytes w p A bs) (hT : Touch L w w') (hp : p ≤ w.heap.size) (hL : ∀ i ∈ L, p ≤ i) : Bytes w' p A bs := ⟨cells_touch hT h.cells hp hL, h.small, h.len⟩

set_option maxRecDepth 100000 in
set_option maxHeartbeats 800000 in
theorem list_any (P : Int) (n p : Nat) (A : Option Addr) (c : Nat) (bs : List Int) (w : World) (hP : 1 ≤ P) (hP2 : P ≤ 1000) (hn : n ≤ 1000) (hc : Cur w p A bs.length c) (hb : Bytes w p A bs) :
    Calls Try.prog 56 #[.pointer (some ⟨p, 0, none⟩), .int .i64 P, .int .i64 n] w fun e w' => ∃ (xs : List Int) (A' : Option Addr) (c' : Nat), (xs.length = n ∧ ∀ x ∈ xs, 0 ≤ x ∧ x < P) ∧ e = .returned (.slice A' n c') ∧
      w'.ownsRow w.heap.size 3 1 (.slice A' n c') n (ints xs) ∧ Cur w' p A bs.length c ∧ Touch [p] w w' := by
  have HB := hid hb
  have HC := hid hc
  have hp := hc.lt
  clear hb hc
  go_enter Try.func56, Try.ntmps56
  go_wp2_with fail
  go_loopw [7, 8] (fun o i wr => ∃ (k : Nat) (xs : List Int) (A' : Option Addr) (c' : Nat), k ≤ n ∧ i = .int .i64 k ∧ xs.length = k ∧ o = .slice A' k c' ∧ (∀ x ∈ xs, 0 ≤ x ∧ x < P) ∧
    wr.ownsRow w.heap.size 3 1 (.slice A' k c') k (ints xs) ∧ Cur wr p A bs.length c ∧ Touch [p] w wr) (fun _ i _ => n - (intOf i).toNat)
  case atStart => exact ⟨0, [], some ⟨w.heap.size, 0, none⟩, 0, Nat.zero_le _, rfl, rfl, rfl, by simp, own_lit (size := 1) #[] 0 rfl (Nat.le_refl _) (Nat.zero_le _) rfl, HC.out.alloc _, (Touch.refl _ _).alloc _⟩
  case round =>
    obtain ⟨k, xs, A', c', hk, rfl, hlen, rfl, hsm, hown, hcu, htw⟩ := hrel
    have zw := htw.size
    have HL := hid hlen
    have HS := hid hsm
    have HO := hid hown
    have HU := hid hcu
    have HD := hid htw
    clear hlen hsm hown hcu htw
    by_cases hlt : k < n
    · have hlt' : (k : Int) < (n : Int) := by omega
      go_wp2_with fail
      refine (below_any _ _ _ _ _ _ (by omega) (by omega) HU.out (HB.out.touch HD.out (by omega))).mono ?_
      rintro e w2 ⟨r, rfl, hr0, hr1, hc2, hT⟩
      have z2 := hT.size
      have ho2 := own_touch' hT HO.out (fun q hq => by have h1 := own_in HO.out q hq; simp; omega)
      have HO2 := hid ho2
      have HU2 := hid hc2
      have HD2 := hid (HD.out.trans hT)
      clear hc2 hT ho2
      go_wp2_with (at_builtin; refine wpList_appi rfl _ _ 24 rfl w.heap.size 3 (.int .i64 0) 1 8 Try.underlying24 infoInt rfl (by decide) _ k _ rfl (HO2.out.alloc _) ⟨w2.heap.size, 0, none⟩ 1 1 _ rfl rfl (one_new _ _ _) (one_one _) (by omega) (by decide) (by simp; omega) ?_)
      intro A3 c3 w3 ho3 hg3 li3
      have hg := grown_alloc hg3
      have z3 := hg.size
      have hlo : ∀ q, (Value.slice A' k c').ownBlock = some q → w.heap.size ≤ q := fun q hq => (own_in HO2.out q hq).1
      have hc3 := HU2.out.grown hg (fun q hq => by have h1 := hlo q hq; omega)
      have ht3 := HD2.out.grown hg hlo
      rw [← ints_snoc] at ho3
      have HO3 := hid ho3
      have HU3 := hid hc3
      have HD3 := hid ht3
      clear hg hg3 li3 hlo ho3 hc3 ht3
      go_wp2
      go_roundw
      case rel => exact ⟨k + 1, xs ++ [r], A3, c3, by omega, by go_num, by rw [List.length_append, HL.out]; rfl, rfl, mem_snoc HS.out ⟨hr0, hr1⟩, HO3.out, HU3.out, HD3.out⟩
      case measure => simp [intOf]; omega
    · obtain rfl : k = n := by omega
      go_wp2
      go_ret
      exact ⟨xs, A', c', ⟨HL.out, HS.out⟩, rfl, HO.out, HU.out, HD.out⟩
set_option maxRecDepth 100000 in
set_option maxHeartbeats 800000 in
theorem tape_any (p : Nat) (A : Option Addr) (c : Nat) (bs : List Int) (w : World) (hc : Cur w p A bs.length c) (hb : Bytes w p A bs) :
    Calls Try.prog 43 #[.pointer (some ⟨p, 0, none⟩)] w fun e w' => ∃ (s a : Int), e = .returned (.agg #[.int .i64 s, .int .i64 a]) ∧ (tapeOkB s a = true ∧ a ≤ 50) ∧ Cur w' p A bs.length c ∧ Touch [p] w w' := by
  obtain ⟨i0, h0, hcu, cu_i0, cu_i1⟩ := hc
  have hp := hcu.lt
  have bc_s := hid hb.small
  have bc_l := hid hb.len
  have HBY := hb.cells
  clear hb
  go_enter Try.func43, Try.ntmps43
  have b_0 := (Below.refl 0 w)
  have s_0 := b_0.size
  have T_0 := Touch.refl [p] w
  have bc_0 := HBY
  clear HBY
  have cu_0 := hcu
  clear hcu
  have cu_lt := cu_0.lt
  have cell_cu := cu_0.cell
  have froz_cu := cu_0.frozen
  have lt_cu := cu_0.lt
  go_wp2_with fail
  refine calls_forget1 (W := w) (b0 := w.heap.size) (t0 := 27) (c0 := #[.int .i64 0, .int .i64 0]) ?_ ?_ ?_
  (focus (first | ((repeat (first | (with_reducible assumption) | (with_reducible apply Blk.drew) | (with_reducible apply Blk.drewN) | (with_reducible apply Blk.new; first | rfl | (simp; done)) | (with_reducible apply Blk.alloc) | (with_reducible apply Blk.set_) | (with_reducible apply Blk.past; focus assumption) | (with_reducible apply Blk.far; focus (first | (simp; done) | (simp; omega) | (dsimp only; omega))))); done) | (apply Blk.cast; (case h => (repeat (first | (with_reducible assumption) | (with_reducible apply Blk.drew) | (with_reducible apply Blk.drewN) | (with_reducible apply Blk.new; first | rfl | (simp; done)) | (with_reducible apply Blk.alloc) | (with_reducible apply Blk.set_) | (with_reducible apply Blk.past; focus assumption) | (with_reducible apply Blk.far; focus (first | (simp; done) | (simp; omega) | (dsimp only; omega)))))); (case e => rfl))))
  (focus (repeat (first | (with_reducible exact Below.refl _ _) | (with_reducible refine Below.trans ?_ (Below.mono (by assumption) (by first | omega | (simp; done) | (simp; omega) | (simp [*]; done)))) | (with_reducible refine Below.alloc ?_ (by first | omega | (simp; done) | (simp; omega) | (simp [*]; done)) _) | (with_reducible refine Below.setCell ?_ (by first | omega | (simp; done) | (simp; omega) | (simp [*]; done)) _) | (with_reducible refine Below.drew ?_) | (with_reducible refine below_drewN ?_))))
  intro X1 r_n hX1
  have sX1 := hX1.size
  have r_lt := r_n.lt
  refine (word_any _ _ _ _ _ (show Cur _ _ _ _ _ from ⟨_, _, Blk.past hX1 cu_0, cu_i0, cu_i1⟩) ⟨cells_below bc_0 hX1 (by omega), bc_s.out, bc_l.out⟩).mono ?_
  clear cu_i0 cu_i1
  rintro e w1 ⟨s, rfl, hs, ⟨i_1, h_1, cu_1, cu_i0, cu_i1⟩, hY1⟩
  have s1 := hY1.size
  have b_1 := below0_touch hY1 (b_0.trans (hX1.mono (by omega)))
  have T_1 := (T_0.trans (Touch.of_below hX1)).trans hY1
  have bc_1 := cells_touch hY1 (cells_below bc_0 hX1 (by omega)) (by omega) (by first | (simp; done) | (simp; omega))
  have r_1 := Blk.touch hY1 r_n (by first | (simp; done) | (simp; omega))
  clear T_0 bc_0 cu_0 b_0 cell_cu froz_cu lt_cu r_n hX1 hY1
  have cell_cu := cu_1.cell
  have froz_cu := cu_1.frozen
  have lt_cu := cu_1.lt
  have cell_r := r_1.cell
  have froz_r := r_1.frozen
  have lt_r := r_1.lt
  go_wp2_with fail
  refine calls_forget0 (W := w1) ?_ ?_
  (focus (repeat (first | (with_reducible exact Below.refl _ _) | (with_reducible refine Below.trans ?_ (Below.mono (by assumption) (by first | omega | (simp; done) | (simp; omega) | (simp [*]; done)))) | (with_reducible refine Below.alloc ?_ (by first | omega | (simp; done) | (simp; omega) | (simp [*]; done)) _) | (with_reducible refine Below.setCell ?_ (by first | omega | (simp; done) | (simp; omega) | (simp [*]; done)) _) | (with_reducible refine Below.drew ?_) | (with_reducible refine below_drewN ?_))))
  intro X2 hX2
  have sX2 := hX2.size
  refine (below_any 50 _ _ _ _ _ (by omega) (by omega) (show Cur _ _ _ _ _ from ⟨_, _, Blk.past hX2 cu_1, cu_i0, cu_i1⟩) ⟨cells_below bc_1 hX2 (by omega), bc_s.out, bc_l.out⟩).mono ?_
  clear cu_i0 cu_i1
  rintro e w2 ⟨a, rfl, a0, a1, ⟨i_2, h_2, cu_2, cu_i0, cu_i1⟩, hY2⟩
  have s2 := hY2.size
  have b_2 := below0_touch hY2 (b_1.trans (hX2.mono (by omega)))
  have T_2 := (T_1.trans (Touch.of_below hX2)).trans hY2
  have bc_2 := cells_touch hY2 (cells_below bc_1 hX2 (by omega)) (by omega) (by first | (simp; done) | (simp; omega))
  have r_2 := Blk.touch hY2 (Blk.past hX2 r_1) (by first | (simp; done) | (simp; omega))
  clear T_1 bc_1 cu_1 r_1 b_1 cell_cu froz_cu lt_cu cell_r froz_r lt_r hX2 hY2
  have cell_cu := cu_2.cell
  have froz_cu := cu_2.frozen
  have lt_cu := cu_2.lt
  have cell_r := r_2.cell
  have froz_r := r_2.frozen
  have lt_r := r_2.lt
  go_wp2_with fail
  ((try simp only [Exit.inBlock, Exit.then]); apply bodyPost_ret0; focus ((try simp only [results, Try.results43]); (try go_simp); (try rfl)))
  refine ⟨s, a, rfl, ⟨by unfold tapeOkB; rw [hs, inB_iff.2 ⟨a0, by omega⟩]; rfl, by omega⟩, ?_, ?_⟩
  · exact ⟨_, _, Blk.touch (L := [w.heap.size]) (((Touch.refl _ _).set_ _ _ (by simp)).set_ _ _ (by simp)) cu_2 (by simp; omega), cu_i0, cu_i1⟩
  · have hT := T_2
    exact (hT.set_new _ _ (by dsimp only; omega)).set_new _ _ (by dsimp only; omega)

set_option maxHeartbeats 1600000 in
theorem sPlain8 (o d a b g n : Int) (w : World) :
    Calls Try.prog 66 #[.agg #[.int .i64 o, .int .i64 d, .int .i64 a, .int .i64 b, .int .i64 g, .int .i64 n]] w fun e w' =>
      ∃ x0 x1 x2 x3 x4 x5 : Int, e = .returned (.agg #[.int .i64 x0, .int .i64 x1, .int .i64 x2, .int .i64 x3, .int .i64 x4, .int .i64 x5]) ∧ Below w.heap.size w w' := by
  cases h1 : (o == 1)
  case true =>
    obtain rfl : o = 1 := by simpa using h1
    go_enter Try.func66, Try.ntmps66
    go_wp2
    go_returns
    refine ⟨_, _, _, _, _, _, rfl, ?_⟩
    repeat (first | (with_reducible exact Below.refl _ _) | (with_reducible refine Below.trans ?_ (Below.mono (by assumption) (by first | omega | (simp; done) | (simp; omega) | (simp [*]; done)))) | (with_reducible refine Below.alloc ?_ (by first | omega | (simp; done) | (simp; omega) | (simp [*]; done)) _) | (with_reducible refine Below.setCell ?_ (by first | omega | (simp; done) | (simp; omega) | (simp [*]; done)) _) | (with_reducible refine Below.drew ?_) | (with_reducible refine below_drewN ?_))
  cases h2 : (o == 2)
  case true =>
    obtain rfl : o = 2 := by simpa using h2
    go_enter Try.func66, Try.ntmps66
    go_wp2
    go_returns
    refine ⟨_, _, _, _, _, _, rfl, ?_⟩
    repeat (first | (with_reducible exact Below.refl _ _) | (with_reducible refine Below.trans ?_ (Below.mono (by assumption) (by first | omega | (simp; done) | (simp; omega) | (simp [*]; done)))) | (with_reducible refine Below.alloc ?_ (by first | omega | (simp; done) | (simp; omega) | (simp [*]; done)) _) | (with_reducible refine Below.setCell ?_ (by first | omega | (simp; done) | (simp; omega) | (simp [*]; done)) _) | (with_reducible refine Below.drew ?_) | (with_reducible refine below_drewN ?_))
  cases h3 : inB o 3 9
  case true =>
    go_enter Try.func66, Try.ntmps66
    go_wp2_with (go_at_call 19; refine (sWithin _ _ _ _).mono ?_; rintro e w' ⟨rfl, rfl⟩)
    go_returns
    refine ⟨_, _, _, _, _, _, rfl, ?_⟩
    repeat (first | (with_reducible exact Below.refl _ _) | (with_reducible refine Below.trans ?_ (Below.mono (by assumption) (by first | omega | (simp; done) | (simp; omega) | (simp [*]; done)))) | (with_reducible refine Below.alloc ?_ (by first | omega | (simp; done) | (simp; omega) | (simp [*]; done)) _) | (with_reducible refine Below.setCell ?_ (by first | omega | (simp; done) | (simp; omega) | (simp [*]; done)) _) | (with_reducible refine Below.drew ?_) | (with_reducible refine below_drewN ?_))
  cases h4 : (o == 10)
  case true =>
    go_enter Try.func66, Try.ntmps66
    go_wp2_with (go_at_call 19; refine (sWithin _ _ _ _).mono ?_; rintro e w' ⟨rfl, rfl⟩)
    go_returns
    refine ⟨_, _, _, _, _, _, rfl, ?_⟩
    repeat (first | (with_reducible exact Below.refl _ _) | (with_reducible refine Below.trans ?_ (Below.mono (by assumption) (by first | omega | (simp; done) | (simp; omega) | (simp [*]; done)))) | (with_reducible refine Below.alloc ?_ (by first | omega | (simp; done) | (simp; omega) | (simp [*]; done)) _) | (with_reducible refine Below.setCell ?_ (by first | omega | (simp; done) | (simp; omega) | (simp [*]; done)) _) | (with_reducible refine Below.drew ?_) | (with_reducible refine below_drewN ?_))
  cases h5 : (o == 11)
  case true =>
    go_enter Try.func66, Try.ntmps66
    go_wp2_with (go_at_call 19; refine (sWithin _ _ _ _).mono ?_; rintro e w' ⟨rfl, rfl⟩)
    go_returns
    refine ⟨_, _, _, _, _, _, rfl, ?_⟩
    repeat (first | (with_reducible exact Below.refl _ _) | (with_reducible refine Below.trans ?_ (Below.mono (by assumption) (by first | omega | (simp; done) | (simp; omega) | (simp [*]; done)))) | (with_reducible refine Below.alloc ?_ (by first | omega | (simp; done) | (simp; omega) | (simp [*]; done)) _) | (with_reducible refine Below.setCell ?_ (by first | omega | (simp; done) | (simp; omega) | (simp [*]; done)) _) | (with_reducible refine Below.drew ?_) | (with_reducible refine below_drewN ?_))
  cases h6 : (o == 12)
  all_goals
    go_enter Try.func66, Try.ntmps66
    go_wp2_with (go_at_call 19; refine (sWithin _ _ _ _).mono ?_; rintro e w' ⟨rfl, rfl⟩)
    go_returns
    refine ⟨_, _, _, _, _, _, rfl, ?_⟩
    repeat (first | (with_reducible exact Below.refl _ _) | (with_reducible refine Below.trans ?_ (Below.mono (by assumption) (by first | omega | (simp; done) | (simp; omega) | (simp [*]; done)))) | (with_reducible refine Below.alloc ?_ (by first | omega | (simp; done) | (simp; omega) | (simp [*]; done)) _) | (with_reducible refine Below.setCell ?_ (by first | omega | (simp; done) | (simp; omega) | (simp [*]; done)) _) | (with_reducible refine Below.drew ?_) | (with_reducible refine below_drewN ?_))
end Go.Proofs.Ytonanjcojfjbdaa
