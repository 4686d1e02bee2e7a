/- The reference's drawn cases of a secure run. Only what the laws need of them is kept. -/
import Derived.Test.YtonanjcojfjbdaaDrawY
import Derived.Test.YtonanjcojfjbdaaDrawK
namespace Go.Proofs.Ytonanjcojfjbdaa
open Go.RowKit

theorem infoStmt : (Try.prog.info? 75).map (fun i => (i.zero, i.size, i.bytes)) = some (some (.agg #[.int .i64 0, .int .i64 0, .int .i64 0, .int .i64 0, .int .i64 0, .int .i64 0]), 6, 48) := by kernel_rfl
theorem stmt_one (x0 x1 x2 x3 x4 x5 : Int) : ∀ u ∈ [Value.int .i64 x0, .int .i64 x1, .int .i64 x2, .int .i64 x3, .int .i64 x4, .int .i64 x5], u.oneCell' = true := by
  intro u hu
  simp at hu
  rcases hu with rfl | rfl | rfl | rfl | rfl | rfl <;> rfl
def ProgS (w : World) (p n c : Nat) (A : Option Addr) (k : Nat) (o : Value) (wr : World) : Prop :=
  ∃ (xs : List Value) (A' : Option Addr) (c' : Nat), o = .slice A' (2 + k) c' ∧ wr.ownsRow w.heap.size 75 6 (.slice A' (2 + k) c') (2 + k) xs ∧ Cur wr p A n c ∧ Touch [p] w wr
set_option maxRecDepth 100000 in
set_option maxHeartbeats 1600000 in
theorem program_any (p : Nat) (A : Option Addr) (c : Nat) (bs : List Int) (w : World) (hc : Cur w p A bs.length c) (hb : Bytes w p A bs) :
    Calls Try.prog 41 #[.pointer (some ⟨p, 0, none⟩)] w fun e w' => ∃ v, e = .returned v ∧ Cur w' p A bs.length c ∧ Touch [p] w w' := by
  have HB := hid hb
  have HC := hid hc
  have hp := hc.lt
  clear hb hc
  go_enter Try.func41, Try.ntmps41
  go_wp2_with fail
  go_loopw [3, 4] (fun o i wr => ∃ k : Nat, k ≤ 4 ∧ i = .int .i64 k ∧ ProgS w p bs.length c A k o wr) (fun _ i _ => 4 - (intOf i).toNat)
  case atStart => exact ⟨0, Nat.zero_le _, rfl, [.int .i64 2, .int .i64 0, .int .i64 0, .int .i64 0, .int .i64 0, .int .i64 0, .int .i64 2, .int .i64 1, .int .i64 1, .int .i64 0, .int .i64 0, .int .i64 0], some ⟨w.heap.size, 0, none⟩, 2, rfl, own_lit (size := 6) #[.int .i64 2, .int .i64 0, .int .i64 0, .int .i64 0, .int .i64 0, .int .i64 0, .int .i64 2, .int .i64 1, .int .i64 1, .int .i64 0, .int .i64 0, .int .i64 0] 2 rfl (Nat.le_refl _) (by decide) rfl, HC.out.alloc _, (Touch.refl _ _).alloc _⟩
  case round =>
    obtain ⟨k, hk, rfl, xs, A', c', rfl, hown, hcu, htw⟩ := hrel
    have zw := htw.size
    have HO := hid hown
    have HU := hid hcu
    have HD := hid htw
    clear hown hcu htw
    go_wp2_with fail
    refine (below_any 4 _ _ _ _ _ (by omega) (by omega) HU.out (HB.out.touch HD.out (by omega))).mono ?_
    rintro e w2 ⟨r, rfl, hr0, hr1, hc2, hT⟩
    have z2 := hT.size
    have HO2 := hid (own_touch' hT HO.out (fun q hq => by have h1 := own_in HO.out q hq; simp; omega))
    have HU2 := hid hc2
    have HD2 := hid (HD.out.trans hT)
    clear hc2 hT
    by_cases hlt : (k : Int) < r
    · go_wp2_with fail
      refine (stmt_any _ _ _ _ _ HU2.out (HB.out.touch HD2.out (by omega))).mono ?_
      rintro e w3 ⟨x0, x1, x2, x3, x4, x5, rfl, hc3, hT⟩
      have z3 := hT.size
      have HO3 := hid (own_touch' hT HO2.out (fun q hq => by have h1 := own_in HO2.out q hq; simp; omega))
      have HU3 := hid hc3
      have HD3 := hid (HD2.out.trans hT)
      clear hc3 hT
      go_wp2_with (at_builtin; go_loud (refine wpList_appi rfl _ _ 35 rfl w.heap.size 75 (.agg #[.int .i64 0, .int .i64 0, .int .i64 0, .int .i64 0, .int .i64 0, .int .i64 0]) 6 48 Try.underlying35 infoStmt rfl (by decide) _ (2 + k) _ rfl (HO3.out.alloc _) ⟨w3.heap.size, 0, none⟩ 1 1 _ rfl rfl (many_new _ [.int .i64 x0, .int .i64 x1, .int .i64 x2, .int .i64 x3, .int .i64 x4, .int .i64 x5] _) (stmt_one _ _ _ _ _ _) (by omega) (by decide) (by simp; omega) ?_))
      intro A3 c3 w4 ho4 hg4 li4
      have hg := grown_alloc hg4
      have z4 := hg.size
      have hlo : ∀ q, (Value.slice A' (2 + k) c').ownBlock = some q → w.heap.size ≤ q := fun q hq => (own_in HO3.out q hq).1
      have hc4 := HU3.out.grown hg (fun q hq => by have h1 := hlo q hq; omega)
      have ht4 := HD3.out.grown hg hlo
      have HO4 := hid ho4
      have HU4 := hid hc4
      have HD4 := hid ht4
      clear hg hg4 li4 hlo ho4 hc4 ht4
      go_wp2
      go_roundw
      case rel => exact ⟨k + 1, by omega, by go_num, _, A3, c3, rfl, HO4.out, HU4.out, HD4.out⟩
      case measure => simp [intOf]; omega
    · go_wp2_with fail
      refine (below_any 4 _ _ _ _ _ (by omega) (by omega) HU2.out (HB.out.touch HD2.out (by omega))).mono ?_
      rintro e w3 ⟨x, rfl, hx0, hx1, hc3, hT⟩
      have z3 := hT.size
      have HO3 := hid (own_touch' hT HO2.out (fun q hq => by have h1 := own_in HO2.out q hq; simp; omega))
      have HU3 := hid hc3
      have HD3 := hid (HD2.out.trans hT)
      clear hc3 hT
      go_wp2_with (at_builtin; go_loud (refine wpList_appi rfl _ _ 35 rfl w.heap.size 75 (.agg #[.int .i64 0, .int .i64 0, .int .i64 0, .int .i64 0, .int .i64 0, .int .i64 0]) 6 48 Try.underlying35 infoStmt rfl (by decide) _ (2 + k) _ rfl (HO3.out.alloc _) ⟨w3.heap.size, 0, none⟩ 1 1 _ rfl rfl (many_new _ [.int .i64 11, .int .i64 0, .int .i64 x, .int .i64 0, .int .i64 0, .int .i64 0] _) (stmt_one _ _ _ _ _ _) (by omega) (by decide) (by simp; omega) ?_))
      intro A3 c3 w4 ho4 hg4 li4
      have hg := grown_alloc hg4
      have z4 := hg.size
      have hlo : ∀ q, (Value.slice A' (2 + k) c').ownBlock = some q → w.heap.size ≤ q := fun q hq => (own_in HO3.out q hq).1
      have hc4 := HU3.out.grown hg (fun q hq => by have h1 := hlo q hq; omega)
      have ht4 := HD3.out.grown hg hlo
      have HU4 := hid hc4
      have HD4 := hid ht4
      clear hg hg4 li4 hlo ho4 hc4 ht4
      go_wp2
      go_ret
      exact ⟨_, rfl, HU4.out, HD4.out⟩
set_option maxRecDepth 100000 in
set_option maxHeartbeats 1600000 in
theorem secure_any (A : Option Addr) (c : Nat) (bs : List Int) (w : World) (hb : Bytes w w.heap.size A bs) :
    Calls Try.prog 13 #[.slice A bs.length c] w fun e w' => ∃ (v : Value) (ls : List (Nat × Nat × List Int)) (A' : Option Addr) (c' : Nat) (s a s' a' q : Int),
      (ls.length = 5 ∧ (tapeOkB s a = true ∧ a ≤ 50) ∧ (tapeOkB s' a' = true ∧ a' ≤ 50) ∧ 0 ≤ q ∧ q < 5) ∧ e = .returned (.tuple #[v, .slice A' 5 c', .agg #[.int .i64 s, .int .i64 a], .agg #[.int .i64 s', .int .i64 a'], .int .i64 q]) ∧
      w'.ownsRow w.heap.size 24 1 (.slice A' 5 c') 5 (insV ls) ∧ InsO w' w.heap.size ls ∧ Below w.heap.size w w' := by
  have HB := hid hb
  have bc_s := hid hb.small
  have bc_l := hid hb.len
  have HBY := hb.cells
  clear hb
  go_enter Try.func13, Try.ntmps13
  have b_0 := (Below.refl w.heap.size w)
  have s_0 := b_0.size
  go_upto_region 1 with fail
  refine wp_forget2 (w0 := w) (B := w.heap.size) (b0 := w.heap.size) (t0 := 27) (c0 := #[.int .i64 0, .int .i64 0]) (b1 := w.heap.size + 1) (t1 := 27) (c1 := #[.int .i64 0, .int .i64 0]) ?_ ?_ ?_ ?_
  (focus (first | ((repeat (first | (with_reducible assumption) | (with_reducible apply Blk.drew) | (with_reducible apply Blk.drewN) | (with_reducible apply Blk.new; first | rfl | (simp; done)) | (with_reducible apply Blk.alloc) | (with_reducible apply Blk.set_) | (with_reducible apply Blk.past; focus assumption) | (with_reducible apply Blk.far; focus (first | (simp; done) | (simp; omega) | (dsimp only; omega))))); done) | (apply Blk.cast; (case h => (repeat (first | (with_reducible assumption) | (with_reducible apply Blk.drew) | (with_reducible apply Blk.drewN) | (with_reducible apply Blk.new; first | rfl | (simp; done)) | (with_reducible apply Blk.alloc) | (with_reducible apply Blk.set_) | (with_reducible apply Blk.past; focus assumption) | (with_reducible apply Blk.far; focus (first | (simp; done) | (simp; omega) | (dsimp only; omega)))))); (case e => rfl))))
  (focus (first | ((repeat (first | (with_reducible assumption) | (with_reducible apply Blk.drew) | (with_reducible apply Blk.drewN) | (with_reducible apply Blk.new; first | rfl | (simp; done)) | (with_reducible apply Blk.alloc) | (with_reducible apply Blk.set_) | (with_reducible apply Blk.past; focus assumption) | (with_reducible apply Blk.far; focus (first | (simp; done) | (simp; omega) | (dsimp only; omega))))); done) | (apply Blk.cast; (case h => (repeat (first | (with_reducible assumption) | (with_reducible apply Blk.drew) | (with_reducible apply Blk.drewN) | (with_reducible apply Blk.new; first | rfl | (simp; done)) | (with_reducible apply Blk.alloc) | (with_reducible apply Blk.set_) | (with_reducible apply Blk.past; focus assumption) | (with_reducible apply Blk.far; focus (first | (simp; done) | (simp; omega) | (dsimp only; omega)))))); (case e => rfl))))
  (focus (repeat (first | (with_reducible exact Below.refl _ _) | (with_reducible refine Below.trans ?_ (Below.mono (by assumption) (by first | omega | (simp; done) | (simp; omega) | (simp [*]; done)))) | (with_reducible refine Below.alloc ?_ (by first | omega | (simp; done) | (simp; omega) | (simp [*]; done)) _) | (with_reducible refine Below.setCell ?_ (by first | omega | (simp; done) | (simp; omega) | (simp [*]; done)) _) | (with_reducible refine Below.drew ?_) | (with_reducible refine below_drewN ?_))))
  intro w1 r1_1 r2_1 hX1
  have sX1 := hX1.size
  have r1_lt := r1_1.lt
  have r2_lt := r2_1.lt
  have b_1 := b_0.trans (hX1.mono (by omega))
  clear b_0 hX1
  have cell_r1 := r1_1.cell
  have froz_r1 := r1_1.frozen
  have lt_r1 := r1_1.lt
  have cell_r2 := r2_1.cell
  have froz_r2 := r2_1.frozen
  have lt_r2 := r2_1.lt
  have HR1 := hid r1_1
  have HR2 := hid r2_1
  have HW := hid b_1
  clear r1_1 r2_1 b_1 cell_r1 froz_r1 cell_r2 froz_r2 HBY
  go_wp2_with fail
  refine (new_any _ _ _ _ ((HB.out.step HW.out).more (by omega))).mono ?_
  rintro e w2 ⟨rfl, hc2, hb2⟩
  have s2 := hb2.size
  have z2 := hc2.lt
  have HW2 := hid (HW.out.trans (hb2.mono (by omega)))
  have R12 := hid (Blk.past hb2 HR1.out)
  have R22 := hid (Blk.past hb2 HR2.out)
  have HC2 := hid hc2
  obtain ⟨p, hp⟩ : ∃ p, p = w1.heap.size := ⟨_, rfl⟩
  rw [← hp] at HC2
  rw [← hp] at z2
  rw [← hp]
  have pw : w.heap.size + 1 < p := by omega
  clear hc2 hb2 HW HR1 HR2 hp
  go_wp2_with fail
  refine (program_any p _ _ _ _ HC2.out ((HB.out.step HW2.out).more (by omega))).mono ?_
  rintro e w3 ⟨v, rfl, hc3, hT⟩
  have z3 := hT.size
  have HC3 := hid hc3
  have HW3 := hid (hT.below HW2.out (by simp; omega))
  have R13 := hid (Blk.touch hT R12.out (by simp; omega))
  have R23 := hid (Blk.touch hT R22.out (by simp; omega))
  clear hc3 hT HC2 HW2 R12 R22
  go_wp2_with fail
  refine (inputs_any p _ _ _ _ HC3.out ((HB.out.step HW3.out).more (by omega))).mono ?_
  rintro e w4 ⟨ls, A', c', hl, rfl, hro, hio, hc4, hT⟩
  have z4 := hT.size
  have HC4 := hid hc4
  have HW4 := hid (hT.below HW3.out (by simp; omega))
  have R14 := hid (Blk.touch hT R13.out (by simp; omega))
  have R24 := hid (Blk.touch hT R23.out (by simp; omega))
  have HRO4 := hid hro
  have HIO4 := hid hio
  clear hc4 hT HC3 HW3 R13 R23 hro hio
  go_wp2_with fail
  refine (tape_any p _ _ _ _ HC4.out ((HB.out.step HW4.out).more (by omega))).mono ?_
  rintro e w5 ⟨s, a, rfl, ht, hc5, hT⟩
  have z5 := hT.size
  have HC5 := hid hc5
  have HW5 := hid (hT.below HW4.out (by simp; omega))
  have R15 := hid (Blk.touch hT R14.out (by simp; omega))
  have R25 := hid (Blk.touch hT R24.out (by simp; omega))
  have HRO5 := hid (own_touch' hT HRO4.out (fun q hq => by have h1 := own_in HRO4.out q hq; simp; omega))
  have HIO5 := hid (HIO4.out.touch hT (by simp; omega))
  clear hc5 hT HC4 HW4 R14 R24 HRO4 HIO4
  go_wp2_with fail
  refine (tape_any p _ _ _ _ HC5.out ((HB.out.step HW5.out).more (by omega))).mono ?_
  rintro e w6 ⟨s', a', rfl, ht', hc6, hT⟩
  have z6 := hT.size
  have HC6 := hid hc6
  have HW6 := hid (hT.below HW5.out (by simp; omega))
  have R16 := hid (Blk.touch hT R15.out (by simp; omega))
  have R26 := hid (Blk.touch hT R25.out (by simp; omega))
  have HRO6 := hid (own_touch' hT HRO5.out (fun q hq => by have h1 := own_in HRO5.out q hq; simp; omega))
  have HIO6 := hid (HIO5.out.touch hT (by simp; omega))
  clear hc6 hT HC5 HW5 R15 R25 HRO5 HIO5
  go_wp2_with fail
  refine (below_any 5 p _ _ _ _ (by omega) (by omega) HC6.out ((HB.out.step HW6.out).more (by omega))).mono ?_
  rintro e w7 ⟨q, rfl, q0, q1, hc7, hT⟩
  have z7 := hT.size
  have HW7 := hid (hT.below HW6.out (by simp; omega))
  have R17 := Blk.touch hT R16.out (by simp; omega)
  have R27 := Blk.touch hT R26.out (by simp; omega)
  have HRO7 := hid (own_touch' hT HRO6.out (fun q hq => by have h1 := own_in HRO6.out q hq; simp; omega))
  have HIO7 := hid (HIO6.out.touch hT (by simp; omega))
  have hcell1 := R17.cell
  have hcell2 := R27.cell
  have hfroz1 := R17.frozen
  have hfroz2 := R27.frozen
  have hlt1 := R17.lt
  have hlt2 := R27.lt
  have HT := hid ht
  have HT' := hid ht'
  clear hc7 hT HC6 HW6 R16 R26 HRO6 HIO6 ht ht'
  go_wp2_with fail
  ((try simp only [Exit.inBlock, Exit.then]); apply bodyPost_ret0; focus ((try simp only [results, Try.results13]); (try go_simp); (try rfl)))
  refine ⟨v, ls, A', c', s, a, s', a', q, ⟨hl, HT.out, HT'.out, q0, q1⟩, rfl, ?_, ?_, ?_⟩
  · refine own_weak (base := w3.heap.size) ?_ (by omega)
    have h := HRO7.out
    repeat (first | (with_reducible assumption) | (with_reducible apply World.ownsRow.drew) | (with_reducible apply own_drewN) | (with_reducible apply World.ownsRow.alloc) | (with_reducible refine own_set ?_ _ _ (by first | omega | (simp; omega) | (dsimp only; omega))))
  · intro i g hg
    have hr := HIO7.out i g hg
    refine ⟨own_weak (base := w3.heap.size) (own_touch' (L := [w.heap.size, w.heap.size + 1]) (w := w7) ?_ hr.1 fun b hb => ?_) (by omega), hr.2⟩
    · repeat (first | (with_reducible exact Touch.refl _ _) | (with_reducible assumption) | (with_reducible apply Touch.drew) | (with_reducible apply Touch.drewN) | (with_reducible apply Touch.alloc) | (with_reducible refine Touch.set_ ?_ _ _ (by simp; done)) | (with_reducible refine Touch.set_new ?_ _ _ (by first | omega | (simp; omega) | (dsimp only; omega))))
    · have h1 := own_in hr.1 b hb
      simp
      omega
  · have h := HW7.out
    repeat (first | (with_reducible exact Below.refl _ _) | (with_reducible refine Below.trans ?_ (Below.mono (by assumption) (by first | omega | (simp; done) | (simp; omega) | (simp [*]; done)))) | (with_reducible refine Below.alloc ?_ (by first | omega | (simp; done) | (simp; omega) | (simp [*]; done)) _) | (with_reducible refine Below.setCell ?_ (by first | omega | (simp; done) | (simp; omega) | (simp [*]; done)) _) | (with_reducible refine Below.drew ?_) | (with_reducible refine below_drewN ?_))
end Go.Proofs.Ytonanjcojfjbdaa
