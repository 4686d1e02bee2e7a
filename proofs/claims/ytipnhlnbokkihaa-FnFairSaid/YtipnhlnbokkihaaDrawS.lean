/- The reference's drawn schedules, as the laws call them. -/
import Derived.Test.YtipnhlnbokkihaaCase
import Derived.Test.YtipnhlnbokkihaaRunL
import Derived.StillTailTactics
namespace Go.Proofs.Ytipnhlnbokkihaa
open Go.RowKit

theorem drawSched_any (A : Option Addr) (c : Nat) (bs : List Int) (w : World) (hb : Bytes w w.heap.size A bs) :
    Calls Try.prog 26 #[.slice A bs.length c] w fun e w' => ∃ (S : SV) (J : Option Addr) (cj : Nat) (T : Option Addr) (tcp : Nat) (F : Option Addr) (cf : Nat), (okS S ∧ S.ts.length ≤ 25 ∧ S.fs.length ≤ 25) ∧ e = .returned (.agg #[.int .i64 S.z, .int .i64 S.n, .int .i64 S.b, .slice J S.js.length cj, .slice T S.ts.length tcp, .slice F S.fs.length cf]) ∧
      w'.ownsRow w.heap.size 38 4 (.slice J S.js.length cj) S.js.length (ints (flatJ S.js)) ∧ w'.ownsRow w.heap.size 55 2 (.slice T S.ts.length tcp) S.ts.length (ints (flatT S.ts)) ∧ w'.ownsRow w.heap.size 3 1 (.slice F S.fs.length cf) S.fs.length (ints S.fs) ∧ Below w.heap.size w w' := by
  have HB := hid hb
  clear hb
  go_enter Try.func26, Try.ntmps26
  have b_0 := (Below.refl w.heap.size w)
  have s_0 := b_0.size
  go_upto_region 1 with fail
  refine wp_forget1 (w0 := w) (B := w.heap.size) (b0 := w.heap.size) (t0 := 31) (c0 := #[.int .i64 0, .int .i64 0, .int .i64 0, .slice none 0 0, .slice none 0 0, .slice none 0 0]) ?_ ?_ ?_
  (focus (first | ((repeat (first | (with_reducible assumption) | (with_reducible apply Blk.drew) | (with_reducible apply Blk.drewN) | (with_reducible apply Blk.new; first | rfl | (simp; done)) | (with_reducible apply Blk.alloc) | (with_reducible apply Blk.set_) | (with_reducible apply Blk.past; focus assumption) | (with_reducible apply Blk.far; focus (first | (simp; done) | (simp; omega) | (dsimp only; omega))))); done) | (apply Blk.cast; (case h => (repeat (first | (with_reducible assumption) | (with_reducible apply Blk.drew) | (with_reducible apply Blk.drewN) | (with_reducible apply Blk.new; first | rfl | (simp; done)) | (with_reducible apply Blk.alloc) | (with_reducible apply Blk.set_) | (with_reducible apply Blk.past; focus assumption) | (with_reducible apply Blk.far; focus (first | (simp; done) | (simp; omega) | (dsimp only; omega)))))); (case e => rfl))))
  (focus (repeat (first | (with_reducible exact Below.refl _ _) | (with_reducible refine Below.trans ?_ (Below.mono (by assumption) (by first | omega | (simp; done) | (simp; omega) | (simp [*]; done)))) | (with_reducible refine Below.alloc ?_ (by first | omega | (simp; done) | (simp; omega) | (simp [*]; done)) _) | (with_reducible refine Below.setCell ?_ (by first | omega | (simp; done) | (simp; omega) | (simp [*]; done)) _) | (with_reducible refine Below.drew ?_) | (with_reducible refine below_drewN ?_))))
  intro w1 r_1 hX1
  have sX1 := hX1.size
  have r_lt := r_1.lt
  have b_1 := b_0.trans (hX1.mono (by omega))
  clear b_0 hX1
  have cell_r := r_1.cell
  have froz_r := r_1.frozen
  have lt_r := r_1.lt
  have HR := hid r_1
  have HW := hid b_1
  clear b_1 r_1 cell_r froz_r
  go_wp2_with fail
  refine (new_any _ _ _ _ ((HB.out.step HW.out).more (by omega))).mono ?_
  rintro e w2 ⟨rfl, hc2, hb2⟩
  have s2 := hb2.size
  have z2 := hc2.lt
  have HBY := hid (((HB.out.step HW.out).more (by omega)).step hb2)
  have HB2 := hid (HW.out.trans (hb2.mono (by omega)))
  have HR2 := hid (Blk.past hb2 HR.out)
  have HC2 := hid hc2
  clear hc2 hb2 HW HR
  go_wp2_with fail
  refine (case_any _ _ _ _ _ HC2.out HBY.out).mono ?_
  rintro e w3 ⟨S, J, cj, T, tcp, F, cf, rfl, hok, l1, l2, ⟨hj, ht, hf⟩, hT⟩
  have hb3 := hT.below HB2.out (by simp; omega)
  have R1 := hid hj
  have R2 := hid ht
  have R3 := hid hf
  have N1 := own_in hj
  have N2 := own_in ht
  have N3 := own_in hf
  have r3 := Blk.touch hT HR2.out (by simp; omega)
  have HB3 := hid hb3
  have HR3 := hid r3
  have HOK := hid hok
  have L1 := hid l1
  have L2 := hid l2
  have lt_r := r3.lt
  have s3 := hT.size
  have cell_r := r3.cell
  have froz_r := r3.frozen
  clear hok hj ht hf hT hb3 r3 l1 l2
  go_wp2_with fail
  ((try simp only [Exit.inBlock, Exit.then]); apply bodyPost_ret0; focus ((try simp only [results, Try.results26]); (try go_simp); (try rfl)))
  refine ⟨S, J, cj, T, tcp, F, cf, ⟨HOK.out, L1.out, L2.out⟩, rfl, ?_, ?_, ?_, ?_⟩
  · refine own_weak (base := w2.heap.size) ?_ (by omega)
    have h := R1.out
    repeat (first | (with_reducible assumption) | (with_reducible apply World.ownsRow.drew) | (with_reducible apply own_drewN) | (with_reducible apply World.ownsRow.alloc) | (with_reducible refine own_set ?_ _ _ (by first | omega | (simp; omega) | (dsimp only; omega))))
  · refine own_weak (base := w2.heap.size) ?_ (by omega)
    have h := R2.out
    repeat (first | (with_reducible assumption) | (with_reducible apply World.ownsRow.drew) | (with_reducible apply own_drewN) | (with_reducible apply World.ownsRow.alloc) | (with_reducible refine own_set ?_ _ _ (by first | omega | (simp; omega) | (dsimp only; omega))))
  · refine own_weak (base := w2.heap.size) ?_ (by omega)
    have h := R3.out
    repeat (first | (with_reducible assumption) | (with_reducible apply World.ownsRow.drew) | (with_reducible apply own_drewN) | (with_reducible apply World.ownsRow.alloc) | (with_reducible refine own_set ?_ _ _ (by first | omega | (simp; omega) | (dsimp only; omega))))
  · have h := HB3.out
    repeat (first | (with_reducible exact Below.refl _ _) | (with_reducible refine Below.trans ?_ (Below.mono (by assumption) (by first | omega | (simp; done) | (simp; omega) | (simp [*]; done)))) | (with_reducible refine Below.alloc ?_ (by first | omega | (simp; done) | (simp; omega) | (simp [*]; done)) _) | (with_reducible refine Below.setCell ?_ (by first | omega | (simp; done) | (simp; omega) | (simp [*]; done)) _) | (with_reducible refine Below.drew ?_) | (with_reducible refine below_drewN ?_))
theorem places12 (A : Option Addr) (c : Nat) (bs : List Int) (w : World) (hb : Bytes w w.heap.size A bs) :
    Calls Try.prog 14 #[.slice A bs.length c] w fun e w' => ∃ (ps : List Int) (g c' : Nat), (ps.length = 12 ∧ ∀ x ∈ ps, 0 ≤ x ∧ x < 10000) ∧ e = .returned (.slice (some ⟨g, 0, none⟩) 12 c') ∧
      w'.ownsRow w.heap.size 3 1 (.slice (some ⟨g, 0, none⟩) 12 c') 12 (ints ps) ∧ Below w.heap.size w w' := by
  refine (places_any A c bs w hb).mono ?_
  rintro e w' ⟨ps, hl, hs, A', c', he, ho, hb'⟩
  rw [hl] at he ho
  obtain ⟨g, rfl, _⟩ := own_at ho (by omega)
  exact ⟨ps, g, c', ⟨hl, hs⟩, he, ho, hb'⟩
theorem place_at {ps : List Int} (h : ps.length = 12 ∧ ∀ x ∈ ps, 0 ≤ x ∧ x < 10000) {i : Nat} (hi : i < 12) : ∃ x, ps[i]? = some x ∧ 0 ≤ x ∧ x < 10000 := by
  obtain ⟨x, hx⟩ : ∃ x, ps[i]? = some x := ⟨_, List.getElem?_eq_getElem (by omega)⟩
  exact ⟨x, hx, h.2 x (List.mem_of_getElem? hx)⟩
/-- A schedule of one's own in a block, beside a row of places. -/
def Sim (w : World) (o g d : Nat) (ps : List Int) (m : Nat) (R : SV → Prop) (wx : World) : Prop :=
  ∃ (S : SV) (J : Option Addr) (cj : Nat) (T : Option Addr) (tcp : Nat) (F : Option Addr) (cf : Nat), R S ∧ S.ts.length ≤ m ∧ S.fs.length ≤ m ∧ (wx.ownsRow w.heap.size 38 4 (.slice J S.js.length cj) S.js.length (ints (flatJ S.js)) ∧ wx.ownsRow w.heap.size 55 2 (.slice T S.ts.length tcp) S.ts.length (ints (flatT S.ts)) ∧ wx.ownsRow w.heap.size 3 1 (.slice F S.fs.length cf) S.fs.length (ints S.fs)) ∧
    Blk wx o 31 #[.int .i64 S.z, .int .i64 S.n, .int .i64 S.b, .slice J S.js.length cj, .slice T S.ts.length tcp, .slice F S.fs.length cf] ∧
    wx.ownsRow w.heap.size 3 1 (.slice (some ⟨g, 0, none⟩) 12 d) 12 (ints ps) ∧ Below w.heap.size w wx
theorem Sim.put {w wx wz : World} {o g d m : Nat} {ps : List Int} {R : SV → Prop} (ho : w.heap.size ≤ o) (S : SV) (J : Option Addr) (cj : Nat) (T : Option Addr) (tcp : Nat) (F : Option Addr) (cf : Nat) (hok : R S) (l1 : S.ts.length ≤ m) (l2 : S.fs.length ≤ m)
    (h : wx.ownsRow w.heap.size 38 4 (.slice J S.js.length cj) S.js.length (ints (flatJ S.js)) ∧ wx.ownsRow w.heap.size 55 2 (.slice T S.ts.length tcp) S.ts.length (ints (flatT S.ts)) ∧ wx.ownsRow w.heap.size 3 1 (.slice F S.fs.length cf) S.fs.length (ints S.fs)) {cs0 : Array Value} (hko : Blk wx o 31 cs0) (hp : wx.ownsRow w.heap.size 3 1 (.slice (some ⟨g, 0, none⟩) 12 d) 12 (ints ps)) (hb : Below w.heap.size w wx) (hz : Touch [o] wx wz)
    (hk : Blk wz o 31 #[.int .i64 S.z, .int .i64 S.n, .int .i64 S.b, .slice J S.js.length cj, .slice T S.ts.length tcp, .slice F S.fs.length cf]) : Sim w o g d ps m R wz := by
  obtain ⟨h1, h2, h3⟩ := h
  refine ⟨S, J, cj, T, tcp, F, cf, hok, l1, l2, ⟨?_, ?_, ?_⟩, hk, ?_, hz.below hb (by simp; omega)⟩
  · exact own_touch' hz h1 (fun q hq => by have := own_ne_obj h1 hko (by decide) q hq; simp; exact this)
  · exact own_touch' hz h2 (fun q hq => by have := own_ne_obj h2 hko (by decide) q hq; simp; exact this)
  · exact own_touch' hz h3 (fun q hq => by have := own_ne_obj h3 hko (by decide) q hq; simp; exact this)
  · exact own_touch' hz hp (fun q hq => by have := own_ne_obj hp hko (by decide) q hq; simp; exact this)
theorem Sim.mono {w wx : World} {o g d m m' : Nat} {ps : List Int} {R : SV → Prop} (h : Sim w o g d ps m R wx) (hm : m ≤ m') : Sim w o g d ps m' R wx := by
  obtain ⟨S, J, cj, T, tcp, F, cf, hok, l1, l2, h⟩ := h
  exact ⟨S, J, cj, T, tcp, F, cf, hok, Nat.le_trans l1 hm, Nat.le_trans l2 hm, h⟩
theorem big_no (A : Option Addr) (n c : Nat) (w : World) (hn : n ≤ 9223372036854775807) (h : (n : Int) ≤ 1048576) : Calls Try.prog 13 #[.slice A n c] w fun e w' => e = .returned (.bool false) ∧ w = w' := by
  refine (big_any A n c w hn).mono fun e w' ⟨he, hw⟩ => ⟨?_, hw⟩
  rw [he, decide_eq_false (by omega)]
theorem runM_lt {x k : Int} (h0 : 0 ≤ x) (h : x < k) (hk : k ≤ 400) : runM x = x.toNat := by
  unfold runM
  rw [if_pos (inB_iff.2 ⟨by omega, by omega⟩)]
theorem iOkYes (S : SV) (h : okS S) (J T F : Option Addr) (cj ct cf : Nat) (w : World) (ho : w.ownsRow 0 38 4 (.slice J S.js.length cj) S.js.length (ints (flatJ S.js)) ∧ w.ownsRow 0 55 2 (.slice T S.ts.length ct) S.ts.length (ints (flatT S.ts)) ∧ w.ownsRow 0 3 1 (.slice F S.fs.length cf) S.fs.length (ints S.fs)) (b1 : S.js.length ≤ 1000000000) (b2 : S.ts.length ≤ 1000000000) :
    Calls Try.prog 25 #[.agg #[.int .i64 S.z, .int .i64 S.n, .int .i64 S.b, .slice J S.js.length cj, .slice T S.ts.length ct, .slice F S.fs.length cf]] w fun e w' => e = .returned (.bool true) ∧ Below w.heap.size w w' := by
  have h0 := iSchedOkS S J T F cj ct cf w ho b1 b2
  rw [schedOkB_yes h.1] at h0
  exact h0
theorem iTicketsYes (A : Option Addr) (c : Nat) (ts : List Tk) (w : World) (h : tksOk ts) (hc : Cells w w.heap.size A (ints (flatT ts))) (hcap : ts.length ≤ c) (hn : ts.length ≤ 9223372036854775807) :
    Calls Try.prog 29 #[.slice A ts.length c] w fun e w' => e = .returned (.bool true) ∧ Below w.heap.size w w' := by
  have h0 := iTickets A c ts w hc hcap hn
  rw [tksOkB_yes h] at h0
  exact h0
end Go.Proofs.Ytipnhlnbokkihaa
