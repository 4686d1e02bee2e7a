/- RunFrames, in the reference. -/
import Derived.Test.YtdfomahaplcgoaaRunPlain
namespace Go.Proofs.Ytdfomahaplcgoaa
open Go.RowKit

theorem sRecv_ok (k s g q b t : Int) (w : World) (hs : recvB k s g q b t = true) :
    Calls Try.prog 51 #[.agg #[.int .i64 k, .int .i64 s, .int .i64 g], .agg #[.int .i64 q, .int .i64 b, .int .i64 t]] w fun e w' =>
      e = .returned (.tuple #[.agg #[.int .i64 k, .int .i64 s, .int .i64 (g + 1)], .int .i64 b, .bool true]) ∧ Below w.heap.size w w' := by
  have h := sRecvFrame k s g q b t w
  rw [hs] at h
  exact h
theorem sRecv_no (k s g q b t : Int) (w : World) (hs : recvB k s g q b t = false) :
    Calls Try.prog 51 #[.agg #[.int .i64 k, .int .i64 s, .int .i64 g], .agg #[.int .i64 q, .int .i64 b, .int .i64 t]] w fun e w' =>
      e = .returned (.tuple #[.agg #[.int .i64 k, .int .i64 s, .int .i64 g], .int .i64 0, .bool false]) ∧ Below w.heap.size w w' := by
  have h := sRecvFrame k s g q b t w
  rw [hs] at h
  exact h
theorem sSend_no (k s g b : Int) (w : World) (hs : sendB k s g b = false) :
    Calls Try.prog 49 #[.agg #[.int .i64 k, .int .i64 s, .int .i64 g], .int .i64 b] w fun e w' =>
      e = .returned (.tuple #[.agg #[.int .i64 k, .int .i64 s, .int .i64 g], .agg #[.int .i64 0, .int .i64 0, .int .i64 0], .bool false]) ∧ Below w.heap.size w w' := by
  have h := sSendFrame k s g b w
  rw [hs] at h
  exact h
theorem sSend_ok (k s g b : Int) (w : World) (hs : sendB k s g b = true) :
    Calls Try.prog 49 #[.agg #[.int .i64 k, .int .i64 s, .int .i64 g], .int .i64 b] w fun e w' =>
      e = .returned (.tuple #[.agg #[.int .i64 k, .int .i64 (s + 1), .int .i64 g], .agg #[.int .i64 (s + 1), .int .i64 b, .int .i64 (keyedI k (s + 1) b)], .bool true]) ∧ Below w.heap.size w w' := by
  have h := sSendFrame k s g b w
  rw [hs] at h
  exact h
theorem sNew_ok (k : Int) (w : World) (hs : isWordB k = true) :
    Calls Try.prog 48 #[.int .i64 k] w fun e w' => e = .returned (.tuple #[.agg #[.int .i64 k, .int .i64 0, .int .i64 0], .bool true]) ∧ Below w.heap.size w w' := by
  have h := sSessionNew k w
  rw [hs] at h
  exact h
theorem sNew_no (k : Int) (w : World) (hs : isWordB k = false) :
    Calls Try.prog 48 #[.int .i64 k] w fun e w' => e = .returned (.tuple #[.agg #[.int .i64 0, .int .i64 0, .int .i64 0], .bool false]) ∧ Below w.heap.size w w' := by
  have h := sSessionNew k w
  rw [hs] at h
  exact h
set_option maxHeartbeats 3200000 in
theorem sRunFrames (k : Int) (A B : Option Addr) (c d : Nat) (xs ys : List Int) (w : World) (hx : Cells w w.heap.size A (ints xs)) (hy : Cells w w.heap.size B (ints ys)) (hn : xs.length ≤ 1000000000) (hm : ys.length ≤ 1000000000) :
    Calls Try.prog 28 #[.int .i64 k, .slice A xs.length c, .slice B ys.length d] w (GivesInts w (runL k xs ys)) := by
  have hR : runL k xs ys = if runB k xs ys then xs.take (gotTo xs.length ys ys.length) else [] := rfl
  have HR := hid hR
  clear hR
  have HX := hid hx
  have HY := hid hy
  clear hx hy
  cases h1 : isWordB k
  · go_enter Try.func28, Try.ntmps28
    go_wp2_with fail
    refine (sNew_no _ _ h1).mono ?_
    rintro e wn ⟨rfl, hb1⟩
    have hs1 := hb1.size
    have hB1 : Below w.heap.size w wn := ((Below.refl _ _).alloc (Nat.le_refl _) _).trans (hb1.mono (by simp))
    have ho1 := own_below (own_lit (w := w) (base := w.heap.size) (e := 3) (size := 1) #[] 0 rfl (Nat.le_refl _) (Nat.zero_le _) rfl) hb1
    have HO := hid ho1
    have HB := hid hB1
    clear ho1 hB1 hb1
    go_wp2
    go_ret
    have e : runL k xs ys = [] := by rw [HR.out]; unfold runB; rw [h1]; rfl
    rw [e]
    exact ⟨some ⟨w.heap.size, 0, none⟩, 0, rfl, HO.out.alloc _, HB.out.alloc (by have := HB.out.size; omega) _⟩
  go_enter Try.func28, Try.ntmps28
  go_wp2_with fail
  refine (sNew_ok _ _ h1).mono ?_
  rintro e wn ⟨rfl, hb1⟩
  have hs1 := hb1.size
  have hB1 : Below w.heap.size w wn := ((Below.refl _ _).alloc (Nat.le_refl _) _).trans (hb1.mono (by simp))
  have ho1 := own_below (own_lit (w := w) (base := w.heap.size) (e := 3) (size := 1) #[] 0 rfl (Nat.le_refl _) (Nat.zero_le _) rfl) hb1
  simp only [World.size_alloc] at hs1
  have HO := hid ho1
  have HB := hid hB1
  clear ho1 hB1 hb1
  by_cases hxl : xs.length ≤ 200
  rotate_left
  · go_wp2
    go_ret
    have e : runL k xs ys = [] := by rw [HR.out]; unfold runB; simp [hxl]
    rw [e]
    exact ⟨some ⟨w.heap.size, 0, none⟩, 0, rfl, HO.out.alloc _, HB.out.alloc (by have := HB.out.size; omega) _⟩
  by_cases hyl : ys.length ≤ 200
  rotate_left
  · go_wp2
    go_ret
    have e : runL k xs ys = [] := by rw [HR.out]; unfold runB; simp [hyl]
    rw [e]
    exact ⟨some ⟨w.heap.size, 0, none⟩, 0, rfl, HO.out.alloc _, HB.out.alloc (by have := HB.out.size; omega) _⟩
  go_wp2_with fail
  go_loopw [11, 12, 13, 14, 15] (fun o i _ _ _ wr => ∃ (j : Nat) (A' : Option Addr) (c' : Nat), j ≤ xs.length ∧ i = .int .i64 j ∧ o = .slice A' j c' ∧ wr.ownsRow (wn.heap.size + 2) 31 3 (.slice A' j c') j (framesTo k xs j) ∧
    Blk wr wn.heap.size 27 #[.int .i64 k, .int .i64 j, .int .i64 0] ∧ Blk wr (wn.heap.size + 1) 27 #[.int .i64 k, .int .i64 0, .int .i64 0] ∧
    wr.ownsRow w.heap.size 3 1 (.slice (some ⟨w.heap.size, 0, none⟩) 0 0) 0 [] ∧ Below w.heap.size w wr ∧ wordsB (xs.take j) = true) (fun _ i _ _ _ _ => xs.length - (intOf i).toNat)
  case atStart => exact ⟨0, some ⟨wn.heap.size + 2, 0, none⟩, 0, Nat.zero_le _, rfl, rfl, own_lit (size := 3) #[] 0 (by simp) (Nat.le_refl _) (Nat.zero_le _) rfl, by (first | ((repeat (first | (with_reducible assumption) | (with_reducible apply Blk.drew) | (with_reducible apply Blk.new; first | rfl | (simp; done)) | (with_reducible apply Blk.alloc) | (with_reducible apply Blk.set_) | (with_reducible apply Blk.past; focus assumption) | (with_reducible apply Blk.far; focus (first | (simp; done) | (simp; omega) | (dsimp only; omega))))); done) | (apply Blk.cast; (case h => (repeat (first | (with_reducible assumption) | (with_reducible apply Blk.drew) | (with_reducible apply Blk.new; first | rfl | (simp; done)) | (with_reducible apply Blk.alloc) | (with_reducible apply Blk.set_) | (with_reducible apply Blk.past; focus assumption) | (with_reducible apply Blk.far; focus (first | (simp; done) | (simp; omega) | (dsimp only; omega)))))); (case e => rfl))), by (first | ((repeat (first | (with_reducible assumption) | (with_reducible apply Blk.drew) | (with_reducible apply Blk.new; first | rfl | (simp; done)) | (with_reducible apply Blk.alloc) | (with_reducible apply Blk.set_) | (with_reducible apply Blk.past; focus assumption) | (with_reducible apply Blk.far; focus (first | (simp; done) | (simp; omega) | (dsimp only; omega))))); done) | (apply Blk.cast; (case h => (repeat (first | (with_reducible assumption) | (with_reducible apply Blk.drew) | (with_reducible apply Blk.new; first | rfl | (simp; done)) | (with_reducible apply Blk.alloc) | (with_reducible apply Blk.set_) | (with_reducible apply Blk.past; focus assumption) | (with_reducible apply Blk.far; focus (first | (simp; done) | (simp; omega) | (dsimp only; omega)))))); (case e => rfl))), ((HO.out.alloc _).alloc _).alloc _, ((HB.out.alloc (by omega) _).alloc (by simp; omega) _).alloc (by simp; omega) _, rfl⟩
  case round =>
    obtain ⟨j, A', c', hj, rfl, rfl, hown, hbs, hb2, hoo, hb, hw⟩ := hrel
    by_cases hlt : j < xs.length
    · obtain ⟨x, hx⟩ : ∃ x, xs[j]? = some x := ⟨_, List.getElem?_eq_getElem hlt⟩
      obtain ⟨b, off, rfl, hB, hcl⟩ := HX.out (by rw [ints_length]; omega)
      have hcell : wr.cell? ⟨b, off + j, none⟩ = some (.int .i64 x) := (hb.cell (p := ⟨b, off + j, none⟩) hB).trans (hcl j _ (ints_get hx))
      have hsb := sendB_word (x := x) h1 (show j ≤ 200 by omega)
      have HS := hid hsb
      have HXJ := hid hx
      have HW := hid hw
      have hjj : (0 : Int) ≤ (j : Int) := by omega
      have hjj2 : (j : Int) < (xs.length : Int) := by omega
      clear hcl hsb hx hw
      cases hxw : isWordB x
      · skip
        have b_0 := hb
        have s_0 := b_0.size
        have s_0 := hbs
        clear hbs
        have s_lt := s_0.lt
        have cell_s := s_0.cell
        have froz_s := s_0.frozen
        have lt_s := s_0.lt
        have oo_in := own_in hoo
        have oo_0 := hoo
        clear hoo
        go_upto_region 10 with fail
        go_cut [13, 14, 15] (fun v13 v14 v15 wx => ∃ b13 b14, v13 = .pointer (some ⟨b13, 0, none⟩) ∧ v14 = .pointer (some ⟨b14, 0, none⟩) ∧ v15 = .bool false ∧ wr.heap.size ≤ b13 ∧ wr.heap.size ≤ b14 ∧ b13 ≠ b14 ∧ Blk wx b13 27 #[.int .i64 k, .int .i64 j, .int .i64 0] ∧ Blk wx b14 31 #[.int .i64 0, .int .i64 0, .int .i64 0] ∧ Below wr.heap.size wr wx)
        case first =>
          go_region_held3 (fun w' => w'.cell? ⟨wn.heap.size, 0, none⟩ = some (.int .i64 k) ∧ w'.cell? ⟨wn.heap.size, 1, none⟩ = some (.int .i64 j) ∧ w'.cell? ⟨wn.heap.size, 2, none⟩ = some (.int .i64 0) ∧ w'.cell? ⟨b, off + j, none⟩ = some (.int .i64 x)) (exact ⟨(Blk.cell (t := 27) (cs := #[.int .i64 k, .int .i64 j, .int .i64 0]) (by repeat (first | (with_reducible assumption) | (with_reducible apply Blk.drew) | (with_reducible apply Blk.new; first | rfl | (simp; done)) | (with_reducible apply Blk.alloc) | (with_reducible apply Blk.set_) | (with_reducible apply Blk.past; focus assumption) | (with_reducible apply Blk.far; focus (first | (simp; done) | (simp; omega) | (dsimp only; omega))))) 0), (Blk.cell (t := 27) (cs := #[.int .i64 k, .int .i64 j, .int .i64 0]) (by repeat (first | (with_reducible assumption) | (with_reducible apply Blk.drew) | (with_reducible apply Blk.new; first | rfl | (simp; done)) | (with_reducible apply Blk.alloc) | (with_reducible apply Blk.set_) | (with_reducible apply Blk.past; focus assumption) | (with_reducible apply Blk.far; focus (first | (simp; done) | (simp; omega) | (dsimp only; omega))))) 1), (Blk.cell (t := 27) (cs := #[.int .i64 k, .int .i64 j, .int .i64 0]) (by repeat (first | (with_reducible assumption) | (with_reducible apply Blk.drew) | (with_reducible apply Blk.new; first | rfl | (simp; done)) | (with_reducible apply Blk.alloc) | (with_reducible apply Blk.set_) | (with_reducible apply Blk.past; focus assumption) | (with_reducible apply Blk.far; focus (first | (simp; done) | (simp; omega) | (dsimp only; omega))))) 2), (cell_kept hcell (by repeat (first | (with_reducible exact Below.refl _ _) | (with_reducible refine Below.trans ?_ (Below.mono (by assumption) (by first | omega | (simp; done) | (simp; omega) | (simp [*]; done)))) | (with_reducible refine Below.alloc ?_ (by first | omega | (simp; done) | (simp; omega) | (simp [*]; done)) _) | (with_reducible refine Below.setCell ?_ (by first | omega | (simp; done) | (simp; omega) | (simp [*]; done)) _) | (with_reducible refine Below.drew ?_))) (by dsimp only; omega))⟩) (((go_at_call 49; refine (sSend_no _ _ _ _ _ (by rw [HS.out, hxw])).mono ?_; rintro e wz ⟨rfl, hbz⟩; (first | (with_reducible refine use_top2d hbz ?_; intro zt ct ft kt zt2 ct2 ft2 kt2; try simp only [World.size_alloc] at zt ct ft kt zt2 ct2 ft2 kt2) | (with_reducible refine use_topd hbz ?_; intro zt ct ft kt; try simp only [World.size_alloc] at zt ct ft kt) | skip); have sz := hbz.size; try simp at sz)))
          all_goals
            go_wp2_with fail
            go_meet
            exact ⟨_, _, rfl, rfl, rfl, by first | exact Nat.le_refl _ | omega | (simp; done) | (simp; omega), by first | exact Nat.le_refl _ | omega | (simp; done) | (simp; omega), by first | omega | (simp; done) | (simp; omega), by (first | ((repeat (first | (with_reducible assumption) | (with_reducible apply Blk.drew) | (with_reducible apply Blk.new; first | rfl | (simp; done)) | (with_reducible apply Blk.alloc) | (with_reducible apply Blk.set_) | (with_reducible apply Blk.past; focus assumption) | (with_reducible apply Blk.far; focus (first | (simp; done) | (simp; omega) | (dsimp only; omega))))); done) | (apply Blk.cast; (case h => (repeat (first | (with_reducible assumption) | (with_reducible apply Blk.drew) | (with_reducible apply Blk.new; first | rfl | (simp; done)) | (with_reducible apply Blk.alloc) | (with_reducible apply Blk.set_) | (with_reducible apply Blk.past; focus assumption) | (with_reducible apply Blk.far; focus (first | (simp; done) | (simp; omega) | (dsimp only; omega)))))); (case e => rfl))), by (first | ((repeat (first | (with_reducible assumption) | (with_reducible apply Blk.drew) | (with_reducible apply Blk.new; first | rfl | (simp; done)) | (with_reducible apply Blk.alloc) | (with_reducible apply Blk.set_) | (with_reducible apply Blk.past; focus assumption) | (with_reducible apply Blk.far; focus (first | (simp; done) | (simp; omega) | (dsimp only; omega))))); done) | (apply Blk.cast; (case h => (repeat (first | (with_reducible assumption) | (with_reducible apply Blk.drew) | (with_reducible apply Blk.new; first | rfl | (simp; done)) | (with_reducible apply Blk.alloc) | (with_reducible apply Blk.set_) | (with_reducible apply Blk.past; focus assumption) | (with_reducible apply Blk.far; focus (first | (simp; done) | (simp; omega) | (dsimp only; omega)))))); (case e => rfl))), by repeat (first | (with_reducible exact Below.refl _ _) | (with_reducible refine Below.trans ?_ (Below.mono (by assumption) (by first | omega | (simp; done) | (simp; omega) | (simp [*]; done)))) | (with_reducible refine Below.alloc ?_ (by first | omega | (simp; done) | (simp; omega) | (simp [*]; done)) _) | (with_reducible refine Below.setCell ?_ (by first | omega | (simp; done) | (simp; omega) | (simp [*]; done)) _) | (with_reducible refine Below.drew ?_))⟩
        case rest =>
          obtain ⟨b_nf, b_ff, rfl, rfl, rfl, nf_ge, ff_ge, nf_ne, nf_1, ff_1, hb1⟩ := hcut
          obtain ⟨w1, rfl⟩ : ∃ z : World, z = wc := ⟨_, rfl⟩
          have s1 := hb1.size
          have b_1 := b_0.trans (hb1.mono (by omega))
          have oo_1 := own_below oo_0 hb1
          have s_1 := Blk.past hb1 s_0
          clear oo_0 s_0 b_0 cell_s froz_s lt_s hb1
          have nf_lt := nf_1.lt
          have ff_lt := ff_1.lt
          have cell_s := s_1.cell
          have froz_s := s_1.frozen
          have lt_s := s_1.lt
          have cell_nf := nf_1.cell
          have froz_nf := nf_1.frozen
          have lt_nf := nf_1.lt
          have cell_ff := ff_1.cell
          have froz_ff := ff_1.frozen
          have lt_ff := ff_1.lt
          go_wp2
          go_ret
          have e : runL k xs ys = [] := by rw [HR.out]; unfold runB; rw [wordsB_no HXJ.out hxw]; simp
          rw [e]
          exact ⟨some ⟨w.heap.size, 0, none⟩, 0, rfl, oo_1, b_1⟩
      · skip
        have b_0 := hb
        have s_0 := b_0.size
        have s_0 := hbs
        clear hbs
        have s_lt := s_0.lt
        have cell_s := s_0.cell
        have froz_s := s_0.frozen
        have lt_s := s_0.lt
        have s2_0 := hb2
        clear hb2
        have s2_lt := s2_0.lt
        have cell_s2 := s2_0.cell
        have froz_s2 := s2_0.frozen
        have lt_s2 := s2_0.lt
        have f_in := own_in hown
        have f_0 := hown
        clear hown
        have oo_in := @own_here w.heap.size 0 0
        have oo_0 := hoo
        clear hoo
        go_upto_region 10 with fail
        go_cut [13, 14, 15] (fun v13 v14 v15 wx => ∃ b13 b14, v13 = .pointer (some ⟨b13, 0, none⟩) ∧ v14 = .pointer (some ⟨b14, 0, none⟩) ∧ v15 = .bool true ∧ wr.heap.size ≤ b13 ∧ wr.heap.size ≤ b14 ∧ b13 ≠ b14 ∧ Blk wx b13 27 #[.int .i64 k, .int .i64 (j + 1), .int .i64 0] ∧ Blk wx b14 31 #[.int .i64 (j + 1), .int .i64 x, .int .i64 (keyedI k (j + 1) x)] ∧ Below wr.heap.size wr wx)
        case first =>
          go_region_held3 (fun w' => w'.cell? ⟨wn.heap.size, 0, none⟩ = some (.int .i64 k) ∧ w'.cell? ⟨wn.heap.size, 1, none⟩ = some (.int .i64 j) ∧ w'.cell? ⟨wn.heap.size, 2, none⟩ = some (.int .i64 0) ∧ w'.cell? ⟨b, off + j, none⟩ = some (.int .i64 x)) (exact ⟨(Blk.cell (t := 27) (cs := #[.int .i64 k, .int .i64 j, .int .i64 0]) (by repeat (first | (with_reducible assumption) | (with_reducible apply Blk.drew) | (with_reducible apply Blk.new; first | rfl | (simp; done)) | (with_reducible apply Blk.alloc) | (with_reducible apply Blk.set_) | (with_reducible apply Blk.past; focus assumption) | (with_reducible apply Blk.far; focus (first | (simp; done) | (simp; omega) | (dsimp only; omega))))) 0), (Blk.cell (t := 27) (cs := #[.int .i64 k, .int .i64 j, .int .i64 0]) (by repeat (first | (with_reducible assumption) | (with_reducible apply Blk.drew) | (with_reducible apply Blk.new; first | rfl | (simp; done)) | (with_reducible apply Blk.alloc) | (with_reducible apply Blk.set_) | (with_reducible apply Blk.past; focus assumption) | (with_reducible apply Blk.far; focus (first | (simp; done) | (simp; omega) | (dsimp only; omega))))) 1), (Blk.cell (t := 27) (cs := #[.int .i64 k, .int .i64 j, .int .i64 0]) (by repeat (first | (with_reducible assumption) | (with_reducible apply Blk.drew) | (with_reducible apply Blk.new; first | rfl | (simp; done)) | (with_reducible apply Blk.alloc) | (with_reducible apply Blk.set_) | (with_reducible apply Blk.past; focus assumption) | (with_reducible apply Blk.far; focus (first | (simp; done) | (simp; omega) | (dsimp only; omega))))) 2), (cell_kept hcell (by repeat (first | (with_reducible exact Below.refl _ _) | (with_reducible refine Below.trans ?_ (Below.mono (by assumption) (by first | omega | (simp; done) | (simp; omega) | (simp [*]; done)))) | (with_reducible refine Below.alloc ?_ (by first | omega | (simp; done) | (simp; omega) | (simp [*]; done)) _) | (with_reducible refine Below.setCell ?_ (by first | omega | (simp; done) | (simp; omega) | (simp [*]; done)) _) | (with_reducible refine Below.drew ?_))) (by dsimp only; omega))⟩) (((go_at_call 49; refine (sSend_ok _ _ _ _ _ (by rw [HS.out, hxw])).mono ?_; rintro e wz ⟨rfl, hbz⟩; (first | (with_reducible refine use_top2d hbz ?_; intro zt ct ft kt zt2 ct2 ft2 kt2; try simp only [World.size_alloc] at zt ct ft kt zt2 ct2 ft2 kt2) | (with_reducible refine use_topd hbz ?_; intro zt ct ft kt; try simp only [World.size_alloc] at zt ct ft kt) | skip); have sz := hbz.size; try simp at sz)))
          all_goals
            go_wp2_with fail
            go_meet
            exact ⟨_, _, rfl, rfl, rfl, by first | exact Nat.le_refl _ | omega | (simp; done) | (simp; omega), by first | exact Nat.le_refl _ | omega | (simp; done) | (simp; omega), by first | omega | (simp; done) | (simp; omega), by (first | ((repeat (first | (with_reducible assumption) | (with_reducible apply Blk.drew) | (with_reducible apply Blk.new; first | rfl | (simp; done)) | (with_reducible apply Blk.alloc) | (with_reducible apply Blk.set_) | (with_reducible apply Blk.past; focus assumption) | (with_reducible apply Blk.far; focus (first | (simp; done) | (simp; omega) | (dsimp only; omega))))); done) | (apply Blk.cast; (case h => (repeat (first | (with_reducible assumption) | (with_reducible apply Blk.drew) | (with_reducible apply Blk.new; first | rfl | (simp; done)) | (with_reducible apply Blk.alloc) | (with_reducible apply Blk.set_) | (with_reducible apply Blk.past; focus assumption) | (with_reducible apply Blk.far; focus (first | (simp; done) | (simp; omega) | (dsimp only; omega)))))); (case e => rfl))), by (first | ((repeat (first | (with_reducible assumption) | (with_reducible apply Blk.drew) | (with_reducible apply Blk.new; first | rfl | (simp; done)) | (with_reducible apply Blk.alloc) | (with_reducible apply Blk.set_) | (with_reducible apply Blk.past; focus assumption) | (with_reducible apply Blk.far; focus (first | (simp; done) | (simp; omega) | (dsimp only; omega))))); done) | (apply Blk.cast; (case h => (repeat (first | (with_reducible assumption) | (with_reducible apply Blk.drew) | (with_reducible apply Blk.new; first | rfl | (simp; done)) | (with_reducible apply Blk.alloc) | (with_reducible apply Blk.set_) | (with_reducible apply Blk.past; focus assumption) | (with_reducible apply Blk.far; focus (first | (simp; done) | (simp; omega) | (dsimp only; omega)))))); (case e => rfl))), by repeat (first | (with_reducible exact Below.refl _ _) | (with_reducible refine Below.trans ?_ (Below.mono (by assumption) (by first | omega | (simp; done) | (simp; omega) | (simp [*]; done)))) | (with_reducible refine Below.alloc ?_ (by first | omega | (simp; done) | (simp; omega) | (simp [*]; done)) _) | (with_reducible refine Below.setCell ?_ (by first | omega | (simp; done) | (simp; omega) | (simp [*]; done)) _) | (with_reducible refine Below.drew ?_))⟩
        case rest =>
          obtain ⟨b_nf, b_ff, rfl, rfl, rfl, nf_ge, ff_ge, nf_ne, nf_1, ff_1, hb1⟩ := hcut
          obtain ⟨w1, rfl⟩ : ∃ z : World, z = wc := ⟨_, rfl⟩
          have s1 := hb1.size
          have b_1 := b_0.trans (hb1.mono (by omega))
          have f_1 := own_below f_0 hb1
          have oo_1 := own_below oo_0 hb1
          have s_1 := Blk.past hb1 s_0
          have s2_1 := Blk.past hb1 s2_0
          clear f_0 oo_0 s_0 s2_0 b_0 cell_s froz_s lt_s cell_s2 froz_s2 lt_s2 hb1
          have nf_lt := nf_1.lt
          have ff_lt := ff_1.lt
          have cell_s := s_1.cell
          have froz_s := s_1.frozen
          have lt_s := s_1.lt
          have cell_s2 := s2_1.cell
          have froz_s2 := s2_1.frozen
          have lt_s2 := s2_1.lt
          have cell_nf := nf_1.cell
          have froz_nf := nf_1.frozen
          have lt_nf := nf_1.lt
          have cell_ff := ff_1.cell
          have froz_ff := ff_1.frozen
          have lt_ff := ff_1.lt
          clear hcell
          go_upto_region 14 with fail
          refine wp_touch1 (w0 := w1) (L := [wn.heap.size]) (b0 := wn.heap.size) (t0 := 27) (c0 := #[.int .i64 k, .int .i64 (j + 1), .int .i64 0]) ?_ ?_ ?_
          (focus (first | ((repeat (first | (with_reducible assumption) | (with_reducible apply Blk.drew) | (with_reducible apply Blk.new; first | rfl | (simp; done)) | (with_reducible apply Blk.alloc) | (with_reducible apply Blk.set_) | (with_reducible apply Blk.past; focus assumption) | (with_reducible apply Blk.far; focus (first | (simp; done) | (simp; omega) | (dsimp only; omega))))); done) | (apply Blk.cast; (case h => (repeat (first | (with_reducible assumption) | (with_reducible apply Blk.drew) | (with_reducible apply Blk.new; first | rfl | (simp; done)) | (with_reducible apply Blk.alloc) | (with_reducible apply Blk.set_) | (with_reducible apply Blk.past; focus assumption) | (with_reducible apply Blk.far; focus (first | (simp; done) | (simp; omega) | (dsimp only; omega)))))); (case e => rfl))))
          (focus (repeat (first | (with_reducible exact Touch.refl _ _) | (with_reducible apply Touch.drew) | (with_reducible apply Touch.alloc) | (with_reducible refine Touch.set_ ?_ _ _ (by simp; done)) | (with_reducible refine Touch.set_new ?_ _ _ (by first | omega | (simp; omega) | (dsimp only; omega))))))
          intro w2 s_2 hX2
          have sX2 := hX2.size
          have b_2 := hX2.below b_1 (by first | (simp; done) | (simp; omega))
          have f_2 := own_touch' hX2 f_1 (fun q hq => by have h1 := f_in q hq; simp; omega)
          have oo_2 := own_touch' hX2 oo_1 (fun q hq => by have h1 := oo_in q hq; simp; omega)
          have s2_2 := Blk.touch hX2 s2_1 (by first | (simp; done) | (simp; omega))
          have nf_2 := Blk.touch hX2 nf_1 (by first | (simp; done) | (simp; omega))
          have ff_2 := Blk.touch hX2 ff_1 (by first | (simp; done) | (simp; omega))
          clear f_1 oo_1 s_1 s2_1 nf_1 ff_1 b_1 cell_s froz_s lt_s cell_s2 froz_s2 lt_s2 cell_nf froz_nf lt_nf cell_ff froz_ff lt_ff hX2
          have cell_s := s_2.cell
          have froz_s := s_2.frozen
          have lt_s := s_2.lt
          have cell_s2 := s2_2.cell
          have froz_s2 := s2_2.frozen
          have lt_s2 := s2_2.lt
          have cell_nf := nf_2.cell
          have froz_nf := nf_2.frozen
          have lt_nf := nf_2.lt
          have cell_ff := ff_2.cell
          have froz_ff := ff_2.frozen
          have lt_ff := ff_2.lt
          go_wp2_with (at_builtin; refine wpList_appi rfl _ _ 75 rfl (wn.heap.size + 2) 31 (.agg #[.int .i64 0, .int .i64 0, .int .i64 0]) 3 24 Try.underlying75 infoFrame rfl (by decide) _ j _ rfl (f_2.alloc _) ⟨w2.heap.size, 0, none⟩ 1 1 _ rfl rfl (many_new _ (frame3 k x j) _) (three_one _ _ _) (by omega) (by decide) (by simp; omega) ?_)
          intro A_f c_f w3 f_3 hg3 li3
          have hg3 := grown_alloc hg3
          try simp only [World.size_alloc] at li3
          have s3 := hg3.size
          have b_3 := gr_below hg3 b_2 (by omega) (fun q hq => by have h1 := f_in q hq; omega)
          have oo_3 := gr_own hg3 oo_2 (fun q p hq hp => by have h1 := f_in q hq; have h2 := oo_in p hp; omega)
          have s_3 := gr_blk hg3 s_2 (fun q hq => by have h1 := f_in q hq; omega)
          have s2_3 := gr_blk hg3 s2_2 (fun q hq => by have h1 := f_in q hq; omega)
          have nf_3 := gr_blk hg3 nf_2 (fun q hq => by have h1 := f_in q hq; omega)
          have ff_3 := gr_blk hg3 ff_2 (fun q hq => by have h1 := f_in q hq; omega)
          have f_ix := own_in f_3
          clear f_2 oo_2 s_2 s2_2 nf_2 ff_2 b_2 cell_s froz_s lt_s cell_s2 froz_s2 lt_s2 cell_nf froz_nf lt_nf cell_ff froz_ff lt_ff hg3 li3 f_in
          have f_in := f_ix
          clear f_ix
          have cell_s := s_3.cell
          have froz_s := s_3.frozen
          have lt_s := s_3.lt
          have cell_s2 := s2_3.cell
          have froz_s2 := s2_3.frozen
          have lt_s2 := s2_3.lt
          have cell_nf := nf_3.cell
          have froz_nf := nf_3.frozen
          have lt_nf := nf_3.lt
          have cell_ff := ff_3.cell
          have froz_ff := ff_3.frozen
          have lt_ff := ff_3.lt
          rw [← framesTo_succ HXJ.out] at f_3
          go_wp2
          go_roundw
          case rel => exact ⟨j + 1, A_f, c_f, by omega, by go_num, rfl, f_3, s_3, s2_3, oo_3, b_3, wordsB_snoc HXJ.out HW.out hxw⟩
          case measure => simp [intOf]; omega
    · obtain rfl : j = xs.length := by omega
      rw [List.take_length] at hw
      have hE : runL k xs ys = xs.take (gotTo xs.length ys ys.length) := by rw [HR.out]; unfold runB; simp [h1, hw, hxl, hyl]
      have HE := hid hE
      have HW := hid hw
      have hhi := own_hi hown
      have hsz := hb.size
      have hsz2 := hb2.lt
      clear hE hw HR hbs
      obtain ⟨wo, rfl⟩ : ∃ wo : World, wo = wr := ⟨_, rfl⟩
      go_wp2_with fail
      go_loopw [7, 16, 17, 18, 19] (fun o i _ _ _ wr => ∃ (j : Nat) (A2 : Option Addr) (c2 : Nat), j ≤ ys.length ∧ i = .int .i64 j ∧ o = .slice A2 (gotTo xs.length ys j) c2 ∧
        wr.ownsRow w.heap.size 3 1 (.slice A2 (gotTo xs.length ys j) c2) (gotTo xs.length ys j) (ints (xs.take (gotTo xs.length ys j))) ∧
        (∀ q, (Value.slice A2 (gotTo xs.length ys j) c2).ownBlock = some q → q = w.heap.size ∨ wo.heap.size ≤ q) ∧
        Blk wr (wn.heap.size + 1) 27 #[.int .i64 k, .int .i64 0, .int .i64 (gotTo xs.length ys j)] ∧
        wr.ownsRow (wn.heap.size + 2) 31 3 (.slice A' xs.length c') xs.length (framesTo k xs xs.length) ∧ Below w.heap.size w wr ∧ wo.heap.size ≤ wr.heap.size) (fun _ i _ _ _ _ => ys.length - (intOf i).toNat)
      case atStart => exact ⟨0, some ⟨w.heap.size, 0, none⟩, 0, Nat.zero_le _, rfl, rfl, hoo, fun q hq => Or.inl (own_here q hq), by (first | ((repeat (first | (with_reducible assumption) | (with_reducible apply Blk.drew) | (with_reducible apply Blk.new; first | rfl | (simp; done)) | (with_reducible apply Blk.alloc) | (with_reducible apply Blk.set_) | (with_reducible apply Blk.past; focus assumption) | (with_reducible apply Blk.far; focus (first | (simp; done) | (simp; omega) | (dsimp only; omega))))); done) | (apply Blk.cast; (case h => (repeat (first | (with_reducible assumption) | (with_reducible apply Blk.drew) | (with_reducible apply Blk.new; first | rfl | (simp; done)) | (with_reducible apply Blk.alloc) | (with_reducible apply Blk.set_) | (with_reducible apply Blk.past; focus assumption) | (with_reducible apply Blk.far; focus (first | (simp; done) | (simp; omega) | (dsimp only; omega)))))); (case e => rfl))), by repeat (first | (with_reducible assumption) | (with_reducible apply World.ownsRow.drew) | (with_reducible apply World.ownsRow.alloc) | (with_reducible refine own_set ?_ _ _ (by first | omega | (simp; omega) | (dsimp only; omega)))), by repeat (first | (with_reducible exact Below.refl _ _) | (with_reducible refine Below.trans ?_ (Below.mono (by assumption) (by first | omega | (simp; done) | (simp; omega) | (simp [*]; done)))) | (with_reducible refine Below.alloc ?_ (by first | omega | (simp; done) | (simp; omega) | (simp [*]; done)) _) | (with_reducible refine Below.setCell ?_ (by first | omega | (simp; done) | (simp; omega) | (simp [*]; done)) _) | (with_reducible refine Below.drew ?_)), Nat.le_refl _⟩
      case round =>
        obtain ⟨j, A2, c2, hj, rfl, rfl, ho2, hoin, hbs, hof, hb, hle⟩ := hrel
        have hgn := gotTo_le xs.length ys j
        by_cases hlt : j < ys.length
        · obtain ⟨o, ho⟩ : ∃ o, ys[j]? = some o := ⟨_, List.getElem?_eq_getElem hlt⟩
          obtain ⟨b, off, rfl, hB, hcl⟩ := HY.out (by rw [ints_length]; omega)
          have hcell : wr.cell? ⟨b, off + j, none⟩ = some (.int .i64 o) := (hb.cell (p := ⟨b, off + j, none⟩) hB).trans (hcl j _ (ints_get ho))
          have hgs := gotTo_succ (n := xs.length) ho
          have HG := hid hgs
          have hjj : (0 : Int) ≤ (j : Int) := by omega
          have hjj2 : (j : Int) < (ys.length : Int) := by omega
          clear hcl hgs ho
          by_cases hin : 0 ≤ o ∧ o < xs.length
          · obtain ⟨i, rfl⟩ := Int.eq_ofNat_of_zero_le hin.1
            have hi : i < xs.length := by omega
            have hib : inB (i : Int) 0 ((xs.length : Int) - 1) = true := inB_iff.2 (by omega)
            obtain ⟨x, hx⟩ : ∃ x, xs[i]? = some x := ⟨_, List.getElem?_eq_getElem hi⟩
            obtain ⟨bf, fo, rfl, hBf, hclf⟩ := (Cells.of_own hof) (by rw [framesTo_length]; omega)
            have hc0 : wr.cell? ⟨bf, fo + i * 3, none⟩ = some (.int .i64 ((i : Int) + 1)) := hclf (i * 3) _ (framesTo_get hx hi 0 (by omega))
            have hc1 : wr.cell? ⟨bf, fo + i * 3 + 1, none⟩ = some (.int .i64 x) := hclf (i * 3 + 1) _ (framesTo_get hx hi 1 (by omega))
            have hc2 : wr.cell? ⟨bf, fo + i * 3 + 2, none⟩ = some (.int .i64 (keyedI k (i + 1) x)) := hclf (i * 3 + 2) _ (framesTo_get hx hi 2 (by omega))
            have hxw : isWordB x = true := by
              have := HW.out
              unfold wordsB at this
              rw [List.all_eq_true] at this
              exact this x (List.mem_of_getElem? hx)
            have hrb := recvB_frame (i := i) h1 hxw (show gotTo xs.length ys j ≤ 200 by omega)
            have HRB := hid hrb
            have hii : (0 : Int) ≤ (i : Int) := by omega
            have hii2 : (i : Int) < (xs.length : Int) := by omega
            have HXI := hid hx
            clear hrb hclf hx hxw
            generalize hgg : gotTo xs.length ys j = g at *
            have HGG := hid hgg
            clear hgg
            by_cases hig : i = g
            · subst hig
              have hst : gotStep xs.length i (i : Int) = i + 1 := by unfold gotStep; rw [if_pos (by omega)]
              have HST := hid hst
              have hrt : recvB k 0 i (i + 1) x (keyedI k (i + 1) x) = true := by rw [HRB.out]; simp
              have HRT := hid hrt
              clear hst hrt HRB
              go_upto_region 19 with (first | (go_at_call 50; refine (sWithin _ _ _ _).mono ?_; rintro e w' ⟨rfl, rfl⟩))
              have b_0 := hb
              have s_0 := b_0.size
              have t_0 := hbs
              clear hbs
              have t_lt := t_0.lt
              have cell_t := t_0.cell
              have froz_t := t_0.frozen
              have lt_t := t_0.lt
              have f_in := (fun q hq => And.intro (own_lo hof q hq) (hhi q hq))
              have f_0 := hof
              clear hof
              have o_in := hoin
              have o_0 := ho2
              clear ho2
              go_cut [17, 18, 19] (fun v17 v18 v19 wx => ∃ b17, v17 = .pointer (some ⟨b17, 0, none⟩) ∧ v18 = .int .i64 x ∧ v19 = .bool true ∧ wr.heap.size ≤ b17 ∧ Blk wx b17 27 #[.int .i64 k, .int .i64 0, .int .i64 (↑i + 1)] ∧ Below wr.heap.size wr wx)
              case first =>
                go_region_held3 (fun w' => w'.cell? ⟨wn.heap.size + 1, 0, none⟩ = some (.int .i64 k) ∧ w'.cell? ⟨wn.heap.size + 1, 1, none⟩ = some (.int .i64 0) ∧ w'.cell? ⟨wn.heap.size + 1, 2, none⟩ = some (.int .i64 i) ∧ w'.cell? ⟨b, off + j, none⟩ = some (.int .i64 ↑i) ∧ w'.cell? ⟨bf, fo + i * 3, none⟩ = some (.int .i64 (↑i + 1)) ∧ w'.cell? ⟨bf, fo + i * 3 + 1, none⟩ = some (.int .i64 x) ∧ w'.cell? ⟨bf, fo + i * 3 + 2, none⟩ = some (.int .i64 (keyedI k (i + 1) x))) (exact ⟨(Blk.cell (t := 27) (cs := #[.int .i64 k, .int .i64 0, .int .i64 i]) (by repeat (first | (with_reducible assumption) | (with_reducible apply Blk.drew) | (with_reducible apply Blk.new; first | rfl | (simp; done)) | (with_reducible apply Blk.alloc) | (with_reducible apply Blk.set_) | (with_reducible apply Blk.past; focus assumption) | (with_reducible apply Blk.far; focus (first | (simp; done) | (simp; omega) | (dsimp only; omega))))) 0), (Blk.cell (t := 27) (cs := #[.int .i64 k, .int .i64 0, .int .i64 i]) (by repeat (first | (with_reducible assumption) | (with_reducible apply Blk.drew) | (with_reducible apply Blk.new; first | rfl | (simp; done)) | (with_reducible apply Blk.alloc) | (with_reducible apply Blk.set_) | (with_reducible apply Blk.past; focus assumption) | (with_reducible apply Blk.far; focus (first | (simp; done) | (simp; omega) | (dsimp only; omega))))) 1), (Blk.cell (t := 27) (cs := #[.int .i64 k, .int .i64 0, .int .i64 i]) (by repeat (first | (with_reducible assumption) | (with_reducible apply Blk.drew) | (with_reducible apply Blk.new; first | rfl | (simp; done)) | (with_reducible apply Blk.alloc) | (with_reducible apply Blk.set_) | (with_reducible apply Blk.past; focus assumption) | (with_reducible apply Blk.far; focus (first | (simp; done) | (simp; omega) | (dsimp only; omega))))) 2), (cell_kept hcell (by repeat (first | (with_reducible exact Below.refl _ _) | (with_reducible refine Below.trans ?_ (Below.mono (by assumption) (by first | omega | (simp; done) | (simp; omega) | (simp [*]; done)))) | (with_reducible refine Below.alloc ?_ (by first | omega | (simp; done) | (simp; omega) | (simp [*]; done)) _) | (with_reducible refine Below.setCell ?_ (by first | omega | (simp; done) | (simp; omega) | (simp [*]; done)) _) | (with_reducible refine Below.drew ?_))) (by dsimp only; omega)), (cell_kept hc0 (by repeat (first | (with_reducible exact Below.refl _ _) | (with_reducible refine Below.trans ?_ (Below.mono (by assumption) (by first | omega | (simp; done) | (simp; omega) | (simp [*]; done)))) | (with_reducible refine Below.alloc ?_ (by first | omega | (simp; done) | (simp; omega) | (simp [*]; done)) _) | (with_reducible refine Below.setCell ?_ (by first | omega | (simp; done) | (simp; omega) | (simp [*]; done)) _) | (with_reducible refine Below.drew ?_))) (by dsimp only; omega)), (cell_kept hc1 (by repeat (first | (with_reducible exact Below.refl _ _) | (with_reducible refine Below.trans ?_ (Below.mono (by assumption) (by first | omega | (simp; done) | (simp; omega) | (simp [*]; done)))) | (with_reducible refine Below.alloc ?_ (by first | omega | (simp; done) | (simp; omega) | (simp [*]; done)) _) | (with_reducible refine Below.setCell ?_ (by first | omega | (simp; done) | (simp; omega) | (simp [*]; done)) _) | (with_reducible refine Below.drew ?_))) (by dsimp only; omega)), (cell_kept hc2 (by repeat (first | (with_reducible exact Below.refl _ _) | (with_reducible refine Below.trans ?_ (Below.mono (by assumption) (by first | omega | (simp; done) | (simp; omega) | (simp [*]; done)))) | (with_reducible refine Below.alloc ?_ (by first | omega | (simp; done) | (simp; omega) | (simp [*]; done)) _) | (with_reducible refine Below.setCell ?_ (by first | omega | (simp; done) | (simp; omega) | (simp [*]; done)) _) | (with_reducible refine Below.drew ?_))) (by dsimp only; omega))⟩) (((go_at_call 51; refine (sRecv_ok _ _ _ _ _ _ _ HRT.out).mono ?_; rintro e wz ⟨rfl, hbz⟩; (first | (with_reducible refine use_top2d hbz ?_; intro zt ct ft kt zt2 ct2 ft2 kt2; try simp only [World.size_alloc] at zt ct ft kt zt2 ct2 ft2 kt2) | (with_reducible refine use_topd hbz ?_; intro zt ct ft kt; try simp only [World.size_alloc] at zt ct ft kt) | skip); have sz := hbz.size; try simp at sz)))
                all_goals
                  go_wp2_with fail
                  go_meet
                  exact ⟨_, rfl, rfl, rfl, by first | exact Nat.le_refl _ | omega | (simp; done) | (simp; omega), by (first | ((repeat (first | (with_reducible assumption) | (with_reducible apply Blk.drew) | (with_reducible apply Blk.new; first | rfl | (simp; done)) | (with_reducible apply Blk.alloc) | (with_reducible apply Blk.set_) | (with_reducible apply Blk.past; focus assumption) | (with_reducible apply Blk.far; focus (first | (simp; done) | (simp; omega) | (dsimp only; omega))))); done) | (apply Blk.cast; (case h => (repeat (first | (with_reducible assumption) | (with_reducible apply Blk.drew) | (with_reducible apply Blk.new; first | rfl | (simp; done)) | (with_reducible apply Blk.alloc) | (with_reducible apply Blk.set_) | (with_reducible apply Blk.past; focus assumption) | (with_reducible apply Blk.far; focus (first | (simp; done) | (simp; omega) | (dsimp only; omega)))))); (case e => rfl))), by repeat (first | (with_reducible exact Below.refl _ _) | (with_reducible refine Below.trans ?_ (Below.mono (by assumption) (by first | omega | (simp; done) | (simp; omega) | (simp [*]; done)))) | (with_reducible refine Below.alloc ?_ (by first | omega | (simp; done) | (simp; omega) | (simp [*]; done)) _) | (with_reducible refine Below.setCell ?_ (by first | omega | (simp; done) | (simp; omega) | (simp [*]; done)) _) | (with_reducible refine Below.drew ?_))⟩
              case rest =>
                obtain ⟨b_nx, rfl, rfl, rfl, nx_ge, nx_1, hb1⟩ := hcut
                obtain ⟨w1, rfl⟩ : ∃ z : World, z = wc := ⟨_, rfl⟩
                have s1 := hb1.size
                have b_1 := b_0.trans (hb1.mono (by omega))
                have f_1 := own_below f_0 hb1
                have o_1 := own_below o_0 hb1
                have t_1 := Blk.past hb1 t_0
                clear f_0 o_0 t_0 b_0 cell_t froz_t lt_t hb1
                have nx_lt := nx_1.lt
                have cell_t := t_1.cell
                have froz_t := t_1.frozen
                have lt_t := t_1.lt
                have cell_nx := nx_1.cell
                have froz_nx := nx_1.frozen
                have lt_nx := nx_1.lt
                clear hc0 hc1 hc2
                go_upto_region 22 with fail
                refine wp_touch1 (w0 := w1) (L := [wn.heap.size + 1]) (b0 := wn.heap.size + 1) (t0 := 27) (c0 := #[.int .i64 k, .int .i64 0, .int .i64 (↑i + 1)]) ?_ ?_ ?_
                (focus (first | ((repeat (first | (with_reducible assumption) | (with_reducible apply Blk.drew) | (with_reducible apply Blk.new; first | rfl | (simp; done)) | (with_reducible apply Blk.alloc) | (with_reducible apply Blk.set_) | (with_reducible apply Blk.past; focus assumption) | (with_reducible apply Blk.far; focus (first | (simp; done) | (simp; omega) | (dsimp only; omega))))); done) | (apply Blk.cast; (case h => (repeat (first | (with_reducible assumption) | (with_reducible apply Blk.drew) | (with_reducible apply Blk.new; first | rfl | (simp; done)) | (with_reducible apply Blk.alloc) | (with_reducible apply Blk.set_) | (with_reducible apply Blk.past; focus assumption) | (with_reducible apply Blk.far; focus (first | (simp; done) | (simp; omega) | (dsimp only; omega)))))); (case e => rfl))))
                (focus (repeat (first | (with_reducible exact Touch.refl _ _) | (with_reducible apply Touch.drew) | (with_reducible apply Touch.alloc) | (with_reducible refine Touch.set_ ?_ _ _ (by simp; done)) | (with_reducible refine Touch.set_new ?_ _ _ (by first | omega | (simp; omega) | (dsimp only; omega))))))
                intro w2 t_2 hX2
                have sX2 := hX2.size
                have b_2 := hX2.below b_1 (by first | (simp; done) | (simp; omega))
                have f_2 := own_touch' hX2 f_1 (fun q hq => by have h1 := f_in q hq; simp; omega)
                have o_2 := own_touch' hX2 o_1 (fun q hq => by have h1 := o_in q hq; simp; omega)
                have nx_2 := Blk.touch hX2 nx_1 (by first | (simp; done) | (simp; omega))
                clear f_1 o_1 t_1 nx_1 b_1 cell_t froz_t lt_t cell_nx froz_nx lt_nx hX2
                have cell_t := t_2.cell
                have froz_t := t_2.frozen
                have lt_t := t_2.lt
                have cell_nx := nx_2.cell
                have froz_nx := nx_2.frozen
                have lt_nx := nx_2.lt
                clear cell_nx froz_nx lt_nx
                clear nx_2
                go_wp2_with (at_builtin; refine wpList_appi rfl _ _ 24 rfl w.heap.size 3 (.int .i64 0) 1 8 Try.underlying24 infoInt rfl (by decide) _ i _ rfl (o_2.alloc _) ⟨w2.heap.size, 0, none⟩ 1 1 _ rfl rfl (one_new _ _ _) (one_one _) (by omega) (by decide) (by simp; omega) ?_)
                intro A_o c_o w3 o_3 hg3 li3
                have hg3 := grown_alloc hg3
                try simp only [World.size_alloc] at li3
                have s3 := hg3.size
                have b_3 := gr_below hg3 b_2 (by omega) (fun q hq => by have h1 := o_in q hq; omega)
                have f_3 := gr_own hg3 f_2 (fun q p hq hp => by have h1 := o_in q hq; have h2 := f_in p hp; omega)
                have t_3 := gr_blk hg3 t_2 (fun q hq => by have h1 := o_in q hq; omega)
                have o_ix : ∀ q, (Value.slice A_o (i + 1) c_o).ownBlock = some q → q = w.heap.size ∨ wo.heap.size ≤ q := (fun q hq => by have h3 := (own_in o_3 q hq).2; rcases li3 q hq with h | h; (have h1 := o_in q h; omega); omega)
                clear f_2 o_2 t_2 b_2 cell_t froz_t lt_t hg3 li3 o_in
                have o_in := o_ix
                clear o_ix
                have cell_t := t_3.cell
                have froz_t := t_3.frozen
                have lt_t := t_3.lt
                rw [← ints_snoc, ← take_snoc HXI.out] at o_3
                go_wp2
                go_roundw
                case rel => exact ⟨j + 1, A_o, c_o, by omega, by go_num, by rw [HG.out, HST.out], by rw [HG.out, HST.out]; exact o_3, by rw [HG.out, HST.out]; exact o_in, by rw [HG.out, HST.out]; exact t_3, f_3, b_3, by omega⟩
                case measure => simp [intOf]; omega
            · have hst : gotStep xs.length g (i : Int) = g := by unfold gotStep; rw [if_neg (by omega)]
              have HST := hid hst
              have hrt : recvB k 0 g (i + 1) x (keyedI k (i + 1) x) = false := by rw [HRB.out]; simpa using hig
              have HRT := hid hrt
              clear hst hrt HRB
              have HIG := hid hig
              clear hig
              go_upto_region 19 with (first | (go_at_call 50; refine (sWithin _ _ _ _).mono ?_; rintro e w' ⟨rfl, rfl⟩))
              have b_0 := hb
              have s_0 := b_0.size
              have t_0 := hbs
              clear hbs
              have t_lt := t_0.lt
              have cell_t := t_0.cell
              have froz_t := t_0.frozen
              have lt_t := t_0.lt
              have f_in := (fun q hq => And.intro (own_lo hof q hq) (hhi q hq))
              have f_0 := hof
              clear hof
              have o_in := hoin
              have o_0 := ho2
              clear ho2
              go_cut [17, 18, 19] (fun v17 v18 v19 wx => ∃ b17, v17 = .pointer (some ⟨b17, 0, none⟩) ∧ v18 = .int .i64 0 ∧ v19 = .bool false ∧ wr.heap.size ≤ b17 ∧ Blk wx b17 27 #[.int .i64 k, .int .i64 0, .int .i64 g] ∧ Below wr.heap.size wr wx)
              case first =>
                go_region_held3 (fun w' => w'.cell? ⟨wn.heap.size + 1, 0, none⟩ = some (.int .i64 k) ∧ w'.cell? ⟨wn.heap.size + 1, 1, none⟩ = some (.int .i64 0) ∧ w'.cell? ⟨wn.heap.size + 1, 2, none⟩ = some (.int .i64 g) ∧ w'.cell? ⟨b, off + j, none⟩ = some (.int .i64 ↑i) ∧ w'.cell? ⟨bf, fo + i * 3, none⟩ = some (.int .i64 (↑i + 1)) ∧ w'.cell? ⟨bf, fo + i * 3 + 1, none⟩ = some (.int .i64 x) ∧ w'.cell? ⟨bf, fo + i * 3 + 2, none⟩ = some (.int .i64 (keyedI k (i + 1) x))) (exact ⟨(Blk.cell (t := 27) (cs := #[.int .i64 k, .int .i64 0, .int .i64 g]) (by repeat (first | (with_reducible assumption) | (with_reducible apply Blk.drew) | (with_reducible apply Blk.new; first | rfl | (simp; done)) | (with_reducible apply Blk.alloc) | (with_reducible apply Blk.set_) | (with_reducible apply Blk.past; focus assumption) | (with_reducible apply Blk.far; focus (first | (simp; done) | (simp; omega) | (dsimp only; omega))))) 0), (Blk.cell (t := 27) (cs := #[.int .i64 k, .int .i64 0, .int .i64 g]) (by repeat (first | (with_reducible assumption) | (with_reducible apply Blk.drew) | (with_reducible apply Blk.new; first | rfl | (simp; done)) | (with_reducible apply Blk.alloc) | (with_reducible apply Blk.set_) | (with_reducible apply Blk.past; focus assumption) | (with_reducible apply Blk.far; focus (first | (simp; done) | (simp; omega) | (dsimp only; omega))))) 1), (Blk.cell (t := 27) (cs := #[.int .i64 k, .int .i64 0, .int .i64 g]) (by repeat (first | (with_reducible assumption) | (with_reducible apply Blk.drew) | (with_reducible apply Blk.new; first | rfl | (simp; done)) | (with_reducible apply Blk.alloc) | (with_reducible apply Blk.set_) | (with_reducible apply Blk.past; focus assumption) | (with_reducible apply Blk.far; focus (first | (simp; done) | (simp; omega) | (dsimp only; omega))))) 2), (cell_kept hcell (by repeat (first | (with_reducible exact Below.refl _ _) | (with_reducible refine Below.trans ?_ (Below.mono (by assumption) (by first | omega | (simp; done) | (simp; omega) | (simp [*]; done)))) | (with_reducible refine Below.alloc ?_ (by first | omega | (simp; done) | (simp; omega) | (simp [*]; done)) _) | (with_reducible refine Below.setCell ?_ (by first | omega | (simp; done) | (simp; omega) | (simp [*]; done)) _) | (with_reducible refine Below.drew ?_))) (by dsimp only; omega)), (cell_kept hc0 (by repeat (first | (with_reducible exact Below.refl _ _) | (with_reducible refine Below.trans ?_ (Below.mono (by assumption) (by first | omega | (simp; done) | (simp; omega) | (simp [*]; done)))) | (with_reducible refine Below.alloc ?_ (by first | omega | (simp; done) | (simp; omega) | (simp [*]; done)) _) | (with_reducible refine Below.setCell ?_ (by first | omega | (simp; done) | (simp; omega) | (simp [*]; done)) _) | (with_reducible refine Below.drew ?_))) (by dsimp only; omega)), (cell_kept hc1 (by repeat (first | (with_reducible exact Below.refl _ _) | (with_reducible refine Below.trans ?_ (Below.mono (by assumption) (by first | omega | (simp; done) | (simp; omega) | (simp [*]; done)))) | (with_reducible refine Below.alloc ?_ (by first | omega | (simp; done) | (simp; omega) | (simp [*]; done)) _) | (with_reducible refine Below.setCell ?_ (by first | omega | (simp; done) | (simp; omega) | (simp [*]; done)) _) | (with_reducible refine Below.drew ?_))) (by dsimp only; omega)), (cell_kept hc2 (by repeat (first | (with_reducible exact Below.refl _ _) | (with_reducible refine Below.trans ?_ (Below.mono (by assumption) (by first | omega | (simp; done) | (simp; omega) | (simp [*]; done)))) | (with_reducible refine Below.alloc ?_ (by first | omega | (simp; done) | (simp; omega) | (simp [*]; done)) _) | (with_reducible refine Below.setCell ?_ (by first | omega | (simp; done) | (simp; omega) | (simp [*]; done)) _) | (with_reducible refine Below.drew ?_))) (by dsimp only; omega))⟩) (((go_at_call 51; refine (sRecv_no _ _ _ _ _ _ _ HRT.out).mono ?_; rintro e wz ⟨rfl, hbz⟩; (first | (with_reducible refine use_top2d hbz ?_; intro zt ct ft kt zt2 ct2 ft2 kt2; try simp only [World.size_alloc] at zt ct ft kt zt2 ct2 ft2 kt2) | (with_reducible refine use_topd hbz ?_; intro zt ct ft kt; try simp only [World.size_alloc] at zt ct ft kt) | skip); have sz := hbz.size; try simp at sz)))
                all_goals
                  go_wp2_with fail
                  go_meet
                  exact ⟨_, rfl, rfl, rfl, by first | exact Nat.le_refl _ | omega | (simp; done) | (simp; omega), by (first | ((repeat (first | (with_reducible assumption) | (with_reducible apply Blk.drew) | (with_reducible apply Blk.new; first | rfl | (simp; done)) | (with_reducible apply Blk.alloc) | (with_reducible apply Blk.set_) | (with_reducible apply Blk.past; focus assumption) | (with_reducible apply Blk.far; focus (first | (simp; done) | (simp; omega) | (dsimp only; omega))))); done) | (apply Blk.cast; (case h => (repeat (first | (with_reducible assumption) | (with_reducible apply Blk.drew) | (with_reducible apply Blk.new; first | rfl | (simp; done)) | (with_reducible apply Blk.alloc) | (with_reducible apply Blk.set_) | (with_reducible apply Blk.past; focus assumption) | (with_reducible apply Blk.far; focus (first | (simp; done) | (simp; omega) | (dsimp only; omega)))))); (case e => rfl))), by repeat (first | (with_reducible exact Below.refl _ _) | (with_reducible refine Below.trans ?_ (Below.mono (by assumption) (by first | omega | (simp; done) | (simp; omega) | (simp [*]; done)))) | (with_reducible refine Below.alloc ?_ (by first | omega | (simp; done) | (simp; omega) | (simp [*]; done)) _) | (with_reducible refine Below.setCell ?_ (by first | omega | (simp; done) | (simp; omega) | (simp [*]; done)) _) | (with_reducible refine Below.drew ?_))⟩
              case rest =>
                obtain ⟨b_nx, rfl, rfl, rfl, nx_ge, nx_1, hb1⟩ := hcut
                obtain ⟨w1, rfl⟩ : ∃ z : World, z = wc := ⟨_, rfl⟩
                have s1 := hb1.size
                have b_1 := b_0.trans (hb1.mono (by omega))
                have f_1 := own_below f_0 hb1
                have o_1 := own_below o_0 hb1
                have t_1 := Blk.past hb1 t_0
                clear f_0 o_0 t_0 b_0 cell_t froz_t lt_t hb1
                have nx_lt := nx_1.lt
                have cell_t := t_1.cell
                have froz_t := t_1.frozen
                have lt_t := t_1.lt
                have cell_nx := nx_1.cell
                have froz_nx := nx_1.frozen
                have lt_nx := nx_1.lt
                clear hc0 hc1 hc2
                go_upto_region 21 with fail
                refine wp_touch1 (w0 := w1) (L := [wn.heap.size + 1]) (b0 := wn.heap.size + 1) (t0 := 27) (c0 := #[.int .i64 k, .int .i64 0, .int .i64 g]) ?_ ?_ ?_
                (focus (first | ((repeat (first | (with_reducible assumption) | (with_reducible apply Blk.drew) | (with_reducible apply Blk.new; first | rfl | (simp; done)) | (with_reducible apply Blk.alloc) | (with_reducible apply Blk.set_) | (with_reducible apply Blk.past; focus assumption) | (with_reducible apply Blk.far; focus (first | (simp; done) | (simp; omega) | (dsimp only; omega))))); done) | (apply Blk.cast; (case h => (repeat (first | (with_reducible assumption) | (with_reducible apply Blk.drew) | (with_reducible apply Blk.new; first | rfl | (simp; done)) | (with_reducible apply Blk.alloc) | (with_reducible apply Blk.set_) | (with_reducible apply Blk.past; focus assumption) | (with_reducible apply Blk.far; focus (first | (simp; done) | (simp; omega) | (dsimp only; omega)))))); (case e => rfl))))
                (focus (repeat (first | (with_reducible exact Touch.refl _ _) | (with_reducible apply Touch.drew) | (with_reducible apply Touch.alloc) | (with_reducible refine Touch.set_ ?_ _ _ (by simp; done)) | (with_reducible refine Touch.set_new ?_ _ _ (by first | omega | (simp; omega) | (dsimp only; omega))))))
                intro w2 t_2 hX2
                have sX2 := hX2.size
                have b_2 := hX2.below b_1 (by first | (simp; done) | (simp; omega))
                have f_2 := own_touch' hX2 f_1 (fun q hq => by have h1 := f_in q hq; simp; omega)
                have o_2 := own_touch' hX2 o_1 (fun q hq => by have h1 := o_in q hq; simp; omega)
                have nx_2 := Blk.touch hX2 nx_1 (by first | (simp; done) | (simp; omega))
                clear f_1 o_1 t_1 nx_1 b_1 cell_t froz_t lt_t cell_nx froz_nx lt_nx hX2
                have cell_t := t_2.cell
                have froz_t := t_2.frozen
                have lt_t := t_2.lt
                have cell_nx := nx_2.cell
                have froz_nx := nx_2.frozen
                have lt_nx := nx_2.lt
                go_wp2
                go_roundw
                case rel => exact ⟨j + 1, A2, c2, by omega, by go_num, by rw [HG.out, HST.out], by rw [HG.out, HST.out]; exact o_2, by rw [HG.out, HST.out]; exact o_in, by rw [HG.out, HST.out]; exact t_2, f_2, b_2, by omega⟩
                case measure => simp [intOf]; omega
          · have hst : gotStep xs.length (gotTo xs.length ys j) o = gotTo xs.length ys j := by unfold gotStep; rw [if_neg (by omega)]
            have HST := hid hst
            have hib : inB o 0 ((xs.length : Int) - 1) = false := inB_no.2 (by omega)
            clear hst
            go_wp2_with (first | (go_at_call 50; refine (sWithin _ _ _ _).mono ?_; rintro e w' ⟨rfl, rfl⟩))
            go_roundw
            case rel => exact ⟨j + 1, A2, c2, by omega, by go_num, by rw [HG.out, HST.out], by rw [HG.out, HST.out]; exact ho2, by rw [HG.out, HST.out]; exact hoin, by rw [HG.out, HST.out]; exact hbs, hof, hb, hle⟩
            case measure => simp [intOf]; omega
        · obtain rfl : j = ys.length := by omega
          go_wp2
          go_ret
          have el : (xs.take (gotTo xs.length ys ys.length)).length = gotTo xs.length ys ys.length := by rw [List.length_take]; omega
          unfold GivesInts
          rw [HE.out, el]
          exact ⟨A2, c2, rfl, ho2, hb⟩
end Go.Proofs.Ytdfomahaplcgoaa
