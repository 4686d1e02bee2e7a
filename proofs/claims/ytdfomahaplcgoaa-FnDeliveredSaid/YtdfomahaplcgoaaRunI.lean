/- RunFrames, in the program. -/
import Derived.Test.YtdfomahaplcgoaaRunPlain
namespace Go.Proofs.Ytdfomahaplcgoaa
open Go.RowKit

theorem iSend_ok (k s g b : Int) (w : World) (hs : sendB k s g b = true) :
    Calls Try.prog 14 #[.agg #[.int .i64 k, .int .i64 s, .int .i64 g], .int .i64 b] w fun e w' =>
      e = .returned (.tuple #[.agg #[.int .i64 k, .int .i64 (s + 1), .int .i64 g], .agg #[.int .i64 (s + 1), .int .i64 b, .int .i64 (keyedI k (s + 1) b)], .bool true]) ∧ Below w.heap.size w w' := by
  have h := iSendFrame k s g b w
  rw [hs] at h
  exact h
theorem iRecv_ok (k s g q b t : Int) (w : World) (hs : recvB k s g q b t = true) :
    Calls Try.prog 15 #[.agg #[.int .i64 k, .int .i64 s, .int .i64 g], .agg #[.int .i64 q, .int .i64 b, .int .i64 t]] w fun e w' =>
      e = .returned (.tuple #[.agg #[.int .i64 k, .int .i64 s, .int .i64 (g + 1)], .int .i64 b, .bool true]) ∧ Below w.heap.size w w' := by
  have h := iRecvFrame k s g q b t w
  rw [hs] at h
  exact h
theorem iRecv_no (k s g q b t : Int) (w : World) (hs : recvB k s g q b t = false) :
    Calls Try.prog 15 #[.agg #[.int .i64 k, .int .i64 s, .int .i64 g], .agg #[.int .i64 q, .int .i64 b, .int .i64 t]] w fun e w' =>
      e = .returned (.tuple #[.agg #[.int .i64 k, .int .i64 s, .int .i64 g], .int .i64 0, .bool false]) ∧ Below w.heap.size w w' := by
  have h := iRecvFrame k s g q b t w
  rw [hs] at h
  exact h
theorem iSend_no (k s g b : Int) (w : World) (hs : sendB k s g b = false) :
    Calls Try.prog 14 #[.agg #[.int .i64 k, .int .i64 s, .int .i64 g], .int .i64 b] w fun e w' =>
      e = .returned (.tuple #[.agg #[.int .i64 k, .int .i64 s, .int .i64 g], .agg #[.int .i64 0, .int .i64 0, .int .i64 0], .bool false]) ∧ Below w.heap.size w w' := by
  have h := iSendFrame k s g b w
  rw [hs] at h
  exact h
set_option maxHeartbeats 3200000 in
theorem iRunFrames (k : Int) (A B : Option Addr) (c d : Nat) (xs ys : List Int) (w : World) (hx : Cells w w.heap.size A (ints xs)) (hy : Cells w w.heap.size B (ints ys)) (hn : xs.length ≤ 1000000000) (hm : ys.length ≤ 1000000000) :
    Calls Try.prog 24 #[.int .i64 k, .slice A xs.length c, .slice B ys.length d] w (GivesInts w (runL k xs ys)) := by
  have hR : runL k xs ys = if runB k xs ys then xs.take (gotTo xs.length ys ys.length) else [] := rfl
  have HR := hid hR
  clear hR
  have HX := hid hx
  have HY := hid hy
  clear hx hy
  cases h1 : isWordB k
  · go_enter Try.func24, Try.ntmps24
    go_wp2_with (go_at_call 22; refine (iIsWord _ _).mono ?_; rintro e w' ⟨rfl, rfl⟩)
    go_ret
    have e : runL k xs ys = [] := by rw [HR.out]; unfold runB; rw [h1]; rfl
    rw [e]
    exact ⟨none, 0, rfl, World.ownsRow_nil _ _ _ _, Below.refl _ _⟩
  by_cases hxl : xs.length ≤ 200
  rotate_left
  · go_enter Try.func24, Try.ntmps24
    go_wp2_with (go_at_call 22; refine (iIsWord _ _).mono ?_; rintro e w' ⟨rfl, rfl⟩)
    go_ret
    have e : runL k xs ys = [] := by rw [HR.out]; unfold runB; simp [hxl]
    rw [e]
    exact ⟨none, 0, rfl, World.ownsRow_nil _ _ _ _, Below.refl _ _⟩
  by_cases hyl : ys.length ≤ 200
  rotate_left
  · go_enter Try.func24, Try.ntmps24
    go_wp2_with (go_at_call 22; refine (iIsWord _ _).mono ?_; rintro e w' ⟨rfl, rfl⟩)
    go_ret
    have e : runL k xs ys = [] := by rw [HR.out]; unfold runB; simp [hyl]
    rw [e]
    exact ⟨none, 0, rfl, World.ownsRow_nil _ _ _ _, Below.refl _ _⟩
  go_enter Try.func24, Try.ntmps24
  go_wp2_with (go_at_call 22; refine (iIsWord _ _).mono ?_; rintro e w' ⟨rfl, rfl⟩)
  go_loopw [8, 10, 11, 12, 13, 39] (fun o _ _ _ _ i wr => ∃ (j : Nat) (A' : Option Addr) (c' : Nat), j ≤ xs.length ∧ i = .int .i64 j ∧ o = .slice A' j c' ∧ wr.ownsRow (w.heap.size + 1) 31 3 (.slice A' j c') j (framesTo k xs j) ∧
    Blk wr w.heap.size 27 #[.int .i64 k, .int .i64 j, .int .i64 0] ∧ Below w.heap.size w wr ∧ wordsB (xs.take j) = true) (fun _ _ _ _ _ i _ => xs.length - (intOf i).toNat)
  case atStart => exact ⟨0, some ⟨w.heap.size + 1, 0, none⟩, 0, Nat.zero_le _, rfl, rfl, own_lit (size := 3) #[] 0 (by simp) (Nat.le_refl _) (Nat.zero_le _) rfl, by (first | ((repeat (first | (with_reducible assumption) | (with_reducible apply Blk.drew) | (with_reducible apply Blk.new; first | rfl | (simp; done)) | (with_reducible apply Blk.alloc) | (with_reducible apply Blk.set_) | (with_reducible apply Blk.past; focus assumption) | (with_reducible apply Blk.far; focus (first | (simp; done) | (simp; omega) | (dsimp only; omega))))); done) | (apply Blk.cast; (case h => (repeat (first | (with_reducible assumption) | (with_reducible apply Blk.drew) | (with_reducible apply Blk.new; first | rfl | (simp; done)) | (with_reducible apply Blk.alloc) | (with_reducible apply Blk.set_) | (with_reducible apply Blk.past; focus assumption) | (with_reducible apply Blk.far; focus (first | (simp; done) | (simp; omega) | (dsimp only; omega)))))); (case e => rfl))), by repeat (first | (with_reducible exact Below.refl _ _) | (with_reducible refine Below.trans ?_ (Below.mono (by assumption) (by first | omega | (simp; done) | (simp; omega) | (simp [*]; done)))) | (with_reducible refine Below.alloc ?_ (by first | omega | (simp; done) | (simp; omega) | (simp [*]; done)) _) | (with_reducible refine Below.setCell ?_ (by first | omega | (simp; done) | (simp; omega) | (simp [*]; done)) _) | (with_reducible refine Below.drew ?_)), rfl⟩
  case round =>
    obtain ⟨j, A', c', hj, rfl, rfl, hown, hbs, hb, hw⟩ := hrel
    by_cases hlt : j < xs.length
    · obtain ⟨x, hx⟩ : ∃ x, xs[j]? = some x := ⟨_, List.getElem?_eq_getElem hlt⟩
      have hcx := HX.out.below hb
      obtain ⟨b, off, rfl, hB, hcl⟩ := HX.out (by rw [ints_length]; omega)
      have hcell : wr.cell? ⟨b, off + j, none⟩ = some (.int .i64 x) := (hb.cell (p := ⟨b, off + j, none⟩) hB).trans (hcl j _ (ints_get hx))
      have hsb := sendB_word (x := x) h1 (show j ≤ 200 by omega)
      have HS := hid hsb
      have HXJ := hid hx
      have HW := hid hw
      have hhi := own_hi hown
      clear hcl hcx hsb hx hw
      cases hxw : isWordB x
      · skip
        have b_0 := hb
        have s_0 := b_0.size
        have s_0 := hbs
        clear hbs
        have s_lt := s_0.lt
        have cell_s := s_0.cell
        have froz_s := s_0.frozen
        have lt_s := s_0.lt
        go_wp2_with fail
        refine calls_forget0 (W := wr) ?_ ?_
        (focus (repeat (first | (with_reducible exact Below.refl _ _) | (with_reducible refine Below.trans ?_ (Below.mono (by assumption) (by first | omega | (simp; done) | (simp; omega) | (simp [*]; done)))) | (with_reducible refine Below.alloc ?_ (by first | omega | (simp; done) | (simp; omega) | (simp [*]; done)) _) | (with_reducible refine Below.setCell ?_ (by first | omega | (simp; done) | (simp; omega) | (simp [*]; done)) _) | (with_reducible refine Below.drew ?_))))
        intro X1 hX1
        have sX1 := hX1.size
        refine (iSend_no _ _ _ _ _ (by rw [HS.out, hxw])).mono ?_
        rintro e w1 ⟨rfl, hb1⟩
        have s1 := hb1.size
        have hT1 := hX1.trans (hb1.mono sX1)
        have b_1 := b_0.trans (hT1.mono (by omega))
        have s_1 := Blk.past hT1 s_0
        clear s_0 b_0 cell_s froz_s lt_s hX1 hT1 hb1
        have cell_s := s_1.cell
        have froz_s := s_1.frozen
        have lt_s := s_1.lt
        go_wp2
        go_ret
        have e : runL k xs ys = [] := by rw [HR.out]; unfold runB; rw [wordsB_no HXJ.out hxw]; simp
        rw [e]
        refine ⟨none, 0, rfl, World.ownsRow_nil _ _ _ _, ?_⟩
        repeat (first | (with_reducible exact Below.refl _ _) | (with_reducible refine Below.trans ?_ (Below.mono (by assumption) (by first | omega | (simp; done) | (simp; omega) | (simp [*]; done)))) | (with_reducible refine Below.alloc ?_ (by first | omega | (simp; done) | (simp; omega) | (simp [*]; done)) _) | (with_reducible refine Below.setCell ?_ (by first | omega | (simp; done) | (simp; omega) | (simp [*]; done)) _) | (with_reducible refine Below.drew ?_))
      · skip
        have b_0 := hb
        have s_0 := b_0.size
        have s_0 := hbs
        clear hbs
        have s_lt := s_0.lt
        have cell_s := s_0.cell
        have froz_s := s_0.frozen
        have lt_s := s_0.lt
        have f_in := own_in hown
        have f_0 := hown
        clear hown
        go_wp2_with fail
        refine calls_forget0 (W := wr) ?_ ?_
        (focus (repeat (first | (with_reducible exact Below.refl _ _) | (with_reducible refine Below.trans ?_ (Below.mono (by assumption) (by first | omega | (simp; done) | (simp; omega) | (simp [*]; done)))) | (with_reducible refine Below.alloc ?_ (by first | omega | (simp; done) | (simp; omega) | (simp [*]; done)) _) | (with_reducible refine Below.setCell ?_ (by first | omega | (simp; done) | (simp; omega) | (simp [*]; done)) _) | (with_reducible refine Below.drew ?_))))
        intro X1 hX1
        have sX1 := hX1.size
        refine (iSend_ok _ _ _ _ _ (by rw [HS.out, hxw])).mono ?_
        rintro e w1 ⟨rfl, hb1⟩
        have s1 := hb1.size
        have hT1 := hX1.trans (hb1.mono sX1)
        have b_1 := b_0.trans (hT1.mono (by omega))
        have f_1 := own_below f_0 hT1
        have s_1 := Blk.past hT1 s_0
        clear f_0 s_0 b_0 cell_s froz_s lt_s hX1 hT1 hb1
        have cell_s := s_1.cell
        have froz_s := s_1.frozen
        have lt_s := s_1.lt
        go_upto_region 12 with fail
        refine wp_touch3 (w0 := w1) (L := [w.heap.size]) (b0 := w.heap.size) (t0 := 27) (c0 := #[.int .i64 k, .int .i64 (j + 1), .int .i64 0]) (b1 := w1.heap.size) (t1 := 27) (c1 := #[.int .i64 k, .int .i64 (j + 1), .int .i64 0]) (b2 := w1.heap.size + 1) (t2 := 31) (c2 := #[.int .i64 (j + 1), .int .i64 x, .int .i64 (keyedI k (j + 1) x)]) ?_ ?_ ?_ ?_ ?_
        (focus (first | ((repeat (first | (with_reducible assumption) | (with_reducible apply Blk.drew) | (with_reducible apply Blk.new; first | rfl | (simp; done)) | (with_reducible apply Blk.alloc) | (with_reducible apply Blk.set_) | (with_reducible apply Blk.past; focus assumption) | (with_reducible apply Blk.far; focus (first | (simp; done) | (simp; omega) | (dsimp only; omega))))); done) | (apply Blk.cast; (case h => (repeat (first | (with_reducible assumption) | (with_reducible apply Blk.drew) | (with_reducible apply Blk.new; first | rfl | (simp; done)) | (with_reducible apply Blk.alloc) | (with_reducible apply Blk.set_) | (with_reducible apply Blk.past; focus assumption) | (with_reducible apply Blk.far; focus (first | (simp; done) | (simp; omega) | (dsimp only; omega)))))); (case e => rfl))))
        (focus (first | ((repeat (first | (with_reducible assumption) | (with_reducible apply Blk.drew) | (with_reducible apply Blk.new; first | rfl | (simp; done)) | (with_reducible apply Blk.alloc) | (with_reducible apply Blk.set_) | (with_reducible apply Blk.past; focus assumption) | (with_reducible apply Blk.far; focus (first | (simp; done) | (simp; omega) | (dsimp only; omega))))); done) | (apply Blk.cast; (case h => (repeat (first | (with_reducible assumption) | (with_reducible apply Blk.drew) | (with_reducible apply Blk.new; first | rfl | (simp; done)) | (with_reducible apply Blk.alloc) | (with_reducible apply Blk.set_) | (with_reducible apply Blk.past; focus assumption) | (with_reducible apply Blk.far; focus (first | (simp; done) | (simp; omega) | (dsimp only; omega)))))); (case e => rfl))))
        (focus (first | ((repeat (first | (with_reducible assumption) | (with_reducible apply Blk.drew) | (with_reducible apply Blk.new; first | rfl | (simp; done)) | (with_reducible apply Blk.alloc) | (with_reducible apply Blk.set_) | (with_reducible apply Blk.past; focus assumption) | (with_reducible apply Blk.far; focus (first | (simp; done) | (simp; omega) | (dsimp only; omega))))); done) | (apply Blk.cast; (case h => (repeat (first | (with_reducible assumption) | (with_reducible apply Blk.drew) | (with_reducible apply Blk.new; first | rfl | (simp; done)) | (with_reducible apply Blk.alloc) | (with_reducible apply Blk.set_) | (with_reducible apply Blk.past; focus assumption) | (with_reducible apply Blk.far; focus (first | (simp; done) | (simp; omega) | (dsimp only; omega)))))); (case e => rfl))))
        (focus (repeat (first | (with_reducible exact Touch.refl _ _) | (with_reducible apply Touch.drew) | (with_reducible apply Touch.alloc) | (with_reducible refine Touch.set_ ?_ _ _ (by simp; done)) | (with_reducible refine Touch.set_new ?_ _ _ (by first | omega | (simp; omega) | (dsimp only; omega))))))
        intro w2 s_2 nf_2 ff_2 hX2
        have sX2 := hX2.size
        have nf_lt := nf_2.lt
        have ff_lt := ff_2.lt
        have b_2 := hX2.below b_1 (by first | (simp; done) | (simp; omega))
        have f_2 := own_touch' hX2 f_1 (fun q hq => by have h1 := f_in q hq; simp; omega)
        clear f_1 s_1 b_1 cell_s froz_s lt_s hX2
        have cell_s := s_2.cell
        have froz_s := s_2.frozen
        have lt_s := s_2.lt
        have cell_nf := nf_2.cell
        have froz_nf := nf_2.frozen
        have lt_nf := nf_2.lt
        have cell_ff := ff_2.cell
        have froz_ff := ff_2.frozen
        have lt_ff := ff_2.lt
        clear cell_nf froz_nf lt_nf
        clear nf_2
        go_wp2_with (at_builtin; refine wpList_appi rfl _ _ 75 rfl (w.heap.size + 1) 31 (.agg #[.int .i64 0, .int .i64 0, .int .i64 0]) 3 24 Try.underlying75 infoFrame rfl (by decide) _ j _ rfl (f_2.alloc _) ⟨w2.heap.size, 0, none⟩ 1 1 _ rfl rfl (many_new _ (frame3 k x j) _) (three_one _ _ _) (by omega) (by decide) (by simp; omega) ?_)
        intro A_f c_f w3 f_3 hg3 li3
        have hg3 := grown_alloc hg3
        try simp only [World.size_alloc] at li3
        have s3 := hg3.size
        have b_3 := gr_below hg3 b_2 (by omega) (fun q hq => by have h1 := f_in q hq; omega)
        have s_3 := gr_blk hg3 s_2 (fun q hq => by have h1 := f_in q hq; omega)
        have ff_3 := gr_blk hg3 ff_2 (fun q hq => by have h1 := f_in q hq; omega)
        have f_ix := own_in f_3
        clear f_2 s_2 ff_2 b_2 cell_s froz_s lt_s cell_ff froz_ff lt_ff hg3 li3 f_in
        have f_in := f_ix
        clear f_ix
        have cell_s := s_3.cell
        have froz_s := s_3.frozen
        have lt_s := s_3.lt
        have cell_ff := ff_3.cell
        have froz_ff := ff_3.frozen
        have lt_ff := ff_3.lt
        rw [← framesTo_succ HXJ.out] at f_3
        go_wp2
        go_roundw
        case rel => exact ⟨j + 1, A_f, c_f, by omega, by go_num, rfl, f_3, s_3, b_3, wordsB_snoc HXJ.out HW.out hxw⟩
        case measure => simp [intOf]; omega
    · obtain rfl : j = xs.length := by omega
      rw [List.take_length] at hw
      have hE : runL k xs ys = xs.take (gotTo xs.length ys ys.length) := by rw [HR.out]; unfold runB; simp [h1, hw, hxl, hyl]
      have HE := hid hE
      have HW := hid hw
      have hhi := own_hi hown
      have hsz := hb.size
      clear hE hw HR
      obtain ⟨wo, rfl⟩ : ∃ wo : World, wo = wr := ⟨_, rfl⟩
      go_wp2_with fail
      go_loopw [15, 17, 18, 19, 20, 63] (fun o _ _ _ _ i wr => ∃ (j : Nat) (A2 : Option Addr) (c2 : Nat), j ≤ ys.length ∧ i = .int .i64 j ∧ o = .slice A2 (gotTo xs.length ys j) c2 ∧
        wr.ownsRow (wo.heap.size + 1) 3 1 (.slice A2 (gotTo xs.length ys j) c2) (gotTo xs.length ys j) (ints (xs.take (gotTo xs.length ys j))) ∧
        Blk wr wo.heap.size 27 #[.int .i64 k, .int .i64 0, .int .i64 (gotTo xs.length ys j)] ∧
        wr.ownsRow (w.heap.size + 1) 31 3 (.slice A' xs.length c') xs.length (framesTo k xs xs.length) ∧ Below w.heap.size w wr ∧ wo.heap.size ≤ wr.heap.size) (fun _ _ _ _ _ i _ => ys.length - (intOf i).toNat)
      case atStart => exact ⟨0, some ⟨wo.heap.size + 1, 0, none⟩, 0, Nat.zero_le _, rfl, rfl, own_lit (size := 1) #[] 0 (by simp) (Nat.le_refl _) (Nat.zero_le _) rfl, by (first | ((repeat (first | (with_reducible assumption) | (with_reducible apply Blk.drew) | (with_reducible apply Blk.new; first | rfl | (simp; done)) | (with_reducible apply Blk.alloc) | (with_reducible apply Blk.set_) | (with_reducible apply Blk.past; focus assumption) | (with_reducible apply Blk.far; focus (first | (simp; done) | (simp; omega) | (dsimp only; omega))))); done) | (apply Blk.cast; (case h => (repeat (first | (with_reducible assumption) | (with_reducible apply Blk.drew) | (with_reducible apply Blk.new; first | rfl | (simp; done)) | (with_reducible apply Blk.alloc) | (with_reducible apply Blk.set_) | (with_reducible apply Blk.past; focus assumption) | (with_reducible apply Blk.far; focus (first | (simp; done) | (simp; omega) | (dsimp only; omega)))))); (case e => rfl))), by repeat (first | (with_reducible assumption) | (with_reducible apply World.ownsRow.drew) | (with_reducible apply World.ownsRow.alloc) | (with_reducible refine own_set ?_ _ _ (by first | omega | (simp; omega) | (dsimp only; omega)))), by repeat (first | (with_reducible exact Below.refl _ _) | (with_reducible refine Below.trans ?_ (Below.mono (by assumption) (by first | omega | (simp; done) | (simp; omega) | (simp [*]; done)))) | (with_reducible refine Below.alloc ?_ (by first | omega | (simp; done) | (simp; omega) | (simp [*]; done)) _) | (with_reducible refine Below.setCell ?_ (by first | omega | (simp; done) | (simp; omega) | (simp [*]; done)) _) | (with_reducible refine Below.drew ?_)), by simp; omega⟩
      case round =>
        obtain ⟨j, A2, c2, hj, rfl, rfl, ho2, hbs, hof, hb, hle⟩ := hrel
        have hgn := gotTo_le xs.length ys j
        by_cases hlt : j < ys.length
        · obtain ⟨o, ho⟩ : ∃ o, ys[j]? = some o := ⟨_, List.getElem?_eq_getElem hlt⟩
          obtain ⟨b, off, rfl, hB, hcl⟩ := HY.out (by rw [ints_length]; omega)
          have hcell : wr.cell? ⟨b, off + j, none⟩ = some (.int .i64 o) := (hb.cell (p := ⟨b, off + j, none⟩) hB).trans (hcl j _ (ints_get ho))
          have hgs := gotTo_succ (n := xs.length) ho
          have HG := hid hgs
          clear hcl hgs ho
          by_cases hin : 0 ≤ o ∧ o < xs.length
          · obtain ⟨i, rfl⟩ := Int.eq_ofNat_of_zero_le hin.1
            have hi : i < xs.length := by omega
            obtain ⟨x, hx⟩ : ∃ x, xs[i]? = some x := ⟨_, List.getElem?_eq_getElem hi⟩
            obtain ⟨bf, fo, rfl, hBf, hclf⟩ := (Cells.of_own hof) (by rw [framesTo_length]; omega)
            have hc0 : wr.cell? ⟨bf, fo + i * 3, none⟩ = some (.int .i64 ((i : Int) + 1)) := hclf (i * 3) _ (framesTo_get hx hi 0 (by omega))
            have hc1 : wr.cell? ⟨bf, fo + i * 3 + 1, none⟩ = some (.int .i64 x) := hclf (i * 3 + 1) _ (framesTo_get hx hi 1 (by omega))
            have hc2 : wr.cell? ⟨bf, fo + i * 3 + 2, none⟩ = some (.int .i64 (keyedI k (i + 1) x)) := hclf (i * 3 + 2) _ (framesTo_get hx hi 2 (by omega))
            have hxw : isWordB x = true := by
              have := HW.out
              unfold wordsB at this
              rw [List.all_eq_true] at this
              exact this x (List.mem_of_getElem? hx)
            have hrb := recvB_frame (i := i) h1 hxw (show gotTo xs.length ys j ≤ 200 by omega)
            have HRB := hid hrb
            have hii : (0 : Int) ≤ (i : Int) := by omega
            have hii2 : (i : Int) < (xs.length : Int) := by omega
            have h2hi := own_hi ho2
            have HXI := hid hx
            clear hrb hclf hx hxw
            generalize hgg : gotTo xs.length ys j = g at *
            have HGG := hid hgg
            clear hgg
            by_cases hig : i = g
            · subst hig
              have hst : gotStep xs.length i (i : Int) = i + 1 := by unfold gotStep; rw [if_pos (by omega)]
              have HST := hid hst
              have hrt : recvB k 0 i (i + 1) x (keyedI k (i + 1) x) = true := by rw [HRB.out]; simp
              have HRT := hid hrt
              clear hst hrt HRB
              have b_0 := hb
              have s_0 := b_0.size
              have t_0 := hbs
              clear hbs
              have t_lt := t_0.lt
              have cell_t := t_0.cell
              have froz_t := t_0.frozen
              have lt_t := t_0.lt
              have f_in := (fun q hq => And.intro (own_lo hof q hq) (hhi q hq))
              have f_0 := hof
              clear hof
              have o_in := own_in ho2
              have o_0 := ho2
              clear ho2
              go_upto_region 20 with fail
              go_cut [18, 19, 20] (fun v18 v19 v20 wx => ∃ b18, v18 = .pointer (some ⟨b18, 0, none⟩) ∧ v19 = .int .i64 x ∧ v20 = .bool true ∧ wr.heap.size ≤ b18 ∧ Blk wx b18 27 #[.int .i64 k, .int .i64 0, .int .i64 (↑i + 1)] ∧ Below wr.heap.size wr wx)
              case first =>
                go_region_held3 (fun w' => w'.cell? ⟨wo.heap.size, 0, none⟩ = some (.int .i64 k) ∧ w'.cell? ⟨wo.heap.size, 1, none⟩ = some (.int .i64 0) ∧ w'.cell? ⟨wo.heap.size, 2, none⟩ = some (.int .i64 i) ∧ w'.cell? ⟨bf, fo + i * 3, none⟩ = some (.int .i64 (↑i + 1)) ∧ w'.cell? ⟨bf, fo + i * 3 + 1, none⟩ = some (.int .i64 x) ∧ w'.cell? ⟨bf, fo + i * 3 + 2, none⟩ = some (.int .i64 (keyedI k (i + 1) x))) (exact ⟨(Blk.cell (t := 27) (cs := #[.int .i64 k, .int .i64 0, .int .i64 i]) (by repeat (first | (with_reducible assumption) | (with_reducible apply Blk.drew) | (with_reducible apply Blk.new; first | rfl | (simp; done)) | (with_reducible apply Blk.alloc) | (with_reducible apply Blk.set_) | (with_reducible apply Blk.past; focus assumption) | (with_reducible apply Blk.far; focus (first | (simp; done) | (simp; omega) | (dsimp only; omega))))) 0), (Blk.cell (t := 27) (cs := #[.int .i64 k, .int .i64 0, .int .i64 i]) (by repeat (first | (with_reducible assumption) | (with_reducible apply Blk.drew) | (with_reducible apply Blk.new; first | rfl | (simp; done)) | (with_reducible apply Blk.alloc) | (with_reducible apply Blk.set_) | (with_reducible apply Blk.past; focus assumption) | (with_reducible apply Blk.far; focus (first | (simp; done) | (simp; omega) | (dsimp only; omega))))) 1), (Blk.cell (t := 27) (cs := #[.int .i64 k, .int .i64 0, .int .i64 i]) (by repeat (first | (with_reducible assumption) | (with_reducible apply Blk.drew) | (with_reducible apply Blk.new; first | rfl | (simp; done)) | (with_reducible apply Blk.alloc) | (with_reducible apply Blk.set_) | (with_reducible apply Blk.past; focus assumption) | (with_reducible apply Blk.far; focus (first | (simp; done) | (simp; omega) | (dsimp only; omega))))) 2), (cell_kept hc0 (by repeat (first | (with_reducible exact Below.refl _ _) | (with_reducible refine Below.trans ?_ (Below.mono (by assumption) (by first | omega | (simp; done) | (simp; omega) | (simp [*]; done)))) | (with_reducible refine Below.alloc ?_ (by first | omega | (simp; done) | (simp; omega) | (simp [*]; done)) _) | (with_reducible refine Below.setCell ?_ (by first | omega | (simp; done) | (simp; omega) | (simp [*]; done)) _) | (with_reducible refine Below.drew ?_))) (by dsimp only; omega)), (cell_kept hc1 (by repeat (first | (with_reducible exact Below.refl _ _) | (with_reducible refine Below.trans ?_ (Below.mono (by assumption) (by first | omega | (simp; done) | (simp; omega) | (simp [*]; done)))) | (with_reducible refine Below.alloc ?_ (by first | omega | (simp; done) | (simp; omega) | (simp [*]; done)) _) | (with_reducible refine Below.setCell ?_ (by first | omega | (simp; done) | (simp; omega) | (simp [*]; done)) _) | (with_reducible refine Below.drew ?_))) (by dsimp only; omega)), (cell_kept hc2 (by repeat (first | (with_reducible exact Below.refl _ _) | (with_reducible refine Below.trans ?_ (Below.mono (by assumption) (by first | omega | (simp; done) | (simp; omega) | (simp [*]; done)))) | (with_reducible refine Below.alloc ?_ (by first | omega | (simp; done) | (simp; omega) | (simp [*]; done)) _) | (with_reducible refine Below.setCell ?_ (by first | omega | (simp; done) | (simp; omega) | (simp [*]; done)) _) | (with_reducible refine Below.drew ?_))) (by dsimp only; omega))⟩) (((go_at_call 15; refine (iRecv_ok _ _ _ _ _ _ _ HRT.out).mono ?_; rintro e wz ⟨rfl, hbz⟩; (first | (with_reducible refine use_top2d hbz ?_; intro zt ct ft kt zt2 ct2 ft2 kt2; try simp only [World.size_alloc] at zt ct ft kt zt2 ct2 ft2 kt2) | (with_reducible refine use_topd hbz ?_; intro zt ct ft kt; try simp only [World.size_alloc] at zt ct ft kt) | skip); have sz := hbz.size; try simp at sz)))
                all_goals
                  go_wp2_with fail
                  go_meet
                  exact ⟨_, rfl, rfl, rfl, by first | exact Nat.le_refl _ | omega | (simp; done) | (simp; omega), by (first | ((repeat (first | (with_reducible assumption) | (with_reducible apply Blk.drew) | (with_reducible apply Blk.new; first | rfl | (simp; done)) | (with_reducible apply Blk.alloc) | (with_reducible apply Blk.set_) | (with_reducible apply Blk.past; focus assumption) | (with_reducible apply Blk.far; focus (first | (simp; done) | (simp; omega) | (dsimp only; omega))))); done) | (apply Blk.cast; (case h => (repeat (first | (with_reducible assumption) | (with_reducible apply Blk.drew) | (with_reducible apply Blk.new; first | rfl | (simp; done)) | (with_reducible apply Blk.alloc) | (with_reducible apply Blk.set_) | (with_reducible apply Blk.past; focus assumption) | (with_reducible apply Blk.far; focus (first | (simp; done) | (simp; omega) | (dsimp only; omega)))))); (case e => rfl))), by repeat (first | (with_reducible exact Below.refl _ _) | (with_reducible refine Below.trans ?_ (Below.mono (by assumption) (by first | omega | (simp; done) | (simp; omega) | (simp [*]; done)))) | (with_reducible refine Below.alloc ?_ (by first | omega | (simp; done) | (simp; omega) | (simp [*]; done)) _) | (with_reducible refine Below.setCell ?_ (by first | omega | (simp; done) | (simp; omega) | (simp [*]; done)) _) | (with_reducible refine Below.drew ?_))⟩
              case rest =>
                obtain ⟨b_nx, rfl, rfl, rfl, nx_ge, nx_1, hb1⟩ := hcut
                obtain ⟨w1, rfl⟩ : ∃ z : World, z = wc := ⟨_, rfl⟩
                have s1 := hb1.size
                have b_1 := b_0.trans (hb1.mono (by omega))
                have f_1 := own_below f_0 hb1
                have o_1 := own_below o_0 hb1
                have t_1 := Blk.past hb1 t_0
                clear f_0 o_0 t_0 b_0 cell_t froz_t lt_t hb1
                have nx_lt := nx_1.lt
                have cell_t := t_1.cell
                have froz_t := t_1.frozen
                have lt_t := t_1.lt
                have cell_nx := nx_1.cell
                have froz_nx := nx_1.frozen
                have lt_nx := nx_1.lt
                clear hc0 hc1 hc2
                go_upto_region 23 with fail
                refine wp_touch1 (w0 := w1) (L := [wo.heap.size]) (b0 := wo.heap.size) (t0 := 27) (c0 := #[.int .i64 k, .int .i64 0, .int .i64 (↑i + 1)]) ?_ ?_ ?_
                (focus (first | ((repeat (first | (with_reducible assumption) | (with_reducible apply Blk.drew) | (with_reducible apply Blk.new; first | rfl | (simp; done)) | (with_reducible apply Blk.alloc) | (with_reducible apply Blk.set_) | (with_reducible apply Blk.past; focus assumption) | (with_reducible apply Blk.far; focus (first | (simp; done) | (simp; omega) | (dsimp only; omega))))); done) | (apply Blk.cast; (case h => (repeat (first | (with_reducible assumption) | (with_reducible apply Blk.drew) | (with_reducible apply Blk.new; first | rfl | (simp; done)) | (with_reducible apply Blk.alloc) | (with_reducible apply Blk.set_) | (with_reducible apply Blk.past; focus assumption) | (with_reducible apply Blk.far; focus (first | (simp; done) | (simp; omega) | (dsimp only; omega)))))); (case e => rfl))))
                (focus (repeat (first | (with_reducible exact Touch.refl _ _) | (with_reducible apply Touch.drew) | (with_reducible apply Touch.alloc) | (with_reducible refine Touch.set_ ?_ _ _ (by simp; done)) | (with_reducible refine Touch.set_new ?_ _ _ (by first | omega | (simp; omega) | (dsimp only; omega))))))
                intro w2 t_2 hX2
                have sX2 := hX2.size
                have b_2 := hX2.below b_1 (by first | (simp; done) | (simp; omega))
                have f_2 := own_touch' hX2 f_1 (fun q hq => by have h1 := f_in q hq; simp; omega)
                have o_2 := own_touch' hX2 o_1 (fun q hq => by have h1 := o_in q hq; simp; omega)
                have nx_2 := Blk.touch hX2 nx_1 (by first | (simp; done) | (simp; omega))
                clear f_1 o_1 t_1 nx_1 b_1 cell_t froz_t lt_t cell_nx froz_nx lt_nx hX2
                have cell_t := t_2.cell
                have froz_t := t_2.frozen
                have lt_t := t_2.lt
                have cell_nx := nx_2.cell
                have froz_nx := nx_2.frozen
                have lt_nx := nx_2.lt
                go_wp2_with (at_builtin; refine wpList_appi rfl _ _ 24 rfl (wo.heap.size + 1) 3 (.int .i64 0) 1 8 Try.underlying24 infoInt rfl (by decide) _ i _ rfl (o_2.alloc _) ⟨w2.heap.size, 0, none⟩ 1 1 _ rfl rfl (one_new _ _ _) (one_one _) (by omega) (by decide) (by simp; omega) ?_)
                intro A_o c_o w3 o_3 hg3 li3
                have hg3 := grown_alloc hg3
                try simp only [World.size_alloc] at li3
                have s3 := hg3.size
                have b_3 := gr_below hg3 b_2 (by omega) (fun q hq => by have h1 := o_in q hq; omega)
                have f_3 := gr_own hg3 f_2 (fun q p hq hp => by have h1 := o_in q hq; have h2 := f_in p hp; omega)
                have t_3 := gr_blk hg3 t_2 (fun q hq => by have h1 := o_in q hq; omega)
                have nx_3 := gr_blk hg3 nx_2 (fun q hq => by have h1 := o_in q hq; omega)
                have o_ix := own_in o_3
                clear f_2 o_2 t_2 nx_2 b_2 cell_t froz_t lt_t cell_nx froz_nx lt_nx hg3 li3 o_in
                have o_in := o_ix
                clear o_ix
                have cell_t := t_3.cell
                have froz_t := t_3.frozen
                have lt_t := t_3.lt
                have cell_nx := nx_3.cell
                have froz_nx := nx_3.frozen
                have lt_nx := nx_3.lt
                rw [← ints_snoc, ← take_snoc HXI.out] at o_3
                go_wp2
                go_roundw
                case rel => exact ⟨j + 1, A_o, c_o, by omega, by go_num, by rw [HG.out, HST.out], by rw [HG.out, HST.out]; exact o_3, by rw [HG.out, HST.out]; exact t_3, f_3, b_3, by omega⟩
                case measure => simp [intOf]; omega
            · have hst : gotStep xs.length g (i : Int) = g := by unfold gotStep; rw [if_neg (by omega)]
              have HST := hid hst
              have hrt : recvB k 0 g (i + 1) x (keyedI k (i + 1) x) = false := by rw [HRB.out]; simpa using hig
              have HRT := hid hrt
              clear hst hrt HRB
              have HIG := hid hig
              clear hig
              have b_0 := hb
              have s_0 := b_0.size
              have t_0 := hbs
              clear hbs
              have t_lt := t_0.lt
              have cell_t := t_0.cell
              have froz_t := t_0.frozen
              have lt_t := t_0.lt
              have f_in := (fun q hq => And.intro (own_lo hof q hq) (hhi q hq))
              have f_0 := hof
              clear hof
              have o_in := own_in ho2
              have o_0 := ho2
              clear ho2
              go_upto_region 20 with fail
              go_cut [18, 19, 20] (fun v18 v19 v20 wx => ∃ b18, v18 = .pointer (some ⟨b18, 0, none⟩) ∧ v19 = .int .i64 0 ∧ v20 = .bool false ∧ wr.heap.size ≤ b18 ∧ Blk wx b18 27 #[.int .i64 k, .int .i64 0, .int .i64 g] ∧ Below wr.heap.size wr wx)
              case first =>
                go_region_held3 (fun w' => w'.cell? ⟨wo.heap.size, 0, none⟩ = some (.int .i64 k) ∧ w'.cell? ⟨wo.heap.size, 1, none⟩ = some (.int .i64 0) ∧ w'.cell? ⟨wo.heap.size, 2, none⟩ = some (.int .i64 g) ∧ w'.cell? ⟨bf, fo + i * 3, none⟩ = some (.int .i64 (↑i + 1)) ∧ w'.cell? ⟨bf, fo + i * 3 + 1, none⟩ = some (.int .i64 x) ∧ w'.cell? ⟨bf, fo + i * 3 + 2, none⟩ = some (.int .i64 (keyedI k (i + 1) x))) (exact ⟨(Blk.cell (t := 27) (cs := #[.int .i64 k, .int .i64 0, .int .i64 g]) (by repeat (first | (with_reducible assumption) | (with_reducible apply Blk.drew) | (with_reducible apply Blk.new; first | rfl | (simp; done)) | (with_reducible apply Blk.alloc) | (with_reducible apply Blk.set_) | (with_reducible apply Blk.past; focus assumption) | (with_reducible apply Blk.far; focus (first | (simp; done) | (simp; omega) | (dsimp only; omega))))) 0), (Blk.cell (t := 27) (cs := #[.int .i64 k, .int .i64 0, .int .i64 g]) (by repeat (first | (with_reducible assumption) | (with_reducible apply Blk.drew) | (with_reducible apply Blk.new; first | rfl | (simp; done)) | (with_reducible apply Blk.alloc) | (with_reducible apply Blk.set_) | (with_reducible apply Blk.past; focus assumption) | (with_reducible apply Blk.far; focus (first | (simp; done) | (simp; omega) | (dsimp only; omega))))) 1), (Blk.cell (t := 27) (cs := #[.int .i64 k, .int .i64 0, .int .i64 g]) (by repeat (first | (with_reducible assumption) | (with_reducible apply Blk.drew) | (with_reducible apply Blk.new; first | rfl | (simp; done)) | (with_reducible apply Blk.alloc) | (with_reducible apply Blk.set_) | (with_reducible apply Blk.past; focus assumption) | (with_reducible apply Blk.far; focus (first | (simp; done) | (simp; omega) | (dsimp only; omega))))) 2), (cell_kept hc0 (by repeat (first | (with_reducible exact Below.refl _ _) | (with_reducible refine Below.trans ?_ (Below.mono (by assumption) (by first | omega | (simp; done) | (simp; omega) | (simp [*]; done)))) | (with_reducible refine Below.alloc ?_ (by first | omega | (simp; done) | (simp; omega) | (simp [*]; done)) _) | (with_reducible refine Below.setCell ?_ (by first | omega | (simp; done) | (simp; omega) | (simp [*]; done)) _) | (with_reducible refine Below.drew ?_))) (by dsimp only; omega)), (cell_kept hc1 (by repeat (first | (with_reducible exact Below.refl _ _) | (with_reducible refine Below.trans ?_ (Below.mono (by assumption) (by first | omega | (simp; done) | (simp; omega) | (simp [*]; done)))) | (with_reducible refine Below.alloc ?_ (by first | omega | (simp; done) | (simp; omega) | (simp [*]; done)) _) | (with_reducible refine Below.setCell ?_ (by first | omega | (simp; done) | (simp; omega) | (simp [*]; done)) _) | (with_reducible refine Below.drew ?_))) (by dsimp only; omega)), (cell_kept hc2 (by repeat (first | (with_reducible exact Below.refl _ _) | (with_reducible refine Below.trans ?_ (Below.mono (by assumption) (by first | omega | (simp; done) | (simp; omega) | (simp [*]; done)))) | (with_reducible refine Below.alloc ?_ (by first | omega | (simp; done) | (simp; omega) | (simp [*]; done)) _) | (with_reducible refine Below.setCell ?_ (by first | omega | (simp; done) | (simp; omega) | (simp [*]; done)) _) | (with_reducible refine Below.drew ?_))) (by dsimp only; omega))⟩) (((go_at_call 15; refine (iRecv_no _ _ _ _ _ _ _ HRT.out).mono ?_; rintro e wz ⟨rfl, hbz⟩; (first | (with_reducible refine use_top2d hbz ?_; intro zt ct ft kt zt2 ct2 ft2 kt2; try simp only [World.size_alloc] at zt ct ft kt zt2 ct2 ft2 kt2) | (with_reducible refine use_topd hbz ?_; intro zt ct ft kt; try simp only [World.size_alloc] at zt ct ft kt) | skip); have sz := hbz.size; try simp at sz)))
                all_goals
                  go_wp2_with fail
                  go_meet
                  exact ⟨_, rfl, rfl, rfl, by first | exact Nat.le_refl _ | omega | (simp; done) | (simp; omega), by (first | ((repeat (first | (with_reducible assumption) | (with_reducible apply Blk.drew) | (with_reducible apply Blk.new; first | rfl | (simp; done)) | (with_reducible apply Blk.alloc) | (with_reducible apply Blk.set_) | (with_reducible apply Blk.past; focus assumption) | (with_reducible apply Blk.far; focus (first | (simp; done) | (simp; omega) | (dsimp only; omega))))); done) | (apply Blk.cast; (case h => (repeat (first | (with_reducible assumption) | (with_reducible apply Blk.drew) | (with_reducible apply Blk.new; first | rfl | (simp; done)) | (with_reducible apply Blk.alloc) | (with_reducible apply Blk.set_) | (with_reducible apply Blk.past; focus assumption) | (with_reducible apply Blk.far; focus (first | (simp; done) | (simp; omega) | (dsimp only; omega)))))); (case e => rfl))), by repeat (first | (with_reducible exact Below.refl _ _) | (with_reducible refine Below.trans ?_ (Below.mono (by assumption) (by first | omega | (simp; done) | (simp; omega) | (simp [*]; done)))) | (with_reducible refine Below.alloc ?_ (by first | omega | (simp; done) | (simp; omega) | (simp [*]; done)) _) | (with_reducible refine Below.setCell ?_ (by first | omega | (simp; done) | (simp; omega) | (simp [*]; done)) _) | (with_reducible refine Below.drew ?_))⟩
              case rest =>
                obtain ⟨b_nx, rfl, rfl, rfl, nx_ge, nx_1, hb1⟩ := hcut
                obtain ⟨w1, rfl⟩ : ∃ z : World, z = wc := ⟨_, rfl⟩
                have s1 := hb1.size
                have b_1 := b_0.trans (hb1.mono (by omega))
                have f_1 := own_below f_0 hb1
                have o_1 := own_below o_0 hb1
                have t_1 := Blk.past hb1 t_0
                clear f_0 o_0 t_0 b_0 cell_t froz_t lt_t hb1
                have nx_lt := nx_1.lt
                have cell_t := t_1.cell
                have froz_t := t_1.frozen
                have lt_t := t_1.lt
                have cell_nx := nx_1.cell
                have froz_nx := nx_1.frozen
                have lt_nx := nx_1.lt
                clear hc0 hc1 hc2
                go_upto_region 22 with fail
                refine wp_touch1 (w0 := w1) (L := [wo.heap.size]) (b0 := wo.heap.size) (t0 := 27) (c0 := #[.int .i64 k, .int .i64 0, .int .i64 g]) ?_ ?_ ?_
                (focus (first | ((repeat (first | (with_reducible assumption) | (with_reducible apply Blk.drew) | (with_reducible apply Blk.new; first | rfl | (simp; done)) | (with_reducible apply Blk.alloc) | (with_reducible apply Blk.set_) | (with_reducible apply Blk.past; focus assumption) | (with_reducible apply Blk.far; focus (first | (simp; done) | (simp; omega) | (dsimp only; omega))))); done) | (apply Blk.cast; (case h => (repeat (first | (with_reducible assumption) | (with_reducible apply Blk.drew) | (with_reducible apply Blk.new; first | rfl | (simp; done)) | (with_reducible apply Blk.alloc) | (with_reducible apply Blk.set_) | (with_reducible apply Blk.past; focus assumption) | (with_reducible apply Blk.far; focus (first | (simp; done) | (simp; omega) | (dsimp only; omega)))))); (case e => rfl))))
                (focus (repeat (first | (with_reducible exact Touch.refl _ _) | (with_reducible apply Touch.drew) | (with_reducible apply Touch.alloc) | (with_reducible refine Touch.set_ ?_ _ _ (by simp; done)) | (with_reducible refine Touch.set_new ?_ _ _ (by first | omega | (simp; omega) | (dsimp only; omega))))))
                intro w2 t_2 hX2
                have sX2 := hX2.size
                have b_2 := hX2.below b_1 (by first | (simp; done) | (simp; omega))
                have f_2 := own_touch' hX2 f_1 (fun q hq => by have h1 := f_in q hq; simp; omega)
                have o_2 := own_touch' hX2 o_1 (fun q hq => by have h1 := o_in q hq; simp; omega)
                have nx_2 := Blk.touch hX2 nx_1 (by first | (simp; done) | (simp; omega))
                clear f_1 o_1 t_1 nx_1 b_1 cell_t froz_t lt_t cell_nx froz_nx lt_nx hX2
                have cell_t := t_2.cell
                have froz_t := t_2.frozen
                have lt_t := t_2.lt
                have cell_nx := nx_2.cell
                have froz_nx := nx_2.frozen
                have lt_nx := nx_2.lt
                go_wp2
                go_roundw
                case rel => exact ⟨j + 1, A2, c2, by omega, by go_num, by rw [HG.out, HST.out], by rw [HG.out, HST.out]; exact o_2, by rw [HG.out, HST.out]; exact t_2, f_2, b_2, by omega⟩
                case measure => simp [intOf]; omega
          · have hst : gotStep xs.length (gotTo xs.length ys j) o = gotTo xs.length ys j := by unfold gotStep; rw [if_neg (by omega)]
            have HST := hid hst
            clear hst
            have hs0 : o < 0 ∨ 0 ≤ o := by omega
            rcases hs0 with h0 | h0
            all_goals
              go_wp2
              go_roundw
              case rel => exact ⟨j + 1, A2, c2, by omega, by go_num, by rw [HG.out, HST.out], by rw [HG.out, HST.out]; exact ho2, by rw [HG.out, HST.out]; exact hbs, hof, hb, hle⟩
              case measure => simp [intOf]; omega
        · obtain rfl : j = ys.length := by omega
          go_wp2
          go_ret
          have el : (xs.take (gotTo xs.length ys ys.length)).length = gotTo xs.length ys ys.length := by rw [List.length_take]; omega
          unfold GivesInts
          rw [HE.out, el]
          exact ⟨A2, c2, rfl, own_weak ho2 (by omega), hb⟩
end Go.Proofs.Ytdfomahaplcgoaa
