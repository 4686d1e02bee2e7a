/- Whether a word is less than another. -/
import Derived.Test.YtihbaieiempjeaaBy
import Derived.Test.YtihbaieiempjeaaBits
namespace Go.Proofs.Ytihbaieiempjeaa
open Go.RowKit

theorem lessG_length (gs : List Gt) (ws bs : List Int) : (lessG gs ws bs).length = gs.length + bs.length + 22 := by
  simp [lessG, sumTo_length, notsG_length]
/-- What a builder leaves that answers by one wire. -/
def GivesI (w : World) (gs : List Gt) (z : Int) (e : Ending) (w' : World) : Prop :=
  ∃ G cg O co, e = .returned (.tuple #[.agg #[.slice G gs.length cg, .slice O 0 co], .int .i64 z]) ∧ w'.ownsRow w.heap.size TG 3 (.slice G gs.length cg) gs.length (ints (flatG gs)) ∧
    w'.ownsRow w.heap.size 3 1 (.slice O 0 co) 0 [] ∧ Below w.heap.size w w'
theorem gives_i {w wz w' : World} {gs : List Gt} {z z' : Int} {G O : Option Addr} {n cg co p : Nat} (hn : gs.length = n) (h1 : wz.ownsRow w.heap.size TG 3 (.slice G gs.length cg) gs.length (ints (flatG gs))) (h2 : wz.ownsRow w.heap.size 3 1 (.slice O 0 co) 0 [])
    (h4 : Below w.heap.size w wz) {cs : Array Value} (hr : Blk wz p TS cs) (hp : w.heap.size ≤ p) (ht : Touch [p] wz w') (hz : z = z') :
    GivesI w gs z' (.returned (.tuple #[.agg #[.slice G n cg, .slice O 0 co], .int .i64 z])) w' := by
  subst hn
  subst hz
  have hm : ∀ q, q ≠ p → q ∉ [p] := fun q h => by simp [h]
  exact ⟨G, cg, O, co, rfl, own_touch' ht h1 (fun q hq => hm q (own_ne_obj h1 hr (by decide) q hq)), own_touch' ht h2 (fun q hq => hm q (own_ne_obj h2 hr (by decide) q hq)),
    ht.below' h4 (fun i hi => by simp at hi; omega) h4.size⟩
set_option linter.unusedVariables false in
set_option maxRecDepth 100000 in
set_option maxHeartbeats 3200000 in
theorem sLess {lo bp bx ox cx bY oy cy : Nat} {gs : List Gt} {O : Value} {xs ys : List Int} (w : World) (h : Bld TS w lo bp gs O) (hs : gs.length ≤ 5000) (hx : Wd w (some ⟨bx, ox, none⟩) xs) (hy : Wd w (some ⟨bY, oy, none⟩) ys) (hx4 : xs.length = 4) (hy4 : ys.length = 4) :
    Calls Try.prog 73 #[.pointer (some ⟨bp, 0, none⟩), .slice (some ⟨bx, ox, none⟩) 4 cx, .slice (some ⟨bY, oy, none⟩) 4 cy] w fun e w' => e = .returned (.int .i64 ((gs.length + 25 : Nat) : Int)) ∧ Bld TS w' lo bp (lessG gs xs ys) O ∧ Stay TS lo w w' := by
  have H0 := hid (And.intro h (And.intro hx hy))
  clear h hx hy
  go_enter Try.func73, Try.ntmps73
  go_wp2_with fail
  refine Calls.mono (sNots (n := gs.length) (N := 4) _ H0.out.1 rfl (by omega) H0.out.2.2 hy4 (by omega)) ?_
  rintro e w91 ⟨g0, k0, rfl, hg0, hrow, hbl, hst⟩
  have z1 := hst.size
  obtain ⟨gs1, hgs1⟩ : ∃ l, notsG gs ys = l := ⟨_, rfl⟩
  have hl1 : gs1.length = gs.length + 4 := by rw [← hgs1, notsG_length, hy4]
  obtain ⟨bs1, hbs1⟩ : ∃ l, upW gs.length 4 = l := ⟨_, rfl⟩
  have hbl4 : bs1.length = 4 := by rw [← hbs1]; exact upW_length _ _
  rw [hgs1] at hbl
  rw [hbs1] at hrow
  have H1 := hid (And.intro hbl (And.intro ((H0.out.2.1).stay hst (by decide)) (And.intro (Wd.of_row hrow) hst)))
  have HE := hid (And.intro hgs1 hbs1)
  clear hbl hrow hst hgs1 hbs1
  go_wp2_with fail
  refine (sGate (n := gs1.length) _ _ _ _ H1.out.1 rfl (by omega)).mono ?_
  rintro e w92 ⟨rfl, h, t⟩
  have z2 := t.size
  have H2 := hid (And.intro h (And.intro (H1.out.2.1.stay t (by decide)) (And.intro (H1.out.2.2.1.stay t (by decide)) (H1.out.2.2.2.trans t))))
  have hl_b := H2.out.2.1.lt
  have hl_g := H2.out.2.2.1.lt
  have hbk := (H2.out.1).len
  clear h t H1
  have hal : ∀ m, m < 4 → xs[m]? = some (xs.getD m 0) ∧ bs1[m]? = some (bs1.getD m 0) := fun m hm => by
    rw [List.getD_eq_getElem?_getD, List.getD_eq_getElem?_getD, List.getElem?_eq_getElem (show m < xs.length by omega), List.getElem?_eq_getElem (show m < bs1.length by omega)]
    exact ⟨rfl, rfl⟩
  have HAL := hid hal
  clear hal
  go_wp2_with fail
  go_loopw [8, 9, 10, 11] (fun c i _ _ wr => ∃ (m : Nat), m ≤ 4 ∧ i = .int .i64 (m : Int) ∧ (∃ C : Int, c = .int .i64 C ∧ C = ((gs1.length + 5 * m : Nat) : Int)) ∧ Bld TS wr lo bp (sumTo gs1 xs bs1 1 m) O ∧ Wd wr (some ⟨bx, ox, none⟩) xs ∧ Wd wr (some ⟨g0, 0, none⟩) bs1 ∧ Stay TS lo w wr) (fun _ i _ _ _ => 4 - (intOf i).toNat)
  case atStart => exact ⟨0, Nat.zero_le _, rfl, ⟨_, rfl, by omega⟩, H2.out.1, H2.out.2.1, H2.out.2.2.1, H2.out.2.2.2⟩
  case round =>
    clear H2
    obtain ⟨m, hm, rfl, ⟨C, rfl, hC⟩, hB, hX, hY, hS⟩ := hrel
    have HC := hid hC
    have zr := hS.size
    obtain ⟨N1, hN1⟩ : ∃ N, gs1.length + 5 * m + 1 = N := ⟨_, rfl⟩
    have hlen := sumTo_length gs1 xs bs1 1 m
    rw [hN1] at hlen
    have hnb : N1 ≤ 90000 := by omega
    have hB0 := hB
    have hX0 := hX
    have hY0 := hY
    have hti : 3 ≠ TS := by decide
    by_cases hlt : m < 4
    · have hlt' : (m : Int) < 4 := by omega
      obtain ⟨e1, e2⟩ := HAL.out m hlt
      obtain ⟨xa, hxa⟩ : ∃ x, xs.getD m 0 = x := ⟨_, rfl⟩
      obtain ⟨ya, hya⟩ : ∃ x, bs1.getD m 0 = x := ⟨_, rfl⟩
      rw [hxa] at e1
      rw [hya] at e2
      have HXY := hid (And.intro hxa hya)
      have d1 := hX.cell e1
      have d2 := hY.cell e2
      rw [Nat.zero_add] at d2
      have lx := hX.lt
      have ly := hY.lt
      have H := hid (And.intro hB (And.intro hX (And.intro hY hS)))
      clear hB hX hY hS hxa hya hC
      go_upto_region 6 with fail
      go_region_held3 (fun w' => w'.cell? ⟨bx, ox + m, none⟩ = some (.int .i64 xa) ∧ w'.cell? ⟨g0, m, none⟩ = some (.int .i64 ya)) (first | exact ⟨d1, d2⟩ | exact ⟨d1', d2'⟩) ((go_at_call 97; refine Calls.mono (sFull (n := N1) _ _ _ _ (Bld.heap hB0 rfl) hlen hnb) ?_; rintro e w3 ⟨rfl, h, t⟩; have d1' := (Wd.onto hX0 t rfl hti).cell e1; have d2' := (Wd.onto hY0 t rfl hti).cell e2; rw [Nat.zero_add] at d2'))
      all_goals
        have z3 := t.size
        have hS3 := H.out.2.2.2.onto t rfl rfl rfl rfl
        have zs := hS3.size
        have H3 := hid (And.intro h (And.intro (Wd.onto H.out.2.1 t rfl (by decide)) (And.intro (Wd.onto H.out.2.2.1 t rfl (by decide)) hS3)))
        clear h t hS3 H d1 d2 hB0 hX0 hY0 e1 e2 d1' d2'
        go_wp2
        go_roundw
        case rel =>
          exact ⟨m + 1, by omega, by go_num, ⟨_, rfl, by omega⟩, bld_cast H3.out.1 (by rw [sumTo, HXY.out.1, HXY.out.2, HC.out]), H3.out.2.1, H3.out.2.2.1, H3.out.2.2.2⟩
        case measure => simp [intOf]; omega
    · obtain rfl : m = 4 := by omega
      have hC2 : C = ((gs.length + ys.length + 20 : Nat) : Int) := by omega
      have hN2 : N1 = gs.length + 25 := by omega
      have H := hid (And.intro hB hS)
      have HC2 := hid hC2
      clear hB hX hY hS hC hX0 hY0 hC2
      go_wp2_with fail
      refine (sGate (n := N1) _ _ _ _ (Bld.heap hB0 rfl) hlen (by omega)).mono ?_
      rintro e w5 ⟨rfl, h, t⟩
      have z5 := t.size
      have hS5 := H.out.2.trans t
      have hB5 := bld_cast (gs' := lessG gs xs ys) h (by rw [← HE.out.1, ← HE.out.2, HC2.out]; rfl)
      have zz := hS5.size
      have H5 := hid (And.intro hB5 hS5)
      clear h t hS5 hB5 H hB0 hlen
      go_wp2
      go_returns
      exact ⟨by first | rfl | (simp; done) | (rw [hN2]; done), H5.out.1, H5.out.2⟩
set_option linter.unusedVariables false in
set_option maxRecDepth 100000 in
set_option maxHeartbeats 3200000 in
theorem iWordLess {gs : List Gt} {G O : Option Addr} {cg co bx ox cx bY oy cy : Nat} {xs ys : List Int} (w : World) (hg : w.ownsRow 0 TG 3 (.slice G gs.length cg) gs.length (ints (flatG gs))) (ho : w.ownsRow 0 3 1 (.slice O 0 co) 0 (ints [])) (hok : gatesB 0 gs = true) (hl : gs.length ≤ 5000)
    (hx : Wd w (some ⟨bx, ox, none⟩) xs) (hy : Wd w (some ⟨bY, oy, none⟩) ys) (hwx : wordB4 gs.length xs = true) (hwy : wordB4 gs.length ys = true) :
    Calls Try.prog 112 #[.agg #[.slice G gs.length cg, .slice O 0 co], .slice (some ⟨bx, ox, none⟩) 4 cx, .slice (some ⟨bY, oy, none⟩) 4 cy] w (GivesI w (lessG gs xs ys) (gs.length + 25 : Nat)) := by
  have HX := hid (And.intro hx hy)
  have hx4 := (wordB4_at hwx).1
  have hy4 := (wordB4_at hwy).1
  clear hx hy
  go_enter Try.func112, Try.ntmps112
  have b_0 := (Below.refl w.heap.size w)
  have s_0 := b_0.size
  have og_in := own_in hg
  have og_0 := hg
  clear hg
  have oo_in := own_in ho
  have oo_0 := ho
  clear ho
  go_upto_region 1 with fail
  refine wp_forget2 (w0 := w) (B := w.heap.size) (b0 := w.heap.size) (t0 := 27) (c0 := #[.slice G gs.length cg, .slice O 0 co]) (b1 := w.heap.size + 1) (t1 := 27) (c1 := #[.slice none 0 0, .slice none 0 0]) ?_ ?_ ?_ ?_
  (focus exact blkcBy)
  (focus exact blkcBy)
  (focus (exact belBy))
  intro w1 x_1 r_1 hX1
  have sX1 := hX1.size
  have x_lt := x_1.lt
  have r_lt := r_1.lt
  have b_1 := b_0.trans (hX1.mono (by omega))
  have og_1 := own_below og_0 hX1
  have oo_1 := own_below oo_0 hX1
  clear og_0 oo_0 b_0 hX1
  have cell_x := x_1.cell
  have froz_x := x_1.frozen
  have lt_x := x_1.lt
  have cell_r := r_1.cell
  have froz_r := r_1.frozen
  have lt_r := r_1.lt
  go_wp2_with fail
  refine calls_forget0 (W := w1) ?_ ?_
  (focus (exact belBy))
  intro X2 hX2
  have sX2 := hX2.size
  refine (iCopyC _ _ _ _ _ _ (flatG gs) [] _ (own_below og_1 hX2) (own_below oo_1 hX2) (by omega) (by omega)).mono ?_
  rintro e w2 ⟨G', cg', O', co', rfl, pg_2, po_2, hb2⟩
  have s2 := hb2.size
  have hT2 := hX2.trans (hb2.mono sX2)
  have b_2 := b_1.trans (hT2.mono (by omega))
  have og_2 := own_below og_1 hT2
  have oo_2 := own_below oo_1 hT2
  have x_2 := Blk.past hT2 x_1
  have r_2 := Blk.past hT2 r_1
  have pg_in := own_in pg_2
  have po_in := own_in po_2
  clear og_1 oo_1 x_1 r_1 b_1 cell_x froz_x lt_x cell_r froz_r lt_r hX2 hT2 hb2
  have cell_x := x_2.cell
  have froz_x := x_2.frozen
  have lt_x := x_2.lt
  have cell_r := r_2.cell
  have froz_r := r_2.frozen
  have lt_r := r_2.lt
  go_upto_region 2 with fail
  refine wp_forget1 (w0 := w2) (B := w2.heap.size) (b0 := w2.heap.size) (t0 := 125) (c0 := #[.slice G' gs.length cg', .slice O' 0 co']) ?_ ?_ ?_
  (focus exact blkcBy)
  (focus (exact belBy))
  intro w3 u_3 hX3
  have sX3 := hX3.size
  have u_lt := u_3.lt
  have b_3 := b_2.trans (hX3.mono (by omega))
  have og_3 := own_below og_2 hX3
  have oo_3 := own_below oo_2 hX3
  have pg_3 := own_below pg_2 hX3
  have po_3 := own_below po_2 hX3
  have x_3 := Blk.past hX3 x_2
  have r_3 := Blk.past hX3 r_2
  clear og_2 oo_2 pg_2 po_2 x_2 r_2 b_2 cell_x froz_x lt_x cell_r froz_r lt_r hX3
  have cell_x := x_3.cell
  have froz_x := x_3.frozen
  have lt_x := x_3.lt
  have cell_r := r_3.cell
  have froz_r := r_3.frozen
  have lt_r := r_3.lt
  have cell_u := u_3.cell
  have froz_u := u_3.frozen
  have lt_u := u_3.lt
  go_wp2_with fail
  refine calls_forget1 (W := w3) (b0 := w3.heap.size) (t0 := 25) (c0 := #[.slice (some ⟨bx, ox, none⟩) 4 cx, .slice (some ⟨bY, oy, none⟩) 4 cy]) ?_ ?_ ?_
  (focus exact blkcBy)
  (focus (exact belBy))
  intro X4 q_n hX4
  have sX4 := hX4.size
  have q_lt := q_n.lt
  refine (iIsWordOf G O _ cg co 2 2 gs [.slice (some ⟨bx, ox, none⟩) 4 cx, .slice (some ⟨bY, oy, none⟩) 4 cy] _ (Cells.of_own (own_below og_3 hX4)) hok (by omega) rfl (cells_vals q_n) (words2 (HX.out.1.below (b_3.trans (hX4.mono (by omega)))) (HX.out.2.below (b_3.trans (hX4.mono (by omega)))) hwx hwy) (by omega)).mono ?_
  rintro e w4 ⟨rfl, hb4⟩
  have s4 := hb4.size
  have hT4 := hX4.trans (hb4.mono sX4)
  have b_4 := b_3.trans (hT4.mono (by omega))
  have og_4 := own_below og_3 hT4
  have oo_4 := own_below oo_3 hT4
  have pg_4 := own_below pg_3 hT4
  have po_4 := own_below po_3 hT4
  have x_4 := Blk.past hT4 x_3
  have r_4 := Blk.past hT4 r_3
  have u_4 := Blk.past hT4 u_3
  have q_4 := Blk.past hb4 q_n
  clear og_3 oo_3 pg_3 po_3 x_3 r_3 u_3 b_3 cell_x froz_x lt_x cell_r froz_r lt_r cell_u froz_u lt_u q_n hX4 hT4 hb4
  have cell_x := x_4.cell
  have froz_x := x_4.frozen
  have lt_x := x_4.lt
  have cell_r := r_4.cell
  have froz_r := r_4.frozen
  have lt_r := r_4.lt
  have cell_u := u_4.cell
  have froz_u := u_4.frozen
  have lt_u := u_4.lt
  have cell_q := q_4.cell
  have froz_q := q_4.frozen
  have lt_q := q_4.lt
  clear cell_q froz_q lt_q
  clear q_4
  clear cell_x froz_x lt_x
  clear x_4
  clear og_4
  clear oo_4
  have HB := hid (show Bld TI w4 w.heap.size w2.heap.size gs (.slice O' 0 co') from ⟨G', cg', u_4, by omega, own_weak pg_4 (by omega)⟩)
  have HR := hid (And.intro r_4 (And.intro (own_weak (base' := w.heap.size) po_4 (by omega)) b_4))
  have zw : w.heap.size ≤ w4.heap.size := b_4.size
  have zr : w.heap.size + 1 < w4.heap.size := r_4.lt
  have HX4 := hid (And.intro (HX.out.1.below b_4) (HX.out.2.below b_4))
  clear pg_4 po_4 r_4 u_4 b_4 cell_r froz_r lt_r cell_u froz_u lt_u pg_in po_in
  go_wp2_with fail
  refine Calls.mono (iNots (n := gs.length) (N := 4) _ HB.out rfl (by omega) HX4.out.2 hy4 (by omega)) ?_
  rintro e w91 ⟨g0, k0, rfl, hg0, hrow, hbl, hst⟩
  have z1 := hst.size
  obtain ⟨gs1, hgs1⟩ : ∃ l, notsG gs ys = l := ⟨_, rfl⟩
  have hl1 : gs1.length = gs.length + 4 := by rw [← hgs1, notsG_length, hy4]
  obtain ⟨bs1, hbs1⟩ : ∃ l, upW gs.length 4 = l := ⟨_, rfl⟩
  have hbl4 : bs1.length = 4 := by rw [← hbs1]; exact upW_length _ _
  rw [hgs1] at hbl
  rw [hbs1] at hrow
  have H1 := hid (And.intro hbl (And.intro ((HX4.out.1).stay hst (by decide)) (And.intro (Wd.of_row hrow) hst)))
  have HE := hid (And.intro hgs1 hbs1)
  clear hbl hrow hst hgs1 hbs1
  go_wp2_with fail
  refine (iGate (n := gs1.length) _ _ _ _ H1.out.1 rfl (by omega)).mono ?_
  rintro e w92 ⟨rfl, h, t⟩
  have z2 := t.size
  have H2 := hid (And.intro h (And.intro (H1.out.2.1.stay t (by decide)) (And.intro (H1.out.2.2.1.stay t (by decide)) (H1.out.2.2.2.trans t))))
  have hl_b := H2.out.2.1.lt
  have hl_g := H2.out.2.2.1.lt
  have hbk := (H2.out.1).len
  clear h t H1
  have hal : ∀ m, m < 4 → xs[m]? = some (xs.getD m 0) ∧ bs1[m]? = some (bs1.getD m 0) := fun m hm => by
    rw [List.getD_eq_getElem?_getD, List.getD_eq_getElem?_getD, List.getElem?_eq_getElem (show m < xs.length by omega), List.getElem?_eq_getElem (show m < bs1.length by omega)]
    exact ⟨rfl, rfl⟩
  have HAL := hid hal
  clear hal
  go_wp2_with fail
  go_loopw [10, 11, 34] (fun c _ i wr => ∃ (m : Nat), m ≤ 4 ∧ i = .int .i64 (m : Int) ∧ (∃ C : Int, c = .int .i64 C ∧ C = ((gs1.length + 5 * m : Nat) : Int)) ∧ Bld TI wr w.heap.size w2.heap.size (sumTo gs1 xs bs1 1 m) (.slice O' 0 co') ∧ Wd wr (some ⟨bx, ox, none⟩) xs ∧ Wd wr (some ⟨g0, 0, none⟩) bs1 ∧ Stay TI w.heap.size w4 wr) (fun _ _ i _ => 4 - (intOf i).toNat)
  case atStart => exact ⟨0, Nat.zero_le _, rfl, ⟨_, rfl, by omega⟩, H2.out.1, H2.out.2.1, H2.out.2.2.1, H2.out.2.2.2⟩
  case round =>
    clear H2
    obtain ⟨m, hm, rfl, ⟨C, rfl, hC⟩, hB, hX, hY, hS⟩ := hrel
    have HC := hid hC
    have zr := hS.size
    obtain ⟨N1, hN1⟩ : ∃ N, gs1.length + 5 * m + 1 = N := ⟨_, rfl⟩
    have hlen := sumTo_length gs1 xs bs1 1 m
    rw [hN1] at hlen
    have hnb : N1 ≤ 90000 := by omega
    have hB0 := hB
    have hX0 := hX
    have hY0 := hY
    have hti : 3 ≠ TI := by decide
    by_cases hlt : m < 4
    · have hlt' : (m : Int) < 4 := by omega
      obtain ⟨e1, e2⟩ := HAL.out m hlt
      obtain ⟨xa, hxa⟩ : ∃ x, xs.getD m 0 = x := ⟨_, rfl⟩
      obtain ⟨ya, hya⟩ : ∃ x, bs1.getD m 0 = x := ⟨_, rfl⟩
      rw [hxa] at e1
      rw [hya] at e2
      have HXY := hid (And.intro hxa hya)
      have d1 := hX.cell e1
      have d2 := hY.cell e2
      rw [Nat.zero_add] at d2
      have lx := hX.lt
      have ly := hY.lt
      have H := hid (And.intro hB (And.intro hX (And.intro hY hS)))
      clear hB hX hY hS hxa hya hC
      go_upto_region 9 with fail
      go_region_held3 (fun w' => w'.cell? ⟨bx, ox + m, none⟩ = some (.int .i64 xa) ∧ w'.cell? ⟨g0, m, none⟩ = some (.int .i64 ya)) (first | exact ⟨d1, d2⟩ | exact ⟨d1', d2'⟩) ((go_at_call 123; refine Calls.mono (iFull (n := N1) _ _ _ _ (Bld.heap hB0 rfl) hlen hnb) ?_; rintro e w3 ⟨rfl, h, t⟩; have d1' := (Wd.onto hX0 t rfl hti).cell e1; have d2' := (Wd.onto hY0 t rfl hti).cell e2; rw [Nat.zero_add] at d2'))
      all_goals
        have z3 := t.size
        have hS3 := H.out.2.2.2.onto t rfl rfl rfl rfl
        have zs := hS3.size
        have H3 := hid (And.intro h (And.intro (Wd.onto H.out.2.1 t rfl (by decide)) (And.intro (Wd.onto H.out.2.2.1 t rfl (by decide)) hS3)))
        clear h t hS3 H d1 d2 hB0 hX0 hY0 e1 e2 d1' d2'
        go_wp2
        go_roundw
        case rel =>
          exact ⟨m + 1, by omega, by go_num, ⟨_, rfl, by omega⟩, bld_cast H3.out.1 (by rw [sumTo, HXY.out.1, HXY.out.2, HC.out]), H3.out.2.1, H3.out.2.2.1, H3.out.2.2.2⟩
        case measure => simp [intOf]; omega
    · obtain rfl : m = 4 := by omega
      have hC2 : C = ((gs.length + ys.length + 20 : Nat) : Int) := by omega
      have hN2 : N1 = gs.length + 25 := by omega
      have H := hid (And.intro hB hS)
      have HC2 := hid hC2
      clear hB hX hY hS hC hX0 hY0 hC2
      go_wp2_with fail
      refine (iGate (n := N1) _ _ _ _ (Bld.heap hB0 rfl) hlen (by omega)).mono ?_
      rintro e w5 ⟨rfl, h, t⟩
      have z5 := t.size
      have hS5 := H.out.2.trans t
      have hB5 := bld_cast (gs' := lessG gs xs ys) h (by rw [← HE.out.1, ← HE.out.2, HC2.out]; rfl)
      have zz := hS5.size
      have H5 := hid (And.intro hB5 hS5)
      clear h t hS5 hB5 H hB0 hlen
      obtain ⟨Az, cz, hu, hlo, hgz⟩ := H5.out.1
      have cell_u := hu.cell
      have froz_u := hu.frozen
      have lt_u := hu.lt
      have hr := H5.out.2.blk HR.out.1 (by decide) (by decide)
      have cell_r := hr.cell
      have froz_r := hr.frozen
      have lt_r := hr.lt
      have hlz : (lessG gs xs ys).length = gs.length + 26 := by rw [lessG_length, hy4]
      have HF := hid (And.intro hlz (And.intro hgz (And.intro (H5.out.2.own HR.out.2.1 (by decide) (by decide)) (And.intro (HR.out.2.2.trans (H5.out.2.below zw)) hr))))
      have hne : w2.heap.size ≠ w.heap.size + 1 := by omega
      rw [hlz] at cell_u
      clear hu hgz hr hlz
      go_wp2
      ((try simp only [Exit.inBlock, Exit.then]); apply bodyPost_ret0; focus ((try simp only [results, Try.results112]); (try go_simp); (try rfl)))
      refine gives_i (HF.out.1.trans (by first | rfl | omega)) HF.out.2.1 HF.out.2.2.1 HF.out.2.2.2.1 HF.out.2.2.2.2 (by omega) (by exact tchBy) (by first | rfl | (simp; done) | (rw [hN2]; done))
end Go.Proofs.Ytihbaieiempjeaa
