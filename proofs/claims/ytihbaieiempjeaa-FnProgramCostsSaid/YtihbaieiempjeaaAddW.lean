/- Sums and differences of words, in the program. -/
import Derived.Test.YtihbaieiempjeaaBy
import Derived.Test.YtihbaieiempjeaaNots
namespace Go.Proofs.Ytihbaieiempjeaa
open Go.RowKit

theorem cells_vals {w : World} {b t : Nat} {cs : Array Value} (h : Blk w b t cs) : Cells w w.heap.size (some ⟨b, 0, none⟩) cs.toList := fun _ =>
  ⟨b, 0, rfl, h.lt, fun i v hv => by
    rw [Nat.zero_add, h.cell i]
    simpa using hv⟩
theorem words2 {w : World} {n bx ox cx bY oy cy : Nat} {xs ys : List Int} (hx : Wd w (some ⟨bx, ox, none⟩) xs) (hy : Wd w (some ⟨bY, oy, none⟩) ys) (h1 : wordB4 n xs = true) (h2 : wordB4 n ys = true) :
    WordsOk w n [.slice (some ⟨bx, ox, none⟩) 4 cx, .slice (some ⟨bY, oy, none⟩) 4 cy] := fun j v h => by
  match j, h with
  | 0, h => injection h with h; exact ⟨bx, ox, cx, xs, h.symm, hx, h1⟩
  | 1, h => injection h with h; exact ⟨bY, oy, cy, ys, h.symm, hy, h2⟩
theorem Touch.below' {L : List Nat} {w0 w w' : World} {B : Nat} (h : Touch L w w') (h0 : Below B w0 w) (hL : ∀ i ∈ L, B ≤ i) (hB : B ≤ w.heap.size) : Below B w0 w' :=
  ⟨h.os.trans h0.os, h.tape.trans h0.tape, h.output.trans h0.output, Nat.le_trans h0.size h.size, fun i hi => (h.block i (by omega) (fun hm => by have := hL i hm; omega)).trans (h0.block i hi)⟩
/-- What a word builder leaves: the circuit copied and grown, a word. -/
def GivesW (w : World) (gs : List Gt) (ws : List Int) (e : Ending) (w' : World) : Prop :=
  ∃ G cg O co g k, e = .returned (.tuple #[.agg #[.slice G gs.length cg, .slice O 0 co], .slice (some ⟨g, 0, none⟩) 4 k]) ∧ w'.ownsRow w.heap.size TG 3 (.slice G gs.length cg) gs.length (ints (flatG gs)) ∧
    w'.ownsRow w.heap.size 3 1 (.slice O 0 co) 0 [] ∧ w.heap.size ≤ g ∧ RowI w' g 4 k ws ∧ Below w.heap.size w w'
theorem gives_w {w wz w' : World} {gs : List Gt} {ws : List Int} {G O : Option Addr} {n cg co g k p : Nat} (hn : gs.length = n) (h1 : wz.ownsRow w.heap.size TG 3 (.slice G gs.length cg) gs.length (ints (flatG gs))) (h2 : wz.ownsRow w.heap.size 3 1 (.slice O 0 co) 0 [])
    (h3 : RowI wz g 4 k ws) (h4 : Below w.heap.size w wz) (h5 : w.heap.size ≤ g) {cs : Array Value} (hr : Blk wz p TS cs) (hp : w.heap.size ≤ p) (ht : Touch [p] wz w') :
    GivesW w gs ws (.returned (.tuple #[.agg #[.slice G n cg, .slice O 0 co], .slice (some ⟨g, 0, none⟩) 4 k])) w' := by
  subst hn
  have hm : ∀ q, q ≠ p → q ∉ [p] := fun q h => by simp [h]
  exact ⟨G, cg, O, co, g, k, rfl, own_touch' ht h1 (fun q hq => hm q (own_ne_obj h1 hr (by decide) q hq)), own_touch' ht h2 (fun q hq => hm q (own_ne_obj h2 hr (by decide) q hq)), h5,
    own_touch' ht h3 (fun q hq => hm q (own_ne_obj h3 hr (by decide) q hq)), ht.below' h4 (fun i hi => by simp at hi; omega) h4.size⟩
set_option linter.unusedVariables false in
set_option maxRecDepth 100000 in
set_option maxHeartbeats 800000 in
theorem iWordAdd {gs : List Gt} {G O : Option Addr} {cg co : Nat} {bx ox cx bY oy cy : Nat} {xs ys : List Int} (w : World) (hg : w.ownsRow 0 TG 3 (.slice G gs.length cg) gs.length (ints (flatG gs))) (ho : w.ownsRow 0 3 1 (.slice O 0 co) 0 (ints [])) (hok : gatesB 0 gs = true) (hl : gs.length ≤ 5000)
    (hx : Wd w (some ⟨bx, ox, none⟩) xs) (hy : Wd w (some ⟨bY, oy, none⟩) ys) (hwx : wordB4 gs.length xs = true) (hwy : wordB4 gs.length ys = true) (hcx : 4 ≤ cx) :
    Calls Try.prog 108 #[.agg #[.slice G gs.length cg, .slice O 0 co], .slice (some ⟨bx, ox, none⟩) 4 cx, .slice (some ⟨bY, oy, none⟩) 4 cy] w (GivesW w (sumG gs xs ys 0 3) (sumW gs.length 3)) := by
  have HX := hid (And.intro hx hy)
  have hx4 := (wordB4_at hwx).1
  have hy4 := (wordB4_at hwy).1
  clear hx hy
  go_enter Try.func108, Try.ntmps108
  have b_0 := (Below.refl w.heap.size w)
  have s_0 := b_0.size
  have og_in := own_in hg
  have og_0 := hg
  clear hg
  have oo_in := own_in ho
  have oo_0 := ho
  clear ho
  go_upto_region 1 with fail
  refine wp_forget2 (w0 := w) (B := w.heap.size) (b0 := w.heap.size) (t0 := 27) (c0 := #[.slice G gs.length cg, .slice O 0 co]) (b1 := w.heap.size + 1) (t1 := 27) (c1 := #[.slice none 0 0, .slice none 0 0]) ?_ ?_ ?_ ?_
  (focus exact blkcBy)
  (focus exact blkcBy)
  (focus (exact belBy))
  intro w1 x_1 r_1 hX1
  have sX1 := hX1.size
  have x_lt := x_1.lt
  have r_lt := r_1.lt
  have b_1 := b_0.trans (hX1.mono (by omega))
  have og_1 := own_below og_0 hX1
  have oo_1 := own_below oo_0 hX1
  clear og_0 oo_0 b_0 hX1
  have cell_x := x_1.cell
  have froz_x := x_1.frozen
  have lt_x := x_1.lt
  have cell_r := r_1.cell
  have froz_r := r_1.frozen
  have lt_r := r_1.lt
  go_wp2_with fail
  refine calls_forget0 (W := w1) ?_ ?_
  (focus (exact belBy))
  intro X2 hX2
  have sX2 := hX2.size
  refine (iCopyC _ _ _ _ _ _ (flatG gs) [] _ (own_below og_1 hX2) (own_below oo_1 hX2) (by omega) (by omega)).mono ?_
  rintro e w2 ⟨G', cg', O', co', rfl, pg_2, po_2, hb2⟩
  have s2 := hb2.size
  have hT2 := hX2.trans (hb2.mono sX2)
  have b_2 := b_1.trans (hT2.mono (by omega))
  have og_2 := own_below og_1 hT2
  have oo_2 := own_below oo_1 hT2
  have x_2 := Blk.past hT2 x_1
  have r_2 := Blk.past hT2 r_1
  have pg_in := own_in pg_2
  have po_in := own_in po_2
  clear og_1 oo_1 x_1 r_1 b_1 cell_x froz_x lt_x cell_r froz_r lt_r hX2 hT2 hb2
  have cell_x := x_2.cell
  have froz_x := x_2.frozen
  have lt_x := x_2.lt
  have cell_r := r_2.cell
  have froz_r := r_2.frozen
  have lt_r := r_2.lt
  go_upto_region 2 with fail
  refine wp_forget1 (w0 := w2) (B := w2.heap.size) (b0 := w2.heap.size) (t0 := 125) (c0 := #[.slice G' gs.length cg', .slice O' 0 co']) ?_ ?_ ?_
  (focus exact blkcBy)
  (focus (exact belBy))
  intro w3 u_3 hX3
  have sX3 := hX3.size
  have u_lt := u_3.lt
  have b_3 := b_2.trans (hX3.mono (by omega))
  have og_3 := own_below og_2 hX3
  have oo_3 := own_below oo_2 hX3
  have pg_3 := own_below pg_2 hX3
  have po_3 := own_below po_2 hX3
  have x_3 := Blk.past hX3 x_2
  have r_3 := Blk.past hX3 r_2
  clear og_2 oo_2 pg_2 po_2 x_2 r_2 b_2 cell_x froz_x lt_x cell_r froz_r lt_r hX3
  have cell_x := x_3.cell
  have froz_x := x_3.frozen
  have lt_x := x_3.lt
  have cell_r := r_3.cell
  have froz_r := r_3.frozen
  have lt_r := r_3.lt
  have cell_u := u_3.cell
  have froz_u := u_3.frozen
  have lt_u := u_3.lt
  go_wp2_with fail
  refine calls_forget1 (W := w3) (b0 := w3.heap.size) (t0 := 25) (c0 := #[.slice (some ⟨bx, ox, none⟩) 4 cx, .slice (some ⟨bY, oy, none⟩) 4 cy]) ?_ ?_ ?_
  (focus exact blkcBy)
  (focus (exact belBy))
  intro X4 q_n hX4
  have sX4 := hX4.size
  have q_lt := q_n.lt
  refine (iIsWordOf G O _ cg co 2 2 gs [.slice (some ⟨bx, ox, none⟩) 4 cx, .slice (some ⟨bY, oy, none⟩) 4 cy] _ (Cells.of_own (own_below og_3 hX4)) hok (by omega) rfl (cells_vals q_n) (words2 (HX.out.1.below (b_3.trans (hX4.mono (by omega)))) (HX.out.2.below (b_3.trans (hX4.mono (by omega)))) hwx hwy) (by omega)).mono ?_
  rintro e w4 ⟨rfl, hb4⟩
  have s4 := hb4.size
  have hT4 := hX4.trans (hb4.mono sX4)
  have b_4 := b_3.trans (hT4.mono (by omega))
  have og_4 := own_below og_3 hT4
  have oo_4 := own_below oo_3 hT4
  have pg_4 := own_below pg_3 hT4
  have po_4 := own_below po_3 hT4
  have x_4 := Blk.past hT4 x_3
  have r_4 := Blk.past hT4 r_3
  have u_4 := Blk.past hT4 u_3
  have q_4 := Blk.past hb4 q_n
  clear og_3 oo_3 pg_3 po_3 x_3 r_3 u_3 b_3 cell_x froz_x lt_x cell_r froz_r lt_r cell_u froz_u lt_u q_n hX4 hT4 hb4
  have cell_x := x_4.cell
  have froz_x := x_4.frozen
  have lt_x := x_4.lt
  have cell_r := r_4.cell
  have froz_r := r_4.frozen
  have lt_r := r_4.lt
  have cell_u := u_4.cell
  have froz_u := u_4.frozen
  have lt_u := u_4.lt
  have cell_q := q_4.cell
  have froz_q := q_4.frozen
  have lt_q := q_4.lt
  clear cell_q froz_q lt_q
  clear q_4
  clear cell_x froz_x lt_x
  clear x_4
  clear og_4
  clear oo_4
  have HB := hid (show Bld TI w4 w.heap.size w2.heap.size gs (.slice O' 0 co') from ⟨G', cg', u_4, by omega, own_weak pg_4 (by omega)⟩)
  have HR := hid (And.intro r_4 (And.intro (own_weak (base' := w.heap.size) po_4 (by omega)) b_4))
  have zw : w.heap.size ≤ w4.heap.size := b_4.size
  have zr : w.heap.size + 1 < w4.heap.size := r_4.lt
  have HX4 := hid (And.intro (HX.out.1.below b_4) (HX.out.2.below b_4))
  clear pg_4 po_4 r_4 u_4 b_4 cell_r froz_r lt_r cell_u froz_u lt_u pg_in po_in
  go_wp2_with fail
  refine Calls.mono (iSum (n := gs.length) 0 0 _ HB.out rfl (by omega) HX4.out.1 HX4.out.2 hx4 hy4 (by omega) hcx) ?_
  rintro e wz ⟨gz, kz, rfl, hgz0, hrow, hbl, hst⟩
  have hgz' : w.heap.size ≤ gz := by omega
  have hbl : Bld TI wz _ _ (sumG gs xs ys 0 3) _ := hbl
  have hrow : RowI wz gz 4 kz (sumW gs.length 3) := hrow
  have HZ := hid (And.intro hbl (And.intro hrow hst))
  have zz := hst.size
  clear hbl hrow hst
  obtain ⟨Az, cz, hu, hlo, hgz⟩ := HZ.out.1
  have cell_u := hu.cell
  have froz_u := hu.frozen
  have lt_u := hu.lt
  have hr := HZ.out.2.2.blk HR.out.1 (by decide) (by decide)
  have cell_r := hr.cell
  have froz_r := hr.frozen
  have lt_r := hr.lt
  have hlz : (sumG gs xs ys 0 3).length = gs.length + 18 := by rw [sumG_length]
  have HF := hid (And.intro hlz (And.intro hgz (And.intro (HZ.out.2.2.own HR.out.2.1 (by decide) (by decide)) (And.intro HZ.out.2.1 (And.intro (HR.out.2.2.trans (HZ.out.2.2.below zw)) hr)))))
  have hne : w2.heap.size ≠ w.heap.size + 1 := by omega
  rw [hlz] at cell_u
  clear hu hgz hr hlz
  go_wp2
  ((try simp only [Exit.inBlock, Exit.then]); apply bodyPost_ret0; focus ((try simp only [results, Try.results108]); (try go_simp); (try rfl)))
  exact gives_w HF.out.1 HF.out.2.1 HF.out.2.2.1 HF.out.2.2.2.1 HF.out.2.2.2.2.1 hgz' HF.out.2.2.2.2.2 (by omega) (by exact tchBy)
set_option linter.unusedVariables false in
set_option maxRecDepth 100000 in
set_option maxHeartbeats 800000 in
theorem iWordSub {gs : List Gt} {G O : Option Addr} {cg co : Nat} {bx ox cx bY oy cy : Nat} {xs ys : List Int} (w : World) (hg : w.ownsRow 0 TG 3 (.slice G gs.length cg) gs.length (ints (flatG gs))) (ho : w.ownsRow 0 3 1 (.slice O 0 co) 0 (ints [])) (hok : gatesB 0 gs = true) (hl : gs.length ≤ 5000)
    (hx : Wd w (some ⟨bx, ox, none⟩) xs) (hy : Wd w (some ⟨bY, oy, none⟩) ys) (hwx : wordB4 gs.length xs = true) (hwy : wordB4 gs.length ys = true) (hcx : 4 ≤ cx) :
    Calls Try.prog 109 #[.agg #[.slice G gs.length cg, .slice O 0 co], .slice (some ⟨bx, ox, none⟩) 4 cx, .slice (some ⟨bY, oy, none⟩) 4 cy] w (GivesW w (sumG (notsG gs ys) xs (upW gs.length 4) 1 3) (sumW (gs.length + 4) 3)) := by
  have HX := hid (And.intro hx hy)
  have hx4 := (wordB4_at hwx).1
  have hy4 := (wordB4_at hwy).1
  clear hx hy
  go_enter Try.func109, Try.ntmps109
  have b_0 := (Below.refl w.heap.size w)
  have s_0 := b_0.size
  have og_in := own_in hg
  have og_0 := hg
  clear hg
  have oo_in := own_in ho
  have oo_0 := ho
  clear ho
  go_upto_region 1 with fail
  refine wp_forget2 (w0 := w) (B := w.heap.size) (b0 := w.heap.size) (t0 := 27) (c0 := #[.slice G gs.length cg, .slice O 0 co]) (b1 := w.heap.size + 1) (t1 := 27) (c1 := #[.slice none 0 0, .slice none 0 0]) ?_ ?_ ?_ ?_
  (focus exact blkcBy)
  (focus exact blkcBy)
  (focus (exact belBy))
  intro w1 x_1 r_1 hX1
  have sX1 := hX1.size
  have x_lt := x_1.lt
  have r_lt := r_1.lt
  have b_1 := b_0.trans (hX1.mono (by omega))
  have og_1 := own_below og_0 hX1
  have oo_1 := own_below oo_0 hX1
  clear og_0 oo_0 b_0 hX1
  have cell_x := x_1.cell
  have froz_x := x_1.frozen
  have lt_x := x_1.lt
  have cell_r := r_1.cell
  have froz_r := r_1.frozen
  have lt_r := r_1.lt
  go_wp2_with fail
  refine calls_forget0 (W := w1) ?_ ?_
  (focus (exact belBy))
  intro X2 hX2
  have sX2 := hX2.size
  refine (iCopyC _ _ _ _ _ _ (flatG gs) [] _ (own_below og_1 hX2) (own_below oo_1 hX2) (by omega) (by omega)).mono ?_
  rintro e w2 ⟨G', cg', O', co', rfl, pg_2, po_2, hb2⟩
  have s2 := hb2.size
  have hT2 := hX2.trans (hb2.mono sX2)
  have b_2 := b_1.trans (hT2.mono (by omega))
  have og_2 := own_below og_1 hT2
  have oo_2 := own_below oo_1 hT2
  have x_2 := Blk.past hT2 x_1
  have r_2 := Blk.past hT2 r_1
  have pg_in := own_in pg_2
  have po_in := own_in po_2
  clear og_1 oo_1 x_1 r_1 b_1 cell_x froz_x lt_x cell_r froz_r lt_r hX2 hT2 hb2
  have cell_x := x_2.cell
  have froz_x := x_2.frozen
  have lt_x := x_2.lt
  have cell_r := r_2.cell
  have froz_r := r_2.frozen
  have lt_r := r_2.lt
  go_upto_region 2 with fail
  refine wp_forget1 (w0 := w2) (B := w2.heap.size) (b0 := w2.heap.size) (t0 := 125) (c0 := #[.slice G' gs.length cg', .slice O' 0 co']) ?_ ?_ ?_
  (focus exact blkcBy)
  (focus (exact belBy))
  intro w3 u_3 hX3
  have sX3 := hX3.size
  have u_lt := u_3.lt
  have b_3 := b_2.trans (hX3.mono (by omega))
  have og_3 := own_below og_2 hX3
  have oo_3 := own_below oo_2 hX3
  have pg_3 := own_below pg_2 hX3
  have po_3 := own_below po_2 hX3
  have x_3 := Blk.past hX3 x_2
  have r_3 := Blk.past hX3 r_2
  clear og_2 oo_2 pg_2 po_2 x_2 r_2 b_2 cell_x froz_x lt_x cell_r froz_r lt_r hX3
  have cell_x := x_3.cell
  have froz_x := x_3.frozen
  have lt_x := x_3.lt
  have cell_r := r_3.cell
  have froz_r := r_3.frozen
  have lt_r := r_3.lt
  have cell_u := u_3.cell
  have froz_u := u_3.frozen
  have lt_u := u_3.lt
  go_wp2_with fail
  refine calls_forget1 (W := w3) (b0 := w3.heap.size) (t0 := 25) (c0 := #[.slice (some ⟨bx, ox, none⟩) 4 cx, .slice (some ⟨bY, oy, none⟩) 4 cy]) ?_ ?_ ?_
  (focus exact blkcBy)
  (focus (exact belBy))
  intro X4 q_n hX4
  have sX4 := hX4.size
  have q_lt := q_n.lt
  refine (iIsWordOf G O _ cg co 2 2 gs [.slice (some ⟨bx, ox, none⟩) 4 cx, .slice (some ⟨bY, oy, none⟩) 4 cy] _ (Cells.of_own (own_below og_3 hX4)) hok (by omega) rfl (cells_vals q_n) (words2 (HX.out.1.below (b_3.trans (hX4.mono (by omega)))) (HX.out.2.below (b_3.trans (hX4.mono (by omega)))) hwx hwy) (by omega)).mono ?_
  rintro e w4 ⟨rfl, hb4⟩
  have s4 := hb4.size
  have hT4 := hX4.trans (hb4.mono sX4)
  have b_4 := b_3.trans (hT4.mono (by omega))
  have og_4 := own_below og_3 hT4
  have oo_4 := own_below oo_3 hT4
  have pg_4 := own_below pg_3 hT4
  have po_4 := own_below po_3 hT4
  have x_4 := Blk.past hT4 x_3
  have r_4 := Blk.past hT4 r_3
  have u_4 := Blk.past hT4 u_3
  have q_4 := Blk.past hb4 q_n
  clear og_3 oo_3 pg_3 po_3 x_3 r_3 u_3 b_3 cell_x froz_x lt_x cell_r froz_r lt_r cell_u froz_u lt_u q_n hX4 hT4 hb4
  have cell_x := x_4.cell
  have froz_x := x_4.frozen
  have lt_x := x_4.lt
  have cell_r := r_4.cell
  have froz_r := r_4.frozen
  have lt_r := r_4.lt
  have cell_u := u_4.cell
  have froz_u := u_4.frozen
  have lt_u := u_4.lt
  have cell_q := q_4.cell
  have froz_q := q_4.frozen
  have lt_q := q_4.lt
  clear cell_q froz_q lt_q
  clear q_4
  clear cell_x froz_x lt_x
  clear x_4
  clear og_4
  clear oo_4
  have HB := hid (show Bld TI w4 w.heap.size w2.heap.size gs (.slice O' 0 co') from ⟨G', cg', u_4, by omega, own_weak pg_4 (by omega)⟩)
  have HR := hid (And.intro r_4 (And.intro (own_weak (base' := w.heap.size) po_4 (by omega)) b_4))
  have zw : w.heap.size ≤ w4.heap.size := b_4.size
  have zr : w.heap.size + 1 < w4.heap.size := r_4.lt
  have HX4 := hid (And.intro (HX.out.1.below b_4) (HX.out.2.below b_4))
  clear pg_4 po_4 r_4 u_4 b_4 cell_r froz_r lt_r cell_u froz_u lt_u pg_in po_in
  go_wp2_with fail
  refine Calls.mono (iNots (n := gs.length) _ HB.out rfl (by omega) HX4.out.2 hy4 (by omega)) ?_
  rintro e w5 ⟨g5, k5, rfl, hg5, hrow, hbl, hst⟩
  have z5 := hst.size
  have H5 := hid (And.intro hbl (And.intro (Wd.of_row hrow) (And.intro (HX4.out.1.stay hst (by decide)) hst)))
  clear hbl hrow hst
  go_wp2_with fail
  refine Calls.mono (iSum (n := gs.length + 4) 1 0 _ H5.out.1 (by rw [notsG_length, hy4]) (by omega) H5.out.2.2.1 H5.out.2.1 hx4 (upW_length _ _) (by omega) hcx) ?_
  rintro e wz ⟨gz, kz, rfl, hgz0, hrow, hbl, hst⟩
  have hgz' : w.heap.size ≤ gz := by omega
  have hbl : Bld TI wz _ _ (sumG (notsG gs ys) xs (upW gs.length 4) 1 3) _ := hbl
  have hrow : RowI wz gz 4 kz (sumW (gs.length + 4) 3) := hrow
  have HZ := hid (And.intro hbl (And.intro hrow (H5.out.2.2.2.trans hst)))
  have zz := hst.size
  clear hbl hrow hst
  obtain ⟨Az, cz, hu, hlo, hgz⟩ := HZ.out.1
  have cell_u := hu.cell
  have froz_u := hu.frozen
  have lt_u := hu.lt
  have hr := HZ.out.2.2.blk HR.out.1 (by decide) (by decide)
  have cell_r := hr.cell
  have froz_r := hr.frozen
  have lt_r := hr.lt
  have hlz : (sumG (notsG gs ys) xs (upW gs.length 4) 1 3).length = gs.length + 22 := by rw [sumG_length, notsG_length, hy4]
  have HF := hid (And.intro hlz (And.intro hgz (And.intro (HZ.out.2.2.own HR.out.2.1 (by decide) (by decide)) (And.intro HZ.out.2.1 (And.intro (HR.out.2.2.trans (HZ.out.2.2.below zw)) hr)))))
  have hne : w2.heap.size ≠ w.heap.size + 1 := by omega
  rw [hlz] at cell_u
  clear hu hgz hr hlz
  go_wp2
  ((try simp only [Exit.inBlock, Exit.then]); apply bodyPost_ret0; focus ((try simp only [results, Try.results109]); (try go_simp); (try rfl)))
  exact gives_w HF.out.1 HF.out.2.1 HF.out.2.2.1 HF.out.2.2.2.1 HF.out.2.2.2.2.1 hgz' HF.out.2.2.2.2.2 (by omega) (by exact tchBy)
end Go.Proofs.Ytihbaieiempjeaa
