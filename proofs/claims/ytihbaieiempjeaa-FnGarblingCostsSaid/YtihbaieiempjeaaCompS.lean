/- The gates of one statement, in the reference. -/
import Derived.Test.YtihbaieiempjeaaBy
import Derived.Test.YtihbaieiempjeaaCompI
namespace Go.Proofs.Ytihbaieiempjeaa
open Go.RowKit

theorem Blk.heap {w X : World} {b t : Nat} {cs : Array Value} (h : Blk w b t cs) (e : X.heap = w.heap) : Blk X b t cs := by
  unfold Blk at h ⊢
  rw [e]
  exact h
theorem and_seven {a : Nat} (h : a ≤ 7) : bits .and .i64 (a : Int) 7 = (a : Int) := by
  rw [show (7 : Int) = ((7 : Nat) : Int) from rfl, and_nat _ _ (by omega) (by omega), Nat.and_two_pow_sub_one_eq_mod a 3]
  omega
set_option linter.unusedVariables false in
set_option maxRecDepth 100000 in
set_option maxHeartbeats 1600000 in
theorem sComp1 {lo bp gr kr d a b c n bx ox cx bY oy cy : Nat} {gs : List Gt} {O : Value} {xs ys : List Int} (w : World) (h : Bld TS w lo bp gs O) (hl : gs.length ≤ 5000)
    (ha : a ≤ 7) (hb : b ≤ 7) (hrl : gr < w.heap.size) (h8 : 8 ≤ kr) (hcx : w.cell? ⟨gr, a, none⟩ = some (.slice (some ⟨bx, ox, none⟩) 4 cx)) (hcy : w.cell? ⟨gr, b, none⟩ = some (.slice (some ⟨bY, oy, none⟩) 4 cy))
    (hx : Wd w (some ⟨bx, ox, none⟩) xs) (hy : Wd w (some ⟨bY, oy, none⟩) ys) (hx4 : xs.length = 4) (hy4 : ys.length = 4) (hn : 0 ≤ (n : Int) ∧ (n : Int) ≤ 15) :
    Calls Try.prog 41 #[.pointer (some ⟨bp, 0, none⟩), .slice (some ⟨gr, 0, none⟩) 8 kr, .agg #[.int .i64 1, .int .i64 (d : Int), .int .i64 (a : Int), .int .i64 (b : Int), .int .i64 (c : Int), .int .i64 (n : Int)], .int .i64 0] w fun e w' => ∃ g k, e = .returned (.slice (some ⟨g, 0, none⟩) 4 k) ∧ w.heap.size ≤ g ∧ RowI w' g 4 k (upW gs.length 4) ∧ Bld TS w' lo bp (constTo gs n 4) O ∧ Stay TS lo w w' := by
  have HX := hid (And.intro h (And.intro hx hy))
  have lbx := hx.lt
  clear h hx hy
  have am := and_seven ha
  have a8 : (a : Int) < 8 := by omega
  have b8 : (b : Int) < 8 := by omega
  go_enter Try.func41, Try.ntmps41
  have b_0 := (Below.refl w.heap.size w)
  have s_0 := b_0.size
  have qx_0 := hcx
  clear hcx
  have lt_qx : gr < w.heap.size := by omega
  have qy_0 := hcy
  clear hcy
  have lt_qy : gr < w.heap.size := by omega
  go_upto_region 1 with fail
  refine wp_forget1 (w0 := w) (B := w.heap.size) (b0 := w.heap.size) (t0 := 45) (c0 := #[.int .i64 1, .int .i64 (d : Int), .int .i64 (a : Int), .int .i64 (b : Int), .int .i64 (c : Int), .int .i64 (n : Int)]) ?_ ?_ ?_
  (focus exact blkcBy)
  (focus (exact belBy))
  intro w1 q_1 hX1
  have sX1 := hX1.size
  have q_lt := q_1.lt
  have b_1 := b_0.trans (hX1.mono (by omega))
  have qx_1 := cell_kept qx_0 hX1 (by dsimp only; omega)
  have qy_1 := cell_kept qy_0 hX1 (by dsimp only; omega)
  clear qx_0 qy_0 b_0 lt_qx lt_qy hX1
  have cell_q := q_1.cell
  have froz_q := q_1.frozen
  have lt_q := q_1.lt
  have lt_qx : gr < w1.heap.size := (by omega)
  have lt_qy : gr < w1.heap.size := (by omega)
  have H1 := hid (And.intro (HX.out.1.below b_1) (And.intro (HX.out.2.1.below b_1) (And.intro (HX.out.2.2.below b_1) (Stay.of_below (T := TS) (lo := lo) b_1))))
  have Q1 := hid q_1
  have ob := hid b_1
  have z1 := b_1.size
  clear b_1 q_1 HX
  go_wp2_with fail
  refine Calls.mono (sConst (n : Int) _ H1.out.1 (by omega) hn) ?_
  rintro e w5 ⟨g5, k5, rfl, hge, k3, k1, k2⟩
  have z5 := k2.size
  have HF := hid (And.intro k3 (And.intro k1 (H1.out.2.2.2.trans k2)))
  clear k1 k2 k3
  go_wp2
  go_returns
  exact ⟨g5, k5, rfl, by omega, HF.out.1, HF.out.2.1, HF.out.2.2⟩
set_option linter.unusedVariables false in
set_option maxRecDepth 100000 in
set_option maxHeartbeats 1600000 in
theorem sComp2 {lo bp gr kr d a b c n bx ox cx bY oy cy : Nat} {gs : List Gt} {O : Value} {xs ys : List Int} (w : World) (h : Bld TS w lo bp gs O) (hl : gs.length ≤ 5000)
    (ha : a ≤ 7) (hb : b ≤ 7) (hrl : gr < w.heap.size) (h8 : 8 ≤ kr) (hcx : w.cell? ⟨gr, a, none⟩ = some (.slice (some ⟨bx, ox, none⟩) 4 cx)) (hcy : w.cell? ⟨gr, b, none⟩ = some (.slice (some ⟨bY, oy, none⟩) 4 cy))
    (hx : Wd w (some ⟨bx, ox, none⟩) xs) (hy : Wd w (some ⟨bY, oy, none⟩) ys) (hx4 : xs.length = 4) (hy4 : ys.length = 4) (ha4 : (a : Int) ≤ 4) (hn : 0 ≤ (n : Int) ∧ (n : Int) ≤ 3) :
    Calls Try.prog 41 #[.pointer (some ⟨bp, 0, none⟩), .slice (some ⟨gr, 0, none⟩) 8 kr, .agg #[.int .i64 2, .int .i64 (d : Int), .int .i64 (a : Int), .int .i64 (b : Int), .int .i64 (c : Int), .int .i64 (n : Int)], .int .i64 0] w fun e w' => ∃ g k, e = .returned (.slice (some ⟨g, 0, none⟩) 4 k) ∧ w.heap.size ≤ g ∧ RowI w' g 4 k (upW gs.length 4) ∧ Bld TS w' lo bp (inTo gs a n 4) O ∧ Stay TS lo w w' := by
  have HX := hid (And.intro h (And.intro hx hy))
  have lbx := hx.lt
  clear h hx hy
  have am := and_seven ha
  have a8 : (a : Int) < 8 := by omega
  have b8 : (b : Int) < 8 := by omega
  go_enter Try.func41, Try.ntmps41
  have b_0 := (Below.refl w.heap.size w)
  have s_0 := b_0.size
  have qx_0 := hcx
  clear hcx
  have lt_qx : gr < w.heap.size := by omega
  have qy_0 := hcy
  clear hcy
  have lt_qy : gr < w.heap.size := by omega
  go_upto_region 1 with fail
  refine wp_forget1 (w0 := w) (B := w.heap.size) (b0 := w.heap.size) (t0 := 45) (c0 := #[.int .i64 2, .int .i64 (d : Int), .int .i64 (a : Int), .int .i64 (b : Int), .int .i64 (c : Int), .int .i64 (n : Int)]) ?_ ?_ ?_
  (focus exact blkcBy)
  (focus (exact belBy))
  intro w1 q_1 hX1
  have sX1 := hX1.size
  have q_lt := q_1.lt
  have b_1 := b_0.trans (hX1.mono (by omega))
  have qx_1 := cell_kept qx_0 hX1 (by dsimp only; omega)
  have qy_1 := cell_kept qy_0 hX1 (by dsimp only; omega)
  clear qx_0 qy_0 b_0 lt_qx lt_qy hX1
  have cell_q := q_1.cell
  have froz_q := q_1.frozen
  have lt_q := q_1.lt
  have lt_qx : gr < w1.heap.size := (by omega)
  have lt_qy : gr < w1.heap.size := (by omega)
  have H1 := hid (And.intro (HX.out.1.below b_1) (And.intro (HX.out.2.1.below b_1) (And.intro (HX.out.2.2.below b_1) (Stay.of_below (T := TS) (lo := lo) b_1))))
  have Q1 := hid q_1
  have ob := hid b_1
  have z1 := b_1.size
  clear b_1 q_1 HX
  go_upto_region 8 with fail
  obtain ⟨w9, hw9⟩ : ∃ w9, w9 = w1.alloc (.cells #[] 3) := ⟨_, rfl⟩
  have hb : Below w1.heap.size w1 w9 := by rw [hw9]; exact (Below.refl _ _).alloc (Nat.le_refl _) _
  have ho9 : RowI w9 w1.heap.size 0 0 [] := by rw [hw9]; exact Row.new #[] (Nat.zero_le _) rfl rfl
  rw [← hw9]
  have H9 := hid (And.intro ((H1.out.1).below hb) (And.intro (ho9) ((Stay.of_below (T := TS) (lo := lo) hb))))
  have hbk := (H1.out.1).len
  clear ho9 hb hw9
  go_wp2_with fail
  go_loopw [11, 12] (fun o i wr => ∃ (m g k : Nat), m ≤ 4 ∧ i = .int .i64 (m : Int) ∧ o = .slice (some ⟨g, 0, none⟩) m k ∧ w1.heap.size ≤ g ∧ Bld TS wr lo bp (inTo gs a n m) O ∧ RowI wr g m k (upW gs.length m) ∧ Stay TS lo w1 wr) (fun _ i _ => 4 - (intOf i).toNat)
  case atStart => exact ⟨0, w1.heap.size, 0, Nat.zero_le _, rfl, rfl, Nat.le_refl _, H9.out.1, H9.out.2.1, H9.out.2.2⟩
  case round =>
    clear H9
    obtain ⟨m, g, k, hm, rfl, rfl, hg, hB, hR, hS⟩ := hrel
    have zr := hS.size
    by_cases hlt : m < 4
    · have hlt' : (m : Int) < 4 := by omega
      have hq := hS.blk Q1.out (by decide) (by decide)
      have cell_q := hq.cell
      have lt_q := hq.lt
      clear hq
      have hlen : (inTo gs a n m).length = gs.length + m := inTo_length _ _ _ _
      obtain ⟨N1, hN1⟩ : ∃ N, gs.length + m = N := ⟨_, rfl⟩
      rw [hN1] at hlen
      have HT := hid (show inTo gs a n (m + 1) = inTo gs a n m ++ [⟨1, ((a : Int) * 4 + n) * 4 + m, 0⟩] from rfl)
      have hB0 := hB
      have H := hid (And.intro (hB) (And.intro (hR) (hS)))
      clear hB hR hS
      go_wp2_with fail
      refine Calls.mono (sGate (n := N1) _ _ _ _ (Bld.heap hB0 rfl) hlen (by omega)) ?_
      rintro e w7 ⟨rfl, h, t⟩
      have z3 := t.size
      have hS3 := H.out.2.2.onto t rfl rfl rfl rfl
      have zs3 := hS3.size
      have HR3 := hid (Row.onto H.out.2.1 t rfl (by decide) (by decide))
      have H3 := hid (And.intro (h) (hS3))
      clear h t hS3 hB0 H
      go_wp2_with (at_builtin; refine app_int rfl _ _ rfl rfl (HR3.out.alloc _) [((N1 + 0 : Nat) : Int)] rfl rfl (top_cells _ [_] _) (by omega) ?_)
      intro g' k' w8 h1 h2 h3
      have h2 := grown_alloc h2
      have hg' : w1.heap.size ≤ g' := by (try simp at h3); omega
      have H8 := hid (And.intro ((bld_cast (gs' := inTo gs a n (m + 1)) (H3.out.1.grown h2 HR3.out (by decide)) (by rw [HT.out]))) (And.intro ((row_eq (ys := upW gs.length (m + 1)) h1 (by first | (rw [upW, ← hN1]; done) | (rw [upW, ← hN1]; simp)))) ((H3.out.2.grown h2 (by omega)))))
      clear h1 h2 h3 H3 HR3
      go_wp2
      go_roundw
      case rel => exact ⟨m + 1, g', k', by omega, by go_num, rfl, hg', H8.out.1, H8.out.2.1, H8.out.2.2⟩
      case measure => simp [intOf]; omega
    · obtain rfl : m = 4 := by omega
      have H := hid (And.intro hB (And.intro hR (H1.out.2.2.2.trans hS)))
      clear hB hR hS
      go_wp2
      go_returns
      exact ⟨g, k, rfl, by omega, H.out.2.1, H.out.1, H.out.2.2⟩
set_option linter.unusedVariables false in
set_option maxRecDepth 100000 in
set_option maxHeartbeats 1600000 in
theorem sComp3 {lo bp gr kr d a b c n bx ox cx bY oy cy : Nat} {gs : List Gt} {O : Value} {xs ys : List Int} (w : World) (h : Bld TS w lo bp gs O) (hl : gs.length ≤ 5000)
    (ha : a ≤ 7) (hb : b ≤ 7) (hrl : gr < w.heap.size) (h8 : 8 ≤ kr) (hcx : w.cell? ⟨gr, a, none⟩ = some (.slice (some ⟨bx, ox, none⟩) 4 cx)) (hcy : w.cell? ⟨gr, b, none⟩ = some (.slice (some ⟨bY, oy, none⟩) 4 cy))
    (hx : Wd w (some ⟨bx, ox, none⟩) xs) (hy : Wd w (some ⟨bY, oy, none⟩) ys) (hx4 : xs.length = 4) (hy4 : ys.length = 4) :
    Calls Try.prog 41 #[.pointer (some ⟨bp, 0, none⟩), .slice (some ⟨gr, 0, none⟩) 8 kr, .agg #[.int .i64 3, .int .i64 (d : Int), .int .i64 (a : Int), .int .i64 (b : Int), .int .i64 (c : Int), .int .i64 (n : Int)], .int .i64 0] w fun e w' => ∃ g k, e = .returned (.slice (some ⟨g, 0, none⟩) 4 k) ∧ w.heap.size ≤ g ∧ RowI w' g 4 k (sumW gs.length 3) ∧ Bld TS w' lo bp (sumG gs xs ys 0 3) O ∧ Stay TS lo w w' := by
  have HX := hid (And.intro h (And.intro hx hy))
  have lbx := hx.lt
  clear h hx hy
  have am := and_seven ha
  have a8 : (a : Int) < 8 := by omega
  have b8 : (b : Int) < 8 := by omega
  go_enter Try.func41, Try.ntmps41
  have b_0 := (Below.refl w.heap.size w)
  have s_0 := b_0.size
  have qx_0 := hcx
  clear hcx
  have lt_qx : gr < w.heap.size := by omega
  have qy_0 := hcy
  clear hcy
  have lt_qy : gr < w.heap.size := by omega
  go_upto_region 1 with fail
  refine wp_forget1 (w0 := w) (B := w.heap.size) (b0 := w.heap.size) (t0 := 45) (c0 := #[.int .i64 3, .int .i64 (d : Int), .int .i64 (a : Int), .int .i64 (b : Int), .int .i64 (c : Int), .int .i64 (n : Int)]) ?_ ?_ ?_
  (focus exact blkcBy)
  (focus (exact belBy))
  intro w1 q_1 hX1
  have sX1 := hX1.size
  have q_lt := q_1.lt
  have b_1 := b_0.trans (hX1.mono (by omega))
  have qx_1 := cell_kept qx_0 hX1 (by dsimp only; omega)
  have qy_1 := cell_kept qy_0 hX1 (by dsimp only; omega)
  clear qx_0 qy_0 b_0 lt_qx lt_qy hX1
  have cell_q := q_1.cell
  have froz_q := q_1.frozen
  have lt_q := q_1.lt
  have lt_qx : gr < w1.heap.size := (by omega)
  have lt_qy : gr < w1.heap.size := (by omega)
  have H1 := hid (And.intro (HX.out.1.below b_1) (And.intro (HX.out.2.1.below b_1) (And.intro (HX.out.2.2.below b_1) (Stay.of_below (T := TS) (lo := lo) b_1))))
  have Q1 := hid q_1
  have ob := hid b_1
  have z1 := b_1.size
  clear b_1 q_1 HX
  go_wp2_with fail
  refine Calls.mono (sSum (n := gs.length) 0 3 _ H1.out.1 rfl (by omega) H1.out.2.1 H1.out.2.2.1 hx4 hy4 (by omega)) ?_
  rintro e w5 ⟨g5, k5, rfl, hge, k3, k1, k2⟩
  have z5 := k2.size
  have HF := hid (And.intro k3 (And.intro k1 (H1.out.2.2.2.trans k2)))
  clear k1 k2 k3
  go_wp2
  go_returns
  exact ⟨g5, k5, rfl, by omega, HF.out.1, HF.out.2.1, HF.out.2.2⟩
set_option linter.unusedVariables false in
set_option maxRecDepth 100000 in
set_option maxHeartbeats 1600000 in
theorem sComp4 {lo bp gr kr d a b c n bx ox cx bY oy cy : Nat} {gs : List Gt} {O : Value} {xs ys : List Int} (w : World) (h : Bld TS w lo bp gs O) (hl : gs.length ≤ 5000)
    (ha : a ≤ 7) (hb : b ≤ 7) (hrl : gr < w.heap.size) (h8 : 8 ≤ kr) (hcx : w.cell? ⟨gr, a, none⟩ = some (.slice (some ⟨bx, ox, none⟩) 4 cx)) (hcy : w.cell? ⟨gr, b, none⟩ = some (.slice (some ⟨bY, oy, none⟩) 4 cy))
    (hx : Wd w (some ⟨bx, ox, none⟩) xs) (hy : Wd w (some ⟨bY, oy, none⟩) ys) (hx4 : xs.length = 4) (hy4 : ys.length = 4) :
    Calls Try.prog 41 #[.pointer (some ⟨bp, 0, none⟩), .slice (some ⟨gr, 0, none⟩) 8 kr, .agg #[.int .i64 4, .int .i64 (d : Int), .int .i64 (a : Int), .int .i64 (b : Int), .int .i64 (c : Int), .int .i64 (n : Int)], .int .i64 0] w fun e w' => ∃ g k, e = .returned (.slice (some ⟨g, 0, none⟩) 4 k) ∧ w.heap.size ≤ g ∧ RowI w' g 4 k (sumW (gs.length + 4) 3) ∧ Bld TS w' lo bp (sumG (notsG gs ys) xs (upW gs.length 4) 1 3) O ∧ Stay TS lo w w' := by
  have HX := hid (And.intro h (And.intro hx hy))
  have lbx := hx.lt
  clear h hx hy
  have am := and_seven ha
  have a8 : (a : Int) < 8 := by omega
  have b8 : (b : Int) < 8 := by omega
  go_enter Try.func41, Try.ntmps41
  have b_0 := (Below.refl w.heap.size w)
  have s_0 := b_0.size
  have qx_0 := hcx
  clear hcx
  have lt_qx : gr < w.heap.size := by omega
  have qy_0 := hcy
  clear hcy
  have lt_qy : gr < w.heap.size := by omega
  go_upto_region 1 with fail
  refine wp_forget1 (w0 := w) (B := w.heap.size) (b0 := w.heap.size) (t0 := 45) (c0 := #[.int .i64 4, .int .i64 (d : Int), .int .i64 (a : Int), .int .i64 (b : Int), .int .i64 (c : Int), .int .i64 (n : Int)]) ?_ ?_ ?_
  (focus exact blkcBy)
  (focus (exact belBy))
  intro w1 q_1 hX1
  have sX1 := hX1.size
  have q_lt := q_1.lt
  have b_1 := b_0.trans (hX1.mono (by omega))
  have qx_1 := cell_kept qx_0 hX1 (by dsimp only; omega)
  have qy_1 := cell_kept qy_0 hX1 (by dsimp only; omega)
  clear qx_0 qy_0 b_0 lt_qx lt_qy hX1
  have cell_q := q_1.cell
  have froz_q := q_1.frozen
  have lt_q := q_1.lt
  have lt_qx : gr < w1.heap.size := (by omega)
  have lt_qy : gr < w1.heap.size := (by omega)
  have H1 := hid (And.intro (HX.out.1.below b_1) (And.intro (HX.out.2.1.below b_1) (And.intro (HX.out.2.2.below b_1) (Stay.of_below (T := TS) (lo := lo) b_1))))
  have Q1 := hid q_1
  have ob := hid b_1
  have z1 := b_1.size
  clear b_1 q_1 HX
  go_wp2_with fail
  refine Calls.mono (sNots (n := gs.length) (N := 4) _ H1.out.1 rfl (by omega) H1.out.2.2.1 hy4 (by omega)) ?_
  rintro e w3 ⟨g3, k3, rfl, hg3, hrow, hbl, hst⟩
  have z3 := hst.size
  have H3 := hid (And.intro hbl (And.intro (H1.out.2.1.stay hst (by decide)) (And.intro (Wd.of_row hrow) (H1.out.2.2.2.trans hst))))
  clear hrow hbl hst
  go_wp2_with fail
  refine Calls.mono (sSum (n := gs.length + 4) 1 3 _ H3.out.1 (by rw [notsG_length, hy4]) (by omega) H3.out.2.1 H3.out.2.2.1 hx4 (upW_length _ _) (by omega)) ?_
  rintro e w5 ⟨g5, k5, rfl, hge, k3, k1, k2⟩
  have z5 := k2.size
  have HF := hid (And.intro k3 (And.intro k1 (H3.out.2.2.2.trans k2)))
  clear k1 k2 k3
  go_wp2
  go_returns
  exact ⟨g5, k5, rfl, by omega, HF.out.1, HF.out.2.1, HF.out.2.2⟩
set_option linter.unusedVariables false in
set_option maxRecDepth 100000 in
set_option maxHeartbeats 1600000 in
theorem sComp5 {lo bp gr kr d a b c n bx ox cx bY oy cy : Nat} {gs : List Gt} {O : Value} {xs ys : List Int} (w : World) (h : Bld TS w lo bp gs O) (hl : gs.length ≤ 5000)
    (ha : a ≤ 7) (hb : b ≤ 7) (hrl : gr < w.heap.size) (h8 : 8 ≤ kr) (hcx : w.cell? ⟨gr, a, none⟩ = some (.slice (some ⟨bx, ox, none⟩) 4 cx)) (hcy : w.cell? ⟨gr, b, none⟩ = some (.slice (some ⟨bY, oy, none⟩) 4 cy))
    (hx : Wd w (some ⟨bx, ox, none⟩) xs) (hy : Wd w (some ⟨bY, oy, none⟩) ys) (hx4 : xs.length = 4) (hy4 : ys.length = 4) :
    Calls Try.prog 41 #[.pointer (some ⟨bp, 0, none⟩), .slice (some ⟨gr, 0, none⟩) 8 kr, .agg #[.int .i64 5, .int .i64 (d : Int), .int .i64 (a : Int), .int .i64 (b : Int), .int .i64 (c : Int), .int .i64 (n : Int)], .int .i64 0] w fun e w' => ∃ g k, e = .returned (.slice (some ⟨g, 0, none⟩) 4 k) ∧ w.heap.size ≤ g ∧ RowI w' g 4 k ((mulTo gs xs ys 3).2) ∧ Bld TS w' lo bp ((mulTo gs xs ys 3).1) O ∧ Stay TS lo w w' := by
  have HX := hid (And.intro h (And.intro hx hy))
  have lbx := hx.lt
  clear h hx hy
  have am := and_seven ha
  have a8 : (a : Int) < 8 := by omega
  have b8 : (b : Int) < 8 := by omega
  go_enter Try.func41, Try.ntmps41
  have b_0 := (Below.refl w.heap.size w)
  have s_0 := b_0.size
  have qx_0 := hcx
  clear hcx
  have lt_qx : gr < w.heap.size := by omega
  have qy_0 := hcy
  clear hcy
  have lt_qy : gr < w.heap.size := by omega
  go_upto_region 1 with fail
  refine wp_forget1 (w0 := w) (B := w.heap.size) (b0 := w.heap.size) (t0 := 45) (c0 := #[.int .i64 5, .int .i64 (d : Int), .int .i64 (a : Int), .int .i64 (b : Int), .int .i64 (c : Int), .int .i64 (n : Int)]) ?_ ?_ ?_
  (focus exact blkcBy)
  (focus (exact belBy))
  intro w1 q_1 hX1
  have sX1 := hX1.size
  have q_lt := q_1.lt
  have b_1 := b_0.trans (hX1.mono (by omega))
  have qx_1 := cell_kept qx_0 hX1 (by dsimp only; omega)
  have qy_1 := cell_kept qy_0 hX1 (by dsimp only; omega)
  clear qx_0 qy_0 b_0 lt_qx lt_qy hX1
  have cell_q := q_1.cell
  have froz_q := q_1.frozen
  have lt_q := q_1.lt
  have lt_qx : gr < w1.heap.size := (by omega)
  have lt_qy : gr < w1.heap.size := (by omega)
  have H1 := hid (And.intro (HX.out.1.below b_1) (And.intro (HX.out.2.1.below b_1) (And.intro (HX.out.2.2.below b_1) (Stay.of_below (T := TS) (lo := lo) b_1))))
  have Q1 := hid q_1
  have ob := hid b_1
  have z1 := b_1.size
  clear b_1 q_1 HX
  go_wp2_with fail
  refine Calls.mono (sMul _ H1.out.1 hl H1.out.2.1 H1.out.2.2.1 hx4 hy4) ?_
  rintro e w5 ⟨g5, k5, rfl, hge, k3, k1, k2⟩
  have z5 := k2.size
  have HF := hid (And.intro k3 (And.intro k1 (H1.out.2.2.2.trans k2)))
  clear k1 k2 k3
  go_wp2
  go_returns
  exact ⟨g5, k5, rfl, by omega, HF.out.1, HF.out.2.1, HF.out.2.2⟩
set_option linter.unusedVariables false in
set_option maxRecDepth 100000 in
set_option maxHeartbeats 1600000 in
theorem sComp6 {lo bp gr kr d a b c n bx ox cx bY oy cy : Nat} {gs : List Gt} {O : Value} {xs ys : List Int} (w : World) (h : Bld TS w lo bp gs O) (hl : gs.length ≤ 5000)
    (ha : a ≤ 7) (hb : b ≤ 7) (hrl : gr < w.heap.size) (h8 : 8 ≤ kr) (hcx : w.cell? ⟨gr, a, none⟩ = some (.slice (some ⟨bx, ox, none⟩) 4 cx)) (hcy : w.cell? ⟨gr, b, none⟩ = some (.slice (some ⟨bY, oy, none⟩) 4 cy))
    (hx : Wd w (some ⟨bx, ox, none⟩) xs) (hy : Wd w (some ⟨bY, oy, none⟩) ys) (hx4 : xs.length = 4) (hy4 : ys.length = 4) :
    Calls Try.prog 41 #[.pointer (some ⟨bp, 0, none⟩), .slice (some ⟨gr, 0, none⟩) 8 kr, .agg #[.int .i64 6, .int .i64 (d : Int), .int .i64 (a : Int), .int .i64 (b : Int), .int .i64 (c : Int), .int .i64 (n : Int)], .int .i64 0] w fun e w' => ∃ g k, e = .returned (.slice (some ⟨g, 0, none⟩) 4 k) ∧ w.heap.size ≤ g ∧ RowI w' g 4 k (upW gs.length 4) ∧ Bld TS w' lo bp (bitTo gs 4 xs ys 4) O ∧ Stay TS lo w w' := by
  have HX := hid (And.intro h (And.intro hx hy))
  have lbx := hx.lt
  clear h hx hy
  have am := and_seven ha
  have a8 : (a : Int) < 8 := by omega
  have b8 : (b : Int) < 8 := by omega
  go_enter Try.func41, Try.ntmps41
  have b_0 := (Below.refl w.heap.size w)
  have s_0 := b_0.size
  have qx_0 := hcx
  clear hcx
  have lt_qx : gr < w.heap.size := by omega
  have qy_0 := hcy
  clear hcy
  have lt_qy : gr < w.heap.size := by omega
  go_upto_region 1 with fail
  refine wp_forget1 (w0 := w) (B := w.heap.size) (b0 := w.heap.size) (t0 := 45) (c0 := #[.int .i64 6, .int .i64 (d : Int), .int .i64 (a : Int), .int .i64 (b : Int), .int .i64 (c : Int), .int .i64 (n : Int)]) ?_ ?_ ?_
  (focus exact blkcBy)
  (focus (exact belBy))
  intro w1 q_1 hX1
  have sX1 := hX1.size
  have q_lt := q_1.lt
  have b_1 := b_0.trans (hX1.mono (by omega))
  have qx_1 := cell_kept qx_0 hX1 (by dsimp only; omega)
  have qy_1 := cell_kept qy_0 hX1 (by dsimp only; omega)
  clear qx_0 qy_0 b_0 lt_qx lt_qy hX1
  have cell_q := q_1.cell
  have froz_q := q_1.frozen
  have lt_q := q_1.lt
  have lt_qx : gr < w1.heap.size := (by omega)
  have lt_qy : gr < w1.heap.size := (by omega)
  have H1 := hid (And.intro (HX.out.1.below b_1) (And.intro (HX.out.2.1.below b_1) (And.intro (HX.out.2.2.below b_1) (Stay.of_below (T := TS) (lo := lo) b_1))))
  have Q1 := hid q_1
  have ob := hid b_1
  have z1 := b_1.size
  clear b_1 q_1 HX
  go_wp2_with fail
  refine Calls.mono (sBits4 4 _ H1.out.1 (by omega) H1.out.2.1 H1.out.2.2.1 hx4 hy4) ?_
  rintro e w5 ⟨g5, k5, rfl, hge, k3, k1, k2⟩
  have z5 := k2.size
  have HF := hid (And.intro k3 (And.intro k1 (H1.out.2.2.2.trans k2)))
  clear k1 k2 k3
  go_wp2
  go_returns
  exact ⟨g5, k5, rfl, by omega, HF.out.1, HF.out.2.1, HF.out.2.2⟩
set_option linter.unusedVariables false in
set_option maxRecDepth 100000 in
set_option maxHeartbeats 1600000 in
theorem sComp7 {lo bp gr kr d a b c n bx ox cx bY oy cy : Nat} {gs : List Gt} {O : Value} {xs ys : List Int} (w : World) (h : Bld TS w lo bp gs O) (hl : gs.length ≤ 5000)
    (ha : a ≤ 7) (hb : b ≤ 7) (hrl : gr < w.heap.size) (h8 : 8 ≤ kr) (hcx : w.cell? ⟨gr, a, none⟩ = some (.slice (some ⟨bx, ox, none⟩) 4 cx)) (hcy : w.cell? ⟨gr, b, none⟩ = some (.slice (some ⟨bY, oy, none⟩) 4 cy))
    (hx : Wd w (some ⟨bx, ox, none⟩) xs) (hy : Wd w (some ⟨bY, oy, none⟩) ys) (hx4 : xs.length = 4) (hy4 : ys.length = 4) :
    Calls Try.prog 41 #[.pointer (some ⟨bp, 0, none⟩), .slice (some ⟨gr, 0, none⟩) 8 kr, .agg #[.int .i64 7, .int .i64 (d : Int), .int .i64 (a : Int), .int .i64 (b : Int), .int .i64 (c : Int), .int .i64 (n : Int)], .int .i64 0] w fun e w' => ∃ g k, e = .returned (.slice (some ⟨g, 0, none⟩) 4 k) ∧ w.heap.size ≤ g ∧ RowI w' g 4 k (upW gs.length 4) ∧ Bld TS w' lo bp (bitTo gs 3 xs ys 4) O ∧ Stay TS lo w w' := by
  have HX := hid (And.intro h (And.intro hx hy))
  have lbx := hx.lt
  clear h hx hy
  have am := and_seven ha
  have a8 : (a : Int) < 8 := by omega
  have b8 : (b : Int) < 8 := by omega
  go_enter Try.func41, Try.ntmps41
  have b_0 := (Below.refl w.heap.size w)
  have s_0 := b_0.size
  have qx_0 := hcx
  clear hcx
  have lt_qx : gr < w.heap.size := by omega
  have qy_0 := hcy
  clear hcy
  have lt_qy : gr < w.heap.size := by omega
  go_upto_region 1 with fail
  refine wp_forget1 (w0 := w) (B := w.heap.size) (b0 := w.heap.size) (t0 := 45) (c0 := #[.int .i64 7, .int .i64 (d : Int), .int .i64 (a : Int), .int .i64 (b : Int), .int .i64 (c : Int), .int .i64 (n : Int)]) ?_ ?_ ?_
  (focus exact blkcBy)
  (focus (exact belBy))
  intro w1 q_1 hX1
  have sX1 := hX1.size
  have q_lt := q_1.lt
  have b_1 := b_0.trans (hX1.mono (by omega))
  have qx_1 := cell_kept qx_0 hX1 (by dsimp only; omega)
  have qy_1 := cell_kept qy_0 hX1 (by dsimp only; omega)
  clear qx_0 qy_0 b_0 lt_qx lt_qy hX1
  have cell_q := q_1.cell
  have froz_q := q_1.frozen
  have lt_q := q_1.lt
  have lt_qx : gr < w1.heap.size := (by omega)
  have lt_qy : gr < w1.heap.size := (by omega)
  have H1 := hid (And.intro (HX.out.1.below b_1) (And.intro (HX.out.2.1.below b_1) (And.intro (HX.out.2.2.below b_1) (Stay.of_below (T := TS) (lo := lo) b_1))))
  have Q1 := hid q_1
  have ob := hid b_1
  have z1 := b_1.size
  clear b_1 q_1 HX
  go_wp2_with fail
  refine Calls.mono (sBits4 3 _ H1.out.1 (by omega) H1.out.2.1 H1.out.2.2.1 hx4 hy4) ?_
  rintro e w5 ⟨g5, k5, rfl, hge, k3, k1, k2⟩
  have z5 := k2.size
  have HF := hid (And.intro k3 (And.intro k1 (H1.out.2.2.2.trans k2)))
  clear k1 k2 k3
  go_wp2
  go_returns
  exact ⟨g5, k5, rfl, by omega, HF.out.1, HF.out.2.1, HF.out.2.2⟩
set_option linter.unusedVariables false in
set_option maxRecDepth 100000 in
set_option maxHeartbeats 1600000 in
theorem sComp8 {lo bp gr kr d a b c n bx ox cx bY oy cy : Nat} {gs : List Gt} {O : Value} {xs ys : List Int} (w : World) (h : Bld TS w lo bp gs O) (hl : gs.length ≤ 5000)
    (ha : a ≤ 7) (hb : b ≤ 7) (hrl : gr < w.heap.size) (h8 : 8 ≤ kr) (hcx : w.cell? ⟨gr, a, none⟩ = some (.slice (some ⟨bx, ox, none⟩) 4 cx)) (hcy : w.cell? ⟨gr, b, none⟩ = some (.slice (some ⟨bY, oy, none⟩) 4 cy))
    (hx : Wd w (some ⟨bx, ox, none⟩) xs) (hy : Wd w (some ⟨bY, oy, none⟩) ys) (hx4 : xs.length = 4) (hy4 : ys.length = 4) :
    Calls Try.prog 41 #[.pointer (some ⟨bp, 0, none⟩), .slice (some ⟨gr, 0, none⟩) 8 kr, .agg #[.int .i64 8, .int .i64 (d : Int), .int .i64 (a : Int), .int .i64 (b : Int), .int .i64 (c : Int), .int .i64 (n : Int)], .int .i64 0] w fun e w' => ∃ g k, e = .returned (.slice (some ⟨g, 0, none⟩) 4 k) ∧ w.heap.size ≤ g ∧ RowI w' g 4 k ([((gs.length + 25 : Nat) : Int), 0, 0, 0]) ∧ Bld TS w' lo bp (lessG gs xs ys) O ∧ Stay TS lo w w' := by
  have HX := hid (And.intro h (And.intro hx hy))
  have lbx := hx.lt
  clear h hx hy
  have am := and_seven ha
  have a8 : (a : Int) < 8 := by omega
  have b8 : (b : Int) < 8 := by omega
  go_enter Try.func41, Try.ntmps41
  have b_0 := (Below.refl w.heap.size w)
  have s_0 := b_0.size
  have qx_0 := hcx
  clear hcx
  have lt_qx : gr < w.heap.size := by omega
  have qy_0 := hcy
  clear hcy
  have lt_qy : gr < w.heap.size := by omega
  go_upto_region 1 with fail
  refine wp_forget1 (w0 := w) (B := w.heap.size) (b0 := w.heap.size) (t0 := 45) (c0 := #[.int .i64 8, .int .i64 (d : Int), .int .i64 (a : Int), .int .i64 (b : Int), .int .i64 (c : Int), .int .i64 (n : Int)]) ?_ ?_ ?_
  (focus exact blkcBy)
  (focus (exact belBy))
  intro w1 q_1 hX1
  have sX1 := hX1.size
  have q_lt := q_1.lt
  have b_1 := b_0.trans (hX1.mono (by omega))
  have qx_1 := cell_kept qx_0 hX1 (by dsimp only; omega)
  have qy_1 := cell_kept qy_0 hX1 (by dsimp only; omega)
  clear qx_0 qy_0 b_0 lt_qx lt_qy hX1
  have cell_q := q_1.cell
  have froz_q := q_1.frozen
  have lt_q := q_1.lt
  have lt_qx : gr < w1.heap.size := (by omega)
  have lt_qy : gr < w1.heap.size := (by omega)
  have H1 := hid (And.intro (HX.out.1.below b_1) (And.intro (HX.out.2.1.below b_1) (And.intro (HX.out.2.2.below b_1) (Stay.of_below (T := TS) (lo := lo) b_1))))
  have Q1 := hid q_1
  have ob := hid b_1
  have z1 := b_1.size
  clear b_1 q_1 HX
  go_wp2_with fail
  refine Calls.mono (sLess _ H1.out.1 hl H1.out.2.1 H1.out.2.2.1 hx4 hy4) ?_
  rintro e w5 ⟨rfl, k1, k2⟩
  have z5 := k2.size
  obtain ⟨GL, hGL⟩ : ∃ l, (lessG gs xs ys) = l := ⟨_, rfl⟩
  rw [hGL] at k1
  obtain ⟨Z, hZ⟩ : ∃ l, (((gs.length + 25 : Nat) : Int)) = l := ⟨_, rfl⟩
  rw [hZ]
  have HGL := hid (And.intro hGL hZ)
  have HF := hid (And.intro k1 (H1.out.2.2.2.trans k2))
  clear k1 k2 hGL hZ H1
  go_wp2
  go_returns
  have k3 : RowI (w5.alloc (.cells #[.int .i64 Z, .int .i64 0, .int .i64 0, .int .i64 0] 3)) w5.heap.size 4 4 [Z, 0, 0, 0] := Row.new #[.int .i64 Z, .int .i64 0, .int .i64 0, .int .i64 0] (by decide) rfl rfl
  have hb := (Below.refl w5.heap.size w5).alloc (Nat.le_refl _) (.cells #[.int .i64 Z, .int .i64 0, .int .i64 0, .int .i64 0] 3)
  refine ⟨w5.heap.size, 4, rfl, by omega, ?_, ?_, HF.out.2.past hb⟩
  · rw [HGL.out.2]; exact k3
  · rw [HGL.out.1]; exact HF.out.1.below hb
set_option linter.unusedVariables false in
set_option maxRecDepth 100000 in
set_option maxHeartbeats 1600000 in
theorem sComp9 {lo bp gr kr d a b c n bx ox cx bY oy cy : Nat} {gs : List Gt} {O : Value} {xs ys : List Int} (w : World) (h : Bld TS w lo bp gs O) (hl : gs.length ≤ 5000)
    (ha : a ≤ 7) (hb : b ≤ 7) (hrl : gr < w.heap.size) (h8 : 8 ≤ kr) (hcx : w.cell? ⟨gr, a, none⟩ = some (.slice (some ⟨bx, ox, none⟩) 4 cx)) (hcy : w.cell? ⟨gr, b, none⟩ = some (.slice (some ⟨bY, oy, none⟩) 4 cy))
    (hx : Wd w (some ⟨bx, ox, none⟩) xs) (hy : Wd w (some ⟨bY, oy, none⟩) ys) (hx4 : xs.length = 4) (hy4 : ys.length = 4) :
    Calls Try.prog 41 #[.pointer (some ⟨bp, 0, none⟩), .slice (some ⟨gr, 0, none⟩) 8 kr, .agg #[.int .i64 9, .int .i64 (d : Int), .int .i64 (a : Int), .int .i64 (b : Int), .int .i64 (c : Int), .int .i64 (n : Int)], .int .i64 0] w fun e w' => ∃ g k, e = .returned (.slice (some ⟨g, 0, none⟩) 4 k) ∧ w.heap.size ≤ g ∧ RowI w' g 4 k ([((gs.length + 10 : Nat) : Int), 0, 0, 0]) ∧ Bld TS w' lo bp (eqG gs xs ys) O ∧ Stay TS lo w w' := by
  have HX := hid (And.intro h (And.intro hx hy))
  have lbx := hx.lt
  clear h hx hy
  have am := and_seven ha
  have a8 : (a : Int) < 8 := by omega
  have b8 : (b : Int) < 8 := by omega
  go_enter Try.func41, Try.ntmps41
  have b_0 := (Below.refl w.heap.size w)
  have s_0 := b_0.size
  have qx_0 := hcx
  clear hcx
  have lt_qx : gr < w.heap.size := by omega
  have qy_0 := hcy
  clear hcy
  have lt_qy : gr < w.heap.size := by omega
  go_upto_region 1 with fail
  refine wp_forget1 (w0 := w) (B := w.heap.size) (b0 := w.heap.size) (t0 := 45) (c0 := #[.int .i64 9, .int .i64 (d : Int), .int .i64 (a : Int), .int .i64 (b : Int), .int .i64 (c : Int), .int .i64 (n : Int)]) ?_ ?_ ?_
  (focus exact blkcBy)
  (focus (exact belBy))
  intro w1 q_1 hX1
  have sX1 := hX1.size
  have q_lt := q_1.lt
  have b_1 := b_0.trans (hX1.mono (by omega))
  have qx_1 := cell_kept qx_0 hX1 (by dsimp only; omega)
  have qy_1 := cell_kept qy_0 hX1 (by dsimp only; omega)
  clear qx_0 qy_0 b_0 lt_qx lt_qy hX1
  have cell_q := q_1.cell
  have froz_q := q_1.frozen
  have lt_q := q_1.lt
  have lt_qx : gr < w1.heap.size := (by omega)
  have lt_qy : gr < w1.heap.size := (by omega)
  have H1 := hid (And.intro (HX.out.1.below b_1) (And.intro (HX.out.2.1.below b_1) (And.intro (HX.out.2.2.below b_1) (Stay.of_below (T := TS) (lo := lo) b_1))))
  have Q1 := hid q_1
  have ob := hid b_1
  have z1 := b_1.size
  clear b_1 q_1 HX
  go_wp2_with fail
  refine Calls.mono (sEqual _ H1.out.1 hl H1.out.2.1 H1.out.2.2.1 hx4 hy4) ?_
  rintro e w5 ⟨rfl, k1, k2⟩
  have z5 := k2.size
  obtain ⟨GL, hGL⟩ : ∃ l, (eqG gs xs ys) = l := ⟨_, rfl⟩
  rw [hGL] at k1
  obtain ⟨Z, hZ⟩ : ∃ l, (((gs.length + 10 : Nat) : Int)) = l := ⟨_, rfl⟩
  rw [hZ]
  have HGL := hid (And.intro hGL hZ)
  have HF := hid (And.intro k1 (H1.out.2.2.2.trans k2))
  clear k1 k2 hGL hZ H1
  go_wp2
  go_returns
  have k3 : RowI (w5.alloc (.cells #[.int .i64 Z, .int .i64 0, .int .i64 0, .int .i64 0] 3)) w5.heap.size 4 4 [Z, 0, 0, 0] := Row.new #[.int .i64 Z, .int .i64 0, .int .i64 0, .int .i64 0] (by decide) rfl rfl
  have hb := (Below.refl w5.heap.size w5).alloc (Nat.le_refl _) (.cells #[.int .i64 Z, .int .i64 0, .int .i64 0, .int .i64 0] 3)
  refine ⟨w5.heap.size, 4, rfl, by omega, ?_, ?_, HF.out.2.past hb⟩
  · rw [HGL.out.2]; exact k3
  · rw [HGL.out.1]; exact HF.out.1.below hb
set_option linter.unusedVariables false in
set_option maxRecDepth 100000 in
set_option maxHeartbeats 1600000 in
theorem sComp10 {lo bp gr kr d a b c n bx ox cx bY oy cy : Nat} {gs : List Gt} {O : Value} {xs ys : List Int} (w : World) (h : Bld TS w lo bp gs O) (hl : gs.length ≤ 5000)
    (ha : a ≤ 7) (hb : b ≤ 7) (hrl : gr < w.heap.size) (h8 : 8 ≤ kr) (hcx : w.cell? ⟨gr, a, none⟩ = some (.slice (some ⟨bx, ox, none⟩) 4 cx)) (hcy : w.cell? ⟨gr, b, none⟩ = some (.slice (some ⟨bY, oy, none⟩) 4 cy))
    (hx : Wd w (some ⟨bx, ox, none⟩) xs) (hy : Wd w (some ⟨bY, oy, none⟩) ys) (hx4 : xs.length = 4) (hy4 : ys.length = 4) {bz oz cz : Nat} {zs : List Int} {x0 : Int} {vals : List Value} (hc : c ≤ 7) (hrow : Row w gr 25 1 8 kr vals) (hvz : vals[c]? = some (.slice (some ⟨bz, oz, none⟩) 4 cz)) (hz : Wd w (some ⟨bz, oz, none⟩) zs) (hz4 : zs.length = 4) (hx0 : xs[0]? = some x0) :
    Calls Try.prog 41 #[.pointer (some ⟨bp, 0, none⟩), .slice (some ⟨gr, 0, none⟩) 8 kr, .agg #[.int .i64 10, .int .i64 (d : Int), .int .i64 (a : Int), .int .i64 (b : Int), .int .i64 (c : Int), .int .i64 (n : Int)], .int .i64 0] w fun e w' => ∃ g k, e = .returned (.slice (some ⟨g, 0, none⟩) 4 k) ∧ w.heap.size ≤ g ∧ RowI w' g 4 k (muxW gs.length 4) ∧ Bld TS w' lo bp (muxTo gs x0 ys zs 4) O ∧ Stay TS lo w w' := by
  have HZ := hid (And.intro hz hrow)
  have hcz := hrow.cell hvz
  clear hz hrow
  have HX := hid (And.intro h (And.intro hx hy))
  have lbx := hx.lt
  clear h hx hy
  have am := and_seven ha
  have a8 : (a : Int) < 8 := by omega
  have b8 : (b : Int) < 8 := by omega
  go_enter Try.func41, Try.ntmps41
  have b_0 := (Below.refl w.heap.size w)
  have s_0 := b_0.size
  have qx_0 := hcx
  clear hcx
  have lt_qx : gr < w.heap.size := by omega
  have qy_0 := hcy
  clear hcy
  have lt_qy : gr < w.heap.size := by omega
  have qz_0 := hcz
  clear hcz
  have lt_qz : gr < w.heap.size := by omega
  go_upto_region 1 with fail
  refine wp_forget1 (w0 := w) (B := w.heap.size) (b0 := w.heap.size) (t0 := 45) (c0 := #[.int .i64 10, .int .i64 (d : Int), .int .i64 (a : Int), .int .i64 (b : Int), .int .i64 (c : Int), .int .i64 (n : Int)]) ?_ ?_ ?_
  (focus exact blkcBy)
  (focus (exact belBy))
  intro w1 q_1 hX1
  have sX1 := hX1.size
  have q_lt := q_1.lt
  have b_1 := b_0.trans (hX1.mono (by omega))
  have qx_1 := cell_kept qx_0 hX1 (by dsimp only; omega)
  have qy_1 := cell_kept qy_0 hX1 (by dsimp only; omega)
  have qz_1 := cell_kept qz_0 hX1 (by dsimp only; omega)
  clear qx_0 qy_0 qz_0 b_0 lt_qx lt_qy lt_qz hX1
  have cell_q := q_1.cell
  have froz_q := q_1.frozen
  have lt_q := q_1.lt
  have lt_qx : gr < w1.heap.size := (by omega)
  have lt_qy : gr < w1.heap.size := (by omega)
  have lt_qz : gr < w1.heap.size := (by omega)
  have H1 := hid (And.intro (HX.out.1.below b_1) (And.intro (HX.out.2.1.below b_1) (And.intro (HX.out.2.2.below b_1) (Stay.of_below (T := TS) (lo := lo) b_1))))
  have Q1 := hid q_1
  have ob := hid b_1
  have z1 := b_1.size
  clear b_1 q_1 HX
  go_upto_region 27 with fail
  have e4 : w1.cell? ⟨w.heap.size, 4, none⟩ = some (.int .i64 (c : Int)) := cell_q 4
  have d0 : w1.cell? ⟨bx, ox, none⟩ = some (.int .i64 x0) := H1.out.2.1.cell hx0
  have hB1 := H1.out.1
  have hy1 := H1.out.2.2.1
  have hz1 := HZ.out.1.below ob.out
  have lb1 : bx < w1.heap.size := by omega
  have hti : 3 ≠ TS := by decide
  have hzt : 25 ≠ TS := by decide
  have hzg : 25 ≠ TG := by decide
  have hst : 45 ≠ TS := by decide
  have hsg : 45 ≠ TG := by decide
  have c8 : (c : Int) < 8 := by omega
  have c0 : (0 : Int) ≤ (c : Int) := by omega
  have k0 : (0 : Int) < 4 := by omega
  have hx1 := H1.out.2.1
  have hr1 := HZ.out.2.below ob.out
  have hq1 := Q1.out
  have HS := hid H1.out.2.2.2
  clear H1 HZ ob Q1
  go_region_held3 (fun w' => w'.cell? ⟨w.heap.size, 4, none⟩ = some (.int .i64 (c : Int)) ∧ w'.cell? ⟨bx, ox, none⟩ = some (.int .i64 x0) ∧ w'.cell? ⟨gr, c, none⟩ = some (.slice (some ⟨bz, oz, none⟩) 4 cz)) (first | exact ⟨e4, d0, qz_1⟩ | exact ⟨e4p, d0p, qzp⟩) ((go_at_call 75; refine Calls.mono (sMux x0 _ (Bld.heap hB1 rfl) hl (Wd.heap hy1 rfl) (Wd.heap hz1 rfl) hy4 hz4) ?_; rintro e w5 ⟨g5, k5, rfl, hge, k3, k1, k2⟩; have e4p := (Stay.blk k2 (Blk.heap hq1 rfl) hst hsg).cell 4; have d0p := (Wd.onto hx1 k2 rfl hti).cell hx0; have qzp := (Row.onto hr1 k2 rfl hzt hzg).cell hvz))
  all_goals
    have HF := hid (And.intro k3 (And.intro k1 (HS.out.onto k2 rfl rfl rfl rfl)))
    have hg5 : w.heap.size ≤ g5 := Nat.le_trans z1 hge
    clear k1 k2 k3 e4p d0p qzp e4 d0 qz_1 hB1 hy1 hz1 hx1 hr1 hq1
    go_wp2
    go_returns
    exact ⟨g5, k5, rfl, hg5, HF.out.1, HF.out.2.1, HF.out.2.2⟩
end Go.Proofs.Ytihbaieiempjeaa
