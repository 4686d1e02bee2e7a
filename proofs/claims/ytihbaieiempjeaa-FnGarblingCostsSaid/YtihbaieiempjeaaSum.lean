/- Sums of words: in the program and in the reference. -/
import Derived.Test.YtihbaieiempjeaaBld2
import Derived.Deep.RegionHeld3
namespace Go.Proofs.Ytihbaieiempjeaa
open Go.RowKit

theorem bld_cast {T lo bp : Nat} {w : World} {gs gs' : List Gt} {O : Value} (h : Bld T w lo bp gs O) (e : gs = gs') : Bld T w lo bp gs' O := e ▸ h
theorem row_eq {w : World} {g n c : Nat} {xs ys : List Int} (h : RowI w g n c xs) (e : xs = ys) : RowI w g n c ys := e ▸ h
theorem ints_inv {xs : List Int} {j : Nat} {u : Value} (h : (ints xs)[j]? = some u) : ∃ x, xs[j]? = some x ∧ .int .i64 x = u := by
  unfold ints at h
  rw [List.getElem?_map] at h
  cases hx : xs[j]? with
  | none => rw [hx] at h; cases h
  | some x => rw [hx] at h; injection h with h; exact ⟨x, rfl, h⟩
set_option linter.unusedVariables false in
set_option maxRecDepth 100000 in
set_option maxHeartbeats 3200000 in
theorem iSum {lo bp : Nat} {gs : List Gt} {O : Value} {n : Nat} {bx ox cx bY oy cy : Nat} {xs ys : List Int} (first : Int) (f : Nat) (w : World) (h : Bld TI w lo bp gs O) (hn : gs.length = n) (hs : n ≤ 50000) (hx : Wd w (some ⟨bx, ox, none⟩) xs) (hy : Wd w (some ⟨bY, oy, none⟩) ys) (hxl : xs.length = 4) (hyl : ys.length = 4) (hf : f ≤ 3) (hcx : 4 ≤ cx) :
    Calls Try.prog 121 #[.pointer (some ⟨bp, 0, none⟩), .slice (some ⟨bx, ox, none⟩) 4 cx, .slice (some ⟨bY, oy, none⟩) 4 cy, .int .i64 first, .int .i64 (f : Int)] w fun e w' => ∃ g k, e = .returned (.slice (some ⟨g, 0, none⟩) 4 k) ∧ w.heap.size ≤ g ∧ RowI w' g 4 k (xs.take f ++ sumW n (3 - f)) ∧ Bld TI w' lo bp (sumG gs (xs.drop f) (ys.drop f) first (3 - f)) O ∧ Stay TI lo w w' := by
  subst hn
  have hbx := hx.lt
  have hby := hy.lt
  have hbp := h.len
  obtain ⟨az, hza⟩ : ∃ a, xs.drop f = a := ⟨_, rfl⟩
  obtain ⟨bs, hzb⟩ : ∃ a, ys.drop f = a := ⟨_, rfl⟩
  obtain ⟨M, hM⟩ : ∃ M, 3 - f = M := ⟨_, rfl⟩
  obtain ⟨pre, hpre⟩ : ∃ a, xs.take f = a := ⟨_, rfl⟩
  have hal : ∀ m, m ≤ M → xs[f + m]? = some (az.getD m 0) ∧ ys[f + m]? = some (bs.getD m 0) := fun m hm => by
    rw [← hza, ← hzb, List.getD_eq_getElem?_getD, List.getD_eq_getElem?_getD, List.getElem?_drop, List.getElem?_drop, List.getElem?_eq_getElem (show f + m < xs.length by omega), List.getElem?_eq_getElem (show f + m < ys.length by omega)]
    exact ⟨rfl, rfl⟩
  have hpl : pre.length = f := by rw [← hpre, List.length_take]; omega
  have HPC := hid (show ∀ j u, (ints pre)[j]? = some u → w.cell? ⟨bx, ox + j, none⟩ = some u from fun j u hu => by
    obtain ⟨x, hx1, rfl⟩ := ints_inv hu
    rw [← hpre, List.getElem?_take] at hx1
    split at hx1
    · exact hx.cell hx1
    · cases hx1)
  rw [hza, hzb, hM, hpre]
  have HAL := hid hal
  have H0 := hid (And.intro h (And.intro hx hy))
  clear h hx hy hal
  go_enter Try.func121, Try.ntmps121
  have hfc : (f : Int) ≤ (cx : Int) := by omega
  go_wp2_with fail
  refine (iIntsAt _ _ HPC.out hbx hpl (by omega)).mono ?_
  rintro e w1 ⟨go, ko, rfl, hgo, ho, hb⟩
  have z1 := hb.size
  have H1 := hid (And.intro (H0.out.1.below hb) (And.intro (H0.out.2.1.below hb) (And.intro (H0.out.2.2.below hb) (And.intro ho (Stay.of_below (T := TI) (lo := lo) hb)))))
  clear ho hb H0 HPC
  go_wp2_with fail
  refine (iGate (n := gs.length) _ _ _ _ H1.out.1 rfl (by omega)).mono ?_
  rintro e w2 ⟨rfl, h, t⟩
  have z2 := t.size
  have H2 := hid (And.intro h (And.intro (H1.out.2.1.stay t (by decide)) (And.intro (H1.out.2.2.1.stay t (by decide)) (And.intro (t.row H1.out.2.2.2.1 (by decide) (by decide)) (H1.out.2.2.2.2.trans t)))))
  clear h t H1
  go_wp2_with fail
  go_loopw [11, 12, 13, 14, 15] (fun o c i _ _ wr => ∃ (m q g k : Nat), m ≤ M ∧ q = f + m ∧ i = .int .i64 (q : Int) ∧ (∃ C : Int, c = .int .i64 C ∧ C = ((gs.length + 5 * m : Nat) : Int)) ∧ o = .slice (some ⟨g, 0, none⟩) q k ∧ w.heap.size ≤ g ∧ Bld TI wr lo bp (sumTo gs az bs first m) O ∧ Wd wr (some ⟨bx, ox, none⟩) xs ∧ Wd wr (some ⟨bY, oy, none⟩) ys ∧ RowI wr g q k (pre ++ sumWs gs.length m) ∧ Stay TI lo w wr) (fun _ _ i _ _ _ => 3 - (intOf i).toNat)
  case atStart => exact ⟨0, f, go, ko, Nat.zero_le _, rfl, rfl, ⟨_, rfl, rfl⟩, rfl, hgo, H2.out.1, H2.out.2.1, H2.out.2.2.1, by show RowI _ _ _ _ (pre ++ []); rw [List.append_nil]; exact H2.out.2.2.2.1, H2.out.2.2.2.2⟩
  case round =>
    clear H2
    obtain ⟨m, q, g, k, hm, hq, rfl, ⟨C, rfl, hC⟩, rfl, hg, hB, hX, hY, hR, hS⟩ := hrel
    have HC := hid hC
    have zr := hS.size
    obtain ⟨e1, e2⟩ := HAL.out m hm
    rw [← hq] at e1 e2
    have HQ := hid hq
    clear hq
    obtain ⟨xa, hxa⟩ : ∃ x, az.getD m 0 = x := ⟨_, rfl⟩
    obtain ⟨ya, hya⟩ : ∃ x, bs.getD m 0 = x := ⟨_, rfl⟩
    rw [hxa] at e1
    rw [hya] at e2
    have HXY := hid (And.intro hxa hya)
    have d1 := hX.cell e1
    have d2 := hY.cell e2
    have lx : bx < wr.heap.size := by omega
    have ly : bY < wr.heap.size := by omega
    obtain ⟨N1, hN1⟩ : ∃ N, gs.length + 5 * m + 1 = N := ⟨_, rfl⟩
    have hlen := sumTo_length gs az bs first m
    rw [hN1] at hlen
    have hnb : N1 ≤ 90000 := by omega
    have hB0 := hB
    have hX0 := hX
    have hY0 := hY
    have hti : 3 ≠ TI := by decide
    have H := hid (And.intro hB (And.intro hX (And.intro hY (And.intro hR hS))))
    clear hB hX hY hR hS hxa hya hC
    by_cases hlt : m < M
    · have hlt' : (q : Int) < 3 := by have := HQ.out; omega
      have hi4 : (q : Int) < 4 := by have := HQ.out; omega
      have hi0 : (0 : Int) ≤ (q : Int) := by omega
      go_upto_region 6 with fail
      go_region_held3 (fun w' => w'.cell? ⟨bx, ox + q, none⟩ = some (.int .i64 xa) ∧ w'.cell? ⟨bY, oy + q, none⟩ = some (.int .i64 ya)) (first | exact ⟨d1, d2⟩ | exact ⟨d1', d2'⟩) ((go_at_call 123; refine Calls.mono (iFull (n := N1) _ _ _ _ (Bld.heap hB0 rfl) hlen hnb) ?_; rintro e w3 ⟨rfl, h, t⟩; have d1' := (Wd.onto hX0 t rfl hti).cell e1; have d2' := (Wd.onto hY0 t rfl hti).cell e2))
      all_goals
        have z3 := t.size
        have hS3 := H.out.2.2.2.2.onto t rfl rfl rfl rfl
        have zs := hS3.size
        have HR3 := hid (Row.onto H.out.2.2.2.1 t rfl (by decide) (by decide))
        have H3 := hid (And.intro h (And.intro (Wd.onto H.out.2.1 t rfl (by decide)) (And.intro (Wd.onto H.out.2.2.1 t rfl (by decide)) hS3)))
        clear h t hS3 H d1 d2 hB0 hX0 hY0 e1 e2 d1' d2'
        go_wp2_with (at_builtin; refine app_int rfl _ _ rfl rfl (HR3.out.alloc _) [((N1 + 2 : Nat) : Int)] rfl rfl (top_cells _ [_] _) (by omega) ?_)
        intro g' k' w4 h1 h2 h3
        have h2 := grown_alloc h2
        have hg' : w.heap.size ≤ g' := by (try simp at h3); omega
        have hne1 : bx ≠ g := by omega
        have he3 : ((N1 + 2 : Nat) : Int) = ((gs.length + 5 * m + 3 : Nat) : Int) := by omega
        have hne2 : bY ≠ g := by omega
        have H4 := hid (And.intro (H3.out.1.grown h2 HR3.out (by decide)) (And.intro (H3.out.2.1.grown h2 hne1) (And.intro (H3.out.2.2.1.grown h2 hne2) (And.intro (row_eq (ys := pre ++ sumWs gs.length (m + 1)) h1 (by rw [sumWs, ← he3]; first | rfl | simp)) (H3.out.2.2.2.grown h2 hg)))))
        clear h1 h2 h3 H3 HR3
        go_wp2
        go_roundw
        case rel =>
          refine ⟨m + 1, q + 1, g', k', by omega, by have := HQ.out; omega, by go_num, ⟨_, rfl, by omega⟩, rfl, hg', bld_cast H4.out.1 (by rw [sumTo, HXY.out.1, HXY.out.2, HC.out]), H4.out.2.1, H4.out.2.2.1, ?_, H4.out.2.2.2.2⟩
          exact H4.out.2.2.2.1
        case measure => have := HQ.out; simp [intOf]; omega
    · obtain rfl : m = M := by omega
      have h3 : q = 3 := by have := HQ.out; omega
      have hlt' : ¬ (q : Int) < 3 := by omega
      subst h3
      go_upto_region 9 with fail
      go_still_tail 7, (by kernel_rfl)
      go_wp2_with fail
      refine Calls.mono (iGate (n := N1) _ _ _ _ (Bld.heap hB0 rfl) hlen (by omega)) ?_
      rintro e w3 ⟨rfl, h, t⟩
      have hS3 := H.out.2.2.2.2.onto t rfl rfl rfl rfl
      have H3 := hid (And.intro h (And.intro (Row.onto H.out.2.2.2.1 t rfl (by decide) (by decide)) hS3))
      clear h t hS3 H d1 d2 hB0 hX0 hY0 e1 e2
      go_wp2_with fail
      refine (iGate (n := N1 + 1) _ _ _ _ H3.out.1 (by rw [List.length_append, hlen]; rfl) (by omega)).mono ?_
      rintro e w5 ⟨rfl, h, t⟩
      have hS5 := H3.out.2.2.trans t
      have zs := hS5.size
      have HR5 := hid (t.row H3.out.2.1 (by decide) (by decide))
      have H5 := hid (And.intro h hS5)
      clear h t hS5 H3
      go_wp2_with (at_builtin; refine app_int rfl _ _ rfl rfl (HR5.out.alloc _) [((N1 + 1 : Nat) : Int)] rfl rfl (top_cells _ [_] _) (by omega) ?_)
      intro g' k' w6 h1 h2 h3
      have h2 := grown_alloc h2
      have hg' : w.heap.size ≤ g' := by (try simp at h3); omega
      have he3 : ((N1 + 1 : Nat) : Int) = ((gs.length + 5 * m + 2 : Nat) : Int) := by omega
      have H6 := hid (And.intro (H5.out.1.grown h2 HR5.out (by decide)) (And.intro (row_eq (ys := pre ++ sumW gs.length m) h1 (by rw [sumW, ← he3]; first | rfl | simp)) (H5.out.2.grown h2 hg)))
      clear h1 h2 h3 H5 HR5
      go_wp2
      go_returns
      refine ⟨g', k', rfl, hg', ?_, ?_, H6.out.2.2⟩
      · exact H6.out.2.1
      · exact bld_cast H6.out.1 (by unfold sumG; rw [HXY.out.1, HXY.out.2, HC.out]; simp; omega)
set_option linter.unusedVariables false in
set_option maxRecDepth 100000 in
set_option maxHeartbeats 3200000 in
theorem sSum {lo bp : Nat} {gs : List Gt} {O : Value} {n : Nat} {bx ox cx bY oy cy : Nat} {xs ys : List Int} (first : Int) (M : Nat) (w : World) (h : Bld TS w lo bp gs O) (hn : gs.length = n) (hs : n ≤ 50000) (hx : Wd w (some ⟨bx, ox, none⟩) xs) (hy : Wd w (some ⟨bY, oy, none⟩) ys) (hxl : xs.length = M + 1) (hyl : ys.length = M + 1) (hM : M ≤ 100) :
    Calls Try.prog 69 #[.pointer (some ⟨bp, 0, none⟩), .slice (some ⟨bx, ox, none⟩) (M + 1) cx, .slice (some ⟨bY, oy, none⟩) (M + 1) cy, .int .i64 first] w fun e w' => ∃ g k, e = .returned (.slice (some ⟨g, 0, none⟩) (M + 1) k) ∧ w.heap.size ≤ g ∧ RowI w' g (M + 1) k (sumW n M) ∧ Bld TS w' lo bp (sumG gs xs ys first M) O ∧ Stay TS lo w w' := by
  subst hn
  have hbx := hx.lt
  have hby := hy.lt
  have hbp := h.len
  have hal : ∀ m, m ≤ M → xs[m]? = some (xs.getD m 0) ∧ ys[m]? = some (ys.getD m 0) := fun m hm => by
    rw [List.getD_eq_getElem?_getD, List.getD_eq_getElem?_getD, List.getElem?_eq_getElem (show m < xs.length by omega), List.getElem?_eq_getElem (show m < ys.length by omega)]
    exact ⟨rfl, rfl⟩
  have HAL := hid hal
  have H0 := hid (And.intro h (And.intro hx hy))
  clear h hx hy hal
  go_enter Try.func69, Try.ntmps69
  go_upto_region 2 with fail
  obtain ⟨w1, hw1⟩ : ∃ w1, w1 = w.alloc (.cells #[] 3) := ⟨_, rfl⟩
  have hb : Below w.heap.size w w1 := by rw [hw1]; exact (Below.refl _ _).alloc (Nat.le_refl _) _
  have ho : RowI w1 w.heap.size 0 0 [] := by rw [hw1]; exact Row.new #[] (Nat.zero_le _) rfl rfl
  rw [← hw1]
  have z1 := hb.size
  have H1 := hid (And.intro (H0.out.1.below hb) (And.intro (H0.out.2.1.below hb) (And.intro (H0.out.2.2.below hb) (And.intro ho (Stay.of_below (T := TS) (lo := lo) hb)))))
  clear ho hb H0 hw1
  go_wp2_with fail
  refine (sGate (n := gs.length) _ _ _ _ H1.out.1 rfl (by omega)).mono ?_
  rintro e w2 ⟨rfl, h, t⟩
  have z2 := t.size
  have H2 := hid (And.intro h (And.intro (H1.out.2.1.stay t (by decide)) (And.intro (H1.out.2.2.1.stay t (by decide)) (And.intro (t.row H1.out.2.2.2.1 (by decide) (by decide)) (H1.out.2.2.2.2.trans t)))))
  clear h t H1
  go_wp2_with fail
  go_loopw [9, 10, 12, 13, 14] (fun o c i _ _ wr => ∃ (m g k : Nat), m ≤ M ∧ i = .int .i64 (m : Int) ∧ (∃ C : Int, c = .int .i64 C ∧ C = ((gs.length + 5 * m : Nat) : Int)) ∧ o = .slice (some ⟨g, 0, none⟩) m k ∧ w.heap.size ≤ g ∧ Bld TS wr lo bp (sumTo gs xs ys first m) O ∧ Wd wr (some ⟨bx, ox, none⟩) xs ∧ Wd wr (some ⟨bY, oy, none⟩) ys ∧ RowI wr g (m) k (sumWs gs.length m) ∧ Stay TS lo w wr) (fun _ _ i _ _ _ => M - (intOf i).toNat)
  case atStart => exact ⟨0, w.heap.size, 0, Nat.zero_le _, rfl, ⟨_, rfl, rfl⟩, rfl, Nat.le_refl _, H2.out.1, H2.out.2.1, H2.out.2.2.1, H2.out.2.2.2.1, H2.out.2.2.2.2⟩
  case round =>
    clear H2
    obtain ⟨m, g, k, hm, rfl, ⟨C, rfl, hC⟩, rfl, hg, hB, hX, hY, hR, hS⟩ := hrel
    have HC := hid hC
    have zr := hS.size
    obtain ⟨e1, e2⟩ := HAL.out m hm
    obtain ⟨xa, hxa⟩ : ∃ x, xs.getD m 0 = x := ⟨_, rfl⟩
    obtain ⟨ya, hya⟩ : ∃ x, ys.getD m 0 = x := ⟨_, rfl⟩
    rw [hxa] at e1
    rw [hya] at e2
    have HXY := hid (And.intro hxa hya)
    have d1 := hX.cell e1
    have d2 := hY.cell e2
    have lx : bx < wr.heap.size := by omega
    have ly : bY < wr.heap.size := by omega
    obtain ⟨N1, hN1⟩ : ∃ N, gs.length + 5 * m + 1 = N := ⟨_, rfl⟩
    have hlen := sumTo_length gs xs ys first m
    rw [hN1] at hlen
    have hnb : N1 ≤ 90000 := by omega
    have hB0 := hB
    have hX0 := hX
    have hY0 := hY
    have hti : 3 ≠ TS := by decide
    have H := hid (And.intro hB (And.intro hX (And.intro hY (And.intro hR hS))))
    clear hB hX hY hR hS hxa hya hC
    by_cases hlt : m < M
    · have hlt' : (m : Int) < (M : Int) := by omega
      have hlt2 : (m : Int) < (M : Int) + 1 := by omega
      go_upto_region 7 with fail
      go_region_held3 (fun w' => w'.cell? ⟨bx, ox + m, none⟩ = some (.int .i64 xa) ∧ w'.cell? ⟨bY, oy + m, none⟩ = some (.int .i64 ya)) (first | exact ⟨d1, d2⟩ | exact ⟨d1', d2'⟩) ((go_at_call 97; refine Calls.mono (sFull (n := N1) _ _ _ _ (Bld.heap hB0 rfl) hlen hnb) ?_; rintro e w3 ⟨rfl, h, t⟩; have d1' := (Wd.onto hX0 t rfl hti).cell e1; have d2' := (Wd.onto hY0 t rfl hti).cell e2))
      all_goals
        have z3 := t.size
        have hS3 := H.out.2.2.2.2.onto t rfl rfl rfl rfl
        have zs := hS3.size
        have HR3 := hid (Row.onto H.out.2.2.2.1 t rfl (by decide) (by decide))
        have H3 := hid (And.intro h (And.intro (Wd.onto H.out.2.1 t rfl (by decide)) (And.intro (Wd.onto H.out.2.2.1 t rfl (by decide)) hS3)))
        clear h t hS3 H d1 d2 hB0 hX0 hY0 e1 e2 d1' d2'
        go_wp2_with (at_builtin; refine app_int rfl _ _ rfl rfl (HR3.out.alloc _) [((N1 + 2 : Nat) : Int)] rfl rfl (top_cells _ [_] _) (by omega) ?_)
        intro g' k' w4 h1 h2 h3
        have h2 := grown_alloc h2
        have hg' : w.heap.size ≤ g' := by (try simp at h3); omega
        have hne1 : bx ≠ g := by omega
        have he3 : ((N1 + 2 : Nat) : Int) = ((gs.length + 5 * m + 3 : Nat) : Int) := by omega
        have hne2 : bY ≠ g := by omega
        have H4 := hid (And.intro (H3.out.1.grown h2 HR3.out (by decide)) (And.intro (H3.out.2.1.grown h2 hne1) (And.intro (H3.out.2.2.1.grown h2 hne2) (And.intro (row_eq (ys := sumWs gs.length (m + 1)) h1 (by rw [sumWs, ← he3]; first | rfl | simp)) (H3.out.2.2.2.grown h2 hg)))))
        clear h1 h2 h3 H3 HR3
        go_wp2
        go_roundw
        case rel =>
          exact ⟨m + 1, g', k', by omega, by go_num, ⟨_, rfl, by omega⟩, rfl, hg', bld_cast H4.out.1 (by rw [sumTo, HXY.out.1, HXY.out.2, HC.out]), H4.out.2.1, H4.out.2.2.1, H4.out.2.2.2.1, H4.out.2.2.2.2⟩
        case measure => simp [intOf]; omega
    · obtain rfl : m = M := by omega
      have hlt' : ¬ (m : Int) < (m : Int) := by omega
      have hlt2 : (m : Int) < (m : Int) + 1 := by omega
      go_upto_region 10 with fail
      go_still_tail 9, (by kernel_rfl)
      go_wp2_with fail
      refine Calls.mono (sGate (n := N1) _ _ _ _ (Bld.heap hB0 rfl) hlen (by omega)) ?_
      rintro e w3 ⟨rfl, h, t⟩
      have hS3 := H.out.2.2.2.2.onto t rfl rfl rfl rfl
      have H3 := hid (And.intro h (And.intro (Row.onto H.out.2.2.2.1 t rfl (by decide) (by decide)) hS3))
      clear h t hS3 H d1 d2 hB0 hX0 hY0 e1 e2
      go_wp2_with fail
      refine (sGate (n := N1 + 1) _ _ _ _ H3.out.1 (by rw [List.length_append, hlen]; rfl) (by omega)).mono ?_
      rintro e w5 ⟨rfl, h, t⟩
      have hS5 := H3.out.2.2.trans t
      have zs := hS5.size
      have HR5 := hid (t.row H3.out.2.1 (by decide) (by decide))
      have H5 := hid (And.intro h hS5)
      clear h t hS5 H3
      go_wp2_with (at_builtin; refine app_int rfl _ _ rfl rfl (HR5.out.alloc _) [((N1 + 1 : Nat) : Int)] rfl rfl (top_cells _ [_] _) (by omega) ?_)
      intro g' k' w6 h1 h2 h3
      have h2 := grown_alloc h2
      have hg' : w.heap.size ≤ g' := by (try simp at h3); omega
      have he3 : ((N1 + 1 : Nat) : Int) = ((gs.length + 5 * m + 2 : Nat) : Int) := by omega
      have H6 := hid (And.intro (H5.out.1.grown h2 HR5.out (by decide)) (And.intro (row_eq (ys := sumW gs.length m) h1 (by rw [sumW, ← he3]; first | rfl | simp)) (H5.out.2.grown h2 hg)))
      clear h1 h2 h3 H5 HR5
      go_wp2
      go_returns
      refine ⟨g', k', rfl, hg', H6.out.2.1, ?_, H6.out.2.2⟩
      exact bld_cast H6.out.1 (by unfold sumG; rw [HXY.out.1, HXY.out.2, HC.out]; simp; omega)
end Go.Proofs.Ytihbaieiempjeaa
