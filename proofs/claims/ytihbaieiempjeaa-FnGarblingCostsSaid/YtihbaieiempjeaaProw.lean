import Derived.Test.YtihbaieiempjeaaMux
/- Products of words. -/
namespace Go.Proofs.Ytihbaieiempjeaa
open Go.RowKit

theorem wd_take {w : World} {b off : Nat} {xs : List Int} (h : Wd w (some ⟨b, off, none⟩) xs) (q : Nat) : ∀ j u, (ints (xs.take q))[j]? = some u → w.cell? ⟨b, off + j, none⟩ = some u := fun j u hu => by
  unfold ints at hu
  rw [List.getElem?_map] at hu
  cases hx : (xs.take q)[j]? with
  | none => rw [hx] at hu; cases hu
  | some x =>
    rw [hx] at hu
    injection hu with hu
    subst hu
    refine h.cell ?_
    rw [List.getElem?_take] at hx
    split at hx
    · exact hx
    · cases hx
theorem sumWs_len (n : Nat) : ∀ m, (sumWs n m).length = m
  | 0 => rfl
  | m + 1 => by simp [sumWs, sumWs_len n m]
theorem sumW_len (n m : Nat) : (sumW n m).length = m + 1 := by simp [sumW, sumWs_len]
theorem mulTo_len2 (gs : List Gt) (xs ys : List Int) : ∀ i, i ≤ 3 → (mulTo gs xs ys i).2.length = 4
  | 0, _ => by simp [mulTo, upW_length]
  | i + 1, h => by
    have := mulTo_len2 gs xs ys i (by omega)
    simp only [mulTo, List.length_append, List.length_take, sumW_len, this]
    omega
theorem mulTo_len1 (gs : List Gt) (xs ys : List Int) : ∀ i, i ≤ 3 → (mulTo gs xs ys i).1.length ≤ gs.length + 4 + 16 * i
  | 0, _ => by simp [mulTo, andsTo_length]
  | i + 1, h => by
    have := mulTo_len1 gs xs ys i (by omega)
    simp [mulTo, sumG_length, andsTo_length]
    omega
set_option linter.unusedVariables false in
set_option maxRecDepth 100000 in
set_option maxHeartbeats 3200000 in
theorem sMul {lo bp bx ox cx bY oy cy : Nat} {gs : List Gt} {O : Value} {xs ys : List Int} (w : World) (h : Bld TS w lo bp gs O) (hs : gs.length ≤ 5000) (hx : Wd w (some ⟨bx, ox, none⟩) xs) (hy : Wd w (some ⟨bY, oy, none⟩) ys) (hx4 : xs.length = 4) (hy4 : ys.length = 4) :
    Calls Try.prog 71 #[.pointer (some ⟨bp, 0, none⟩), .slice (some ⟨bx, ox, none⟩) 4 cx, .slice (some ⟨bY, oy, none⟩) 4 cy] w fun e w' => ∃ g k, e = .returned (.slice (some ⟨g, 0, none⟩) 4 k) ∧ w.heap.size ≤ g ∧ RowI w' g 4 k (mulTo gs xs ys 3).2 ∧ Bld TS w' lo bp (mulTo gs xs ys 3).1 O ∧ Stay TS lo w w' := by
  have H0 := hid (And.intro h (And.intro hx hy))
  clear h hx hy
  go_enter Try.func71, Try.ntmps71
  go_upto_region 2 with fail
  obtain ⟨w9, hw9⟩ : ∃ w9, w9 = w.alloc (.cells #[] 3) := ⟨_, rfl⟩
  have hb : Below w.heap.size w w9 := by rw [hw9]; exact (Below.refl _ _).alloc (Nat.le_refl _) _
  have ho9 : RowI w9 w.heap.size 0 0 [] := by rw [hw9]; exact Row.new #[] (Nat.zero_le _) rfl rfl
  rw [← hw9]
  have H9 := hid (And.intro ((H0.out.1).below hb) (And.intro ((H0.out.2.1).below hb) (And.intro ((H0.out.2.2).below hb) (And.intro (ho9) ((Stay.of_below (T := TS) (lo := lo) hb))))))
  have hbk := (H0.out.1).len
  have hl_bx := (H0.out.2.1).lt
  have hl_bY := (H0.out.2.2).lt
  clear ho9 hb hw9
  go_wp2_with fail
  go_loopw [7, 8] (fun o i wr => ∃ (m g k : Nat), m ≤ 4 ∧ i = .int .i64 (m : Int) ∧ o = .slice (some ⟨g, 0, none⟩) m k ∧ w.heap.size ≤ g ∧ Bld TS wr lo bp (andsTo gs (ys.getD 0 0) xs m) O ∧ Wd wr (some ⟨bx, ox, none⟩) xs ∧ Wd wr (some ⟨bY, oy, none⟩) ys ∧ RowI wr g m k (upW gs.length m) ∧ Stay TS lo w wr) (fun _ i _ => 4 - (intOf i).toNat)
  case atStart => exact ⟨0, w.heap.size, 0, Nat.zero_le _, rfl, rfl, Nat.le_refl _, H9.out.1, H9.out.2.1, H9.out.2.2.1, H9.out.2.2.2.1, H9.out.2.2.2.2⟩
  case round =>
    clear H9
    obtain ⟨m, g, k, hm, rfl, rfl, hg, hB, hW0, hW1, hR, hS⟩ := hrel
    have zr := hS.size
    by_cases hlt : m < 4
    · have hlt' : (m : Int) < 4 := by omega
      obtain ⟨x0, e0⟩ : ∃ x, xs[m]? = some x := ⟨_, List.getElem?_eq_getElem (by omega)⟩
      have d0 := hW0.cell e0
      have g0 := getD_at e0
      have lx0 : bx < wr.heap.size := by omega
      obtain ⟨x1, e1⟩ : ∃ x, ys[0]? = some x := ⟨_, List.getElem?_eq_getElem (by omega)⟩
      have d1 : wr.cell? ⟨bY, oy, none⟩ = some (.int .i64 x1) := hW1.cell e1
      have g1 := getD_at e1
      have lx1 : bY < wr.heap.size := by omega
      have hlen : (andsTo gs (ys.getD 0 0) xs m).length = gs.length + m := andsTo_length _ _ _ _
      obtain ⟨N1, hN1⟩ : ∃ N, gs.length + m = N := ⟨_, rfl⟩
      rw [hN1] at hlen
      have HT := hid (show andsTo gs (ys.getD 0 0) xs (m + 1) = andsTo gs (ys.getD 0 0) xs m ++ [⟨4, x1, x0⟩] from by rw [andsTo, g0, g1])
      have hB0 := hB
      have H := hid (And.intro (hB) (And.intro (hW0) (And.intro (hW1) (And.intro (hR) (hS)))))
      have hnb : N1 ≤ 100000 := by omega
      have hti : 3 ≠ TS := by decide
      have hX0 := hW0
      have hX1 := hW1
      have hR0 := hid hR
      clear hB hW0 hW1 hR hS g0 g1
      go_upto_region 5 with fail
      have ne0 : bx ≠ g := by omega
      have ne1 : bY ≠ g := by omega
      have hm6 : m + 1 ≤ 1000000 := by omega
      have htg : 3 ≠ TG := by decide
      have hR0 := hR0.out
      go_region_held3 (fun w' => w'.cell? ⟨bx, ox + m, none⟩ = some (.int .i64 x0) ∧ w'.cell? ⟨bY, oy, none⟩ = some (.int .i64 x1)) (first | exact ⟨d0, d1⟩ | exact ⟨d0', d1'⟩ | exact ⟨d0'' _, d1'' _⟩ | exact ⟨d0z, d1z⟩) (first | (go_at_call 68; refine Calls.mono (sGate (n := N1) _ _ _ _ (Bld.heap hB0 rfl) hlen hnb) ?_; rintro e w7 ⟨rfl, h, t⟩; have HR3 := hid (Row.onto hR0 t rfl hti htg); have d0' := (Wd.onto hX0 t rfl hti).cell e0; have d0'' := fun O => ((Wd.onto hX0 t rfl hti).below ((Below.refl w7.heap.size w7).alloc (Nat.le_refl _) O)).cell e0; have d1' := (Wd.onto hX1 t rfl hti).cell e1; have d1'' := fun O => ((Wd.onto hX1 t rfl hti).below ((Below.refl w7.heap.size w7).alloc (Nat.le_refl _) O)).cell e1) | (refine app_int_step rfl _ _ rfl rfl (HR3.out.alloc _) [((N1 + 0 : Nat) : Int)] rfl rfl (top_cells _ [_] _) Nat.one_pos hm6 ?_; intro g' k' w8 h1 h2 h3; have h2 := grown_alloc h2; have d0z := ((Wd.onto hX0 t rfl hti).grown h2 ne0).cell e0; have d1z := ((Wd.onto hX1 t rfl hti).grown h2 ne1).cell e1))
      all_goals
        have z3 := t.size
        have hS3 := H.out.2.2.2.2.onto t rfl rfl rfl rfl
        have zs3 := hS3.size
        have H3 := hid (And.intro (h) (And.intro ((Wd.onto H.out.2.1 t rfl (by decide))) (And.intro ((Wd.onto H.out.2.2.1 t rfl (by decide))) (hS3))))
        clear h t hS3 hB0 H d0 d1 hR0 d0' d0'' d0z e0 hX0 d1' d1'' d1z e1 hX1
        have hg' : w.heap.size ≤ g' := by (try simp at h3); omega
        have H8 := hid (And.intro ((bld_cast (gs' := andsTo gs (ys.getD 0 0) xs (m + 1)) (H3.out.1.grown h2 HR3.out (by decide)) (by rw [HT.out]))) (And.intro ((H3.out.2.1.grown h2 (by omega))) (And.intro ((H3.out.2.2.1.grown h2 (by omega))) (And.intro ((row_eq (ys := upW gs.length (m + 1)) h1 (by first | (rw [upW, ← hN1]; done) | (rw [upW, ← hN1]; simp)))) ((H3.out.2.2.2.grown h2 (by omega)))))))
        clear h1 h2 h3 H3 HR3
        go_wp2
        go_roundw
        case rel => exact ⟨m + 1, g', k', by omega, by go_num, rfl, hg', H8.out.1, H8.out.2.1, H8.out.2.2.1, H8.out.2.2.2.1, H8.out.2.2.2.2⟩
        case measure => simp [intOf]; omega
    · obtain rfl : m = 4 := by omega
      rw [show ((4 : Nat) : Int) = 4 from rfl]
      have H5 := hid (And.intro hB (And.intro hW0 (And.intro hW1 (And.intro hR hS))))
      have zs := hS.size
      clear hB hW0 hW1 hR hS
      go_wp2_with fail
      go_loopw [7, 9, 10, 11, 12] (fun o i _ _ _ wr => ∃ (m q g k : Nat), m ≤ 3 ∧ q = m + 1 ∧ i = .int .i64 (q : Int) ∧ o = .slice (some ⟨g, 0, none⟩) 4 k ∧ w.heap.size ≤ g ∧ Bld TS wr lo bp (mulTo gs xs ys m).1 O ∧ Wd wr (some ⟨bx, ox, none⟩) xs ∧ Wd wr (some ⟨bY, oy, none⟩) ys ∧ RowI wr g 4 k (mulTo gs xs ys m).2 ∧ Stay TS lo w wr) (fun _ i _ _ _ _ => 4 - (intOf i).toNat)
      case atStart => exact ⟨0, 1, g, k, Nat.zero_le _, rfl, rfl, rfl, hg, H5.out.1, H5.out.2.1, H5.out.2.2.1, H5.out.2.2.2.1, H5.out.2.2.2.2⟩
      case round =>
        clear H5
        obtain ⟨m0, q, g0, k0, hm0, hq, rfl, rfl, hg0, hB, hW0, hW1, hR, hS⟩ := hrel
        have zr0 := hS.size
        have hlen0 := mulTo_len1 gs xs ys m0 hm0
        have hlenw := mulTo_len2 gs xs ys m0 hm0
        obtain ⟨gs0, hgs0⟩ : ∃ l, (mulTo gs xs ys m0).1 = l := ⟨_, rfl⟩
        obtain ⟨ws0, hws0⟩ : ∃ l, (mulTo gs xs ys m0).2 = l := ⟨_, rfl⟩
        rw [hgs0] at hB hlen0
        rw [hws0] at hR hlenw
        rename World => wo
        have hk0 := hR.cap
        have HP := hid (And.intro hB (And.intro hW0 (And.intro hW1 (And.intro (Wd.of_row hR) (And.intro hR hS)))))
        have HM := hid (And.intro hgs0 (And.intro hws0 hq))
        have hq1 : 1 ≤ q := by omega
        clear hB hW0 hW1 hR hS hgs0 hws0
        by_cases hlt0 : m0 < 3
        · have hq4 : (q : Int) < 4 := by omega
          have hq4n : q < 4 := by omega
          have hl0 : ws0.length = 4 := hlenw
          obtain ⟨M, hM⟩ : ∃ M, 4 - q = M + 1 := ⟨3 - q, by omega⟩
          have HL := hid hM
          have hM3 : M ≤ 2 := by omega
          clear hM hq hlenw
          go_upto_region 10 with fail
          obtain ⟨w9, hw9⟩ : ∃ w9, w9 = wo.alloc (.cells #[] 3) := ⟨_, rfl⟩
          have hb : Below wo.heap.size wo w9 := by rw [hw9]; exact (Below.refl _ _).alloc (Nat.le_refl _) _
          have ho9 : RowI w9 wo.heap.size 0 0 [] := by rw [hw9]; exact Row.new #[] (Nat.zero_le _) rfl rfl
          rw [← hw9]
          have H9 := hid (And.intro ((HP.out.1).below hb) (And.intro ((HP.out.2.1).below hb) (And.intro ((HP.out.2.2.1).below hb) (And.intro ((HP.out.2.2.2.1).below hb) (And.intro (ho9) ((Stay.of_below (T := TS) (lo := lo) hb)))))))
          have hbk := (HP.out.1).len
          have hl_bx := (HP.out.2.1).lt
          have hl_bY := (HP.out.2.2.1).lt
          have hl_g0 := (HP.out.2.2.2.1).lt
          clear ho9 hb hw9
          go_wp2_with fail
          go_loopw [10, 11] (fun o i wr => ∃ (m g k : Nat), m ≤ M + 1 ∧ i = .int .i64 (m : Int) ∧ o = .slice (some ⟨g, 0, none⟩) m k ∧ wo.heap.size ≤ g ∧ Bld TS wr lo bp (andsTo gs0 (ys.getD q 0) xs m) O ∧ Wd wr (some ⟨bx, ox, none⟩) xs ∧ Wd wr (some ⟨bY, oy, none⟩) ys ∧ Wd wr (some ⟨g0, 0, none⟩) ws0 ∧ RowI wr g m k (upW gs0.length m) ∧ Stay TS lo wo wr) (fun _ i _ => M + 1 - (intOf i).toNat)
          case atStart => exact ⟨0, wo.heap.size, 0, Nat.zero_le _, rfl, rfl, Nat.le_refl _, H9.out.1, H9.out.2.1, H9.out.2.2.1, H9.out.2.2.2.1, H9.out.2.2.2.2.1, H9.out.2.2.2.2.2⟩
          case round =>
            clear H9
            obtain ⟨m, g, k, hm, rfl, rfl, hg, hB, hW0, hW1, hW2, hR, hS⟩ := hrel
            have zr := hS.size
            by_cases hlt : m < M + 1
            · have hlt' : (m : Int) < 4 - (q : Int) := by (have := HL.out; omega)
              obtain ⟨x0, e0⟩ : ∃ x, xs[m]? = some x := ⟨_, List.getElem?_eq_getElem (by (have := HL.out; omega))⟩
              have d0 := hW0.cell e0
              have g0 := getD_at e0
              have lx0 : bx < wr.heap.size := by omega
              obtain ⟨x1, e1⟩ : ∃ x, ys[q]? = some x := ⟨_, List.getElem?_eq_getElem (by (have := HL.out; omega))⟩
              have d1 := hW1.cell e1
              have g1 := getD_at e1
              have lx1 : bY < wr.heap.size := by omega
              have hm4 : (m : Int) < 4 := by omega
              have hlen : (andsTo gs0 (ys.getD q 0) xs m).length = gs0.length + m := andsTo_length _ _ _ _
              obtain ⟨N1, hN1⟩ : ∃ N, gs0.length + m = N := ⟨_, rfl⟩
              rw [hN1] at hlen
              have HT := hid (show andsTo gs0 (ys.getD q 0) xs (m + 1) = andsTo gs0 (ys.getD q 0) xs m ++ [⟨4, x1, x0⟩] from by rw [andsTo, g0, g1])
              have hB0 := hB
              have H := hid (And.intro (hB) (And.intro (hW0) (And.intro (hW1) (And.intro (hW2) (And.intro (hR) (hS))))))
              have hnb : N1 ≤ 100000 := by omega
              have hti : 3 ≠ TS := by decide
              have hX0 := hW0
              have hX1 := hW1
              have hR0 := hid hR
              clear hB hW0 hW1 hW2 hR hS g0 g1
              go_upto_region 13 with fail
              have ne0 : bx ≠ g := by omega
              have ne1 : bY ≠ g := by omega
              have hm6 : m + 1 ≤ 1000000 := by omega
              have htg : 3 ≠ TG := by decide
              have hR0 := hR0.out
              go_region_held3 (fun w' => w'.cell? ⟨bx, ox + m, none⟩ = some (.int .i64 x0) ∧ w'.cell? ⟨bY, oy + q, none⟩ = some (.int .i64 x1)) (first | exact ⟨d0, d1⟩ | exact ⟨d0', d1'⟩ | exact ⟨d0'' _, d1'' _⟩ | exact ⟨d0z, d1z⟩) (first | (go_at_call 68; refine Calls.mono (sGate (n := N1) _ _ _ _ (Bld.heap hB0 rfl) hlen hnb) ?_; rintro e w7 ⟨rfl, h, t⟩; have HR3 := hid (Row.onto hR0 t rfl hti htg); have d0' := (Wd.onto hX0 t rfl hti).cell e0; have d0'' := fun O => ((Wd.onto hX0 t rfl hti).below ((Below.refl w7.heap.size w7).alloc (Nat.le_refl _) O)).cell e0; have d1' := (Wd.onto hX1 t rfl hti).cell e1; have d1'' := fun O => ((Wd.onto hX1 t rfl hti).below ((Below.refl w7.heap.size w7).alloc (Nat.le_refl _) O)).cell e1) | (refine app_int_step rfl _ _ rfl rfl (HR3.out.alloc _) [((N1 + 0 : Nat) : Int)] rfl rfl (top_cells _ [_] _) Nat.one_pos hm6 ?_; intro g' k' w8 h1 h2 h3; have h2 := grown_alloc h2; have d0z := ((Wd.onto hX0 t rfl hti).grown h2 ne0).cell e0; have d1z := ((Wd.onto hX1 t rfl hti).grown h2 ne1).cell e1))
              all_goals
                have z3 := t.size
                have hS3 := H.out.2.2.2.2.2.onto t rfl rfl rfl rfl
                have zs3 := hS3.size
                have H3 := hid (And.intro (h) (And.intro ((Wd.onto H.out.2.1 t rfl (by decide))) (And.intro ((Wd.onto H.out.2.2.1 t rfl (by decide))) (And.intro ((Wd.onto H.out.2.2.2.1 t rfl (by decide))) (hS3)))))
                clear h t hS3 hB0 H d0 d1 hR0 d0' d0'' d0z e0 hX0 d1' d1'' d1z e1 hX1
                have hg' : wo.heap.size ≤ g' := by (try simp at h3); omega
                have H8 := hid (And.intro ((bld_cast (gs' := andsTo gs0 (ys.getD q 0) xs (m + 1)) (H3.out.1.grown h2 HR3.out (by decide)) (by rw [HT.out]))) (And.intro ((H3.out.2.1.grown h2 (by omega))) (And.intro ((H3.out.2.2.1.grown h2 (by omega))) (And.intro ((H3.out.2.2.2.1.grown h2 (by omega))) (And.intro ((row_eq (ys := upW gs0.length (m + 1)) h1 (by first | (rw [upW, ← hN1]; done) | (rw [upW, ← hN1]; simp)))) ((H3.out.2.2.2.2.grown h2 (by omega))))))))
                clear h1 h2 h3 H3 HR3
                go_wp2
                go_roundw
                case rel => exact ⟨m + 1, g', k', by omega, by go_num, rfl, hg', H8.out.1, H8.out.2.1, H8.out.2.2.1, H8.out.2.2.2.1, H8.out.2.2.2.2.1, H8.out.2.2.2.2.2⟩
                case measure => simp [intOf]; omega
            · obtain rfl : m = M + 1 := by omega
              obtain ⟨gs1, hgs1⟩ : ∃ l, andsTo gs0 (ys.getD q 0) xs (M + 1) = l := ⟨_, rfl⟩
              have hl1 : gs1.length = gs0.length + (M + 1) := by rw [← hgs1]; exact andsTo_length _ _ _ _
              rw [hgs1] at hB
              have hk1 : k0 ≠ q := by omega
              have hk2 : (q : Int) ≤ (k0 : Int) := by omega
              have hq44 : (q : Int) ≤ 4 := by omega
              have hq0 : (0 : Int) ≤ (q : Int) := by omega
              have hg0l := hW2.lt
              have H6 := hid (And.intro hB (And.intro hW0 (And.intro hW1 (And.intro hW2 (And.intro hR hS)))))
              have HG := hid hgs1
              clear hB hW0 hW1 hW2 hR hS hgs1
              have hstop : ¬ ((M : Int) + 1 < 4 - (q : Int)) := by have := HL.out; omega
              have hd0 := Wd.drop H6.out.2.2.2.1 q
              rw [Nat.zero_add] at hd0
              have hdl : (ws0.drop q).length = M + 1 := by rw [List.length_drop, hl0]; exact HL.out
              have HD := hid (And.intro hd0 hdl)
              clear hd0 hdl
              go_wp2_with fail
              rw [HL.out]
              refine Calls.mono (sSum (n := gs1.length) 0 M _ H6.out.1 rfl (by omega) HD.out.1 (Wd.of_row H6.out.2.2.2.2.1) HD.out.2 (upW_length _ _) (by omega)) ?_
              rintro e w5 ⟨g1, k1, rfl, hg1, hrow, hbl, hst⟩
              have z5 := hst.size
              have H7 := hid (And.intro hbl (And.intro (H6.out.2.1.stay hst (by decide)) (And.intro (H6.out.2.2.1.stay hst (by decide)) (And.intro (H6.out.2.2.2.1.stay hst (by decide)) (And.intro hrow (H6.out.2.2.2.2.2.trans hst))))))
              clear hrow hbl hst H6
              have htq : (ws0.take q).length = q := by rw [List.length_take, hl0]; omega
              have hb1 : 0 + q ≤ 1000000 := by omega
              have hc1 := wd_take (H7.out.2.2.2.1.below ((Below.refl w5.heap.size w5).alloc (Nat.le_refl _) (.cells #[] 3))) q
              go_wp2_with (at_builtin; refine app_int (L := []) rfl _ _ rfl rfl (Row.new #[] (Nat.zero_le _) rfl rfl) (ws0.take q) rfl htq hc1 hb1 ?_)
              intro g2 k2 w6 h1 h2 h3
              have hb6 : Below w5.heap.size w5 w6 := below_apps ((Below.refl w5.heap.size w5).alloc (Nat.le_refl _) _) h2 (by simp) (Nat.le_refl _)
              have z6 := hb6.size
              have hg2 : w5.heap.size ≤ g2 := by omega
              have H8 := hid (And.intro (H7.out.1.below hb6) (And.intro (H7.out.2.1.below hb6) (And.intro (H7.out.2.2.1.below hb6) (And.intro (H7.out.2.2.2.2.1.below hb6) (And.intro h1 (H7.out.2.2.2.2.2.trans (Stay.of_below (lo := lo) hb6)))))))
              have lb := H7.out.2.1.lt
              have ly := H7.out.2.2.1.lt
              clear h1 h2 h3 hb6 H7 hc1
              have hb2 : q + (M + 1) ≤ 1000000 := by omega
              have hc2 := row_cells H8.out.2.2.2.1
              go_wp2_with (at_builtin; refine app_int rfl _ _ rfl rfl H8.out.2.2.2.2.1 (sumW gs1.length M) rfl (sumW_len _ _) hc2 hb2 ?_)
              intro g3 k3 w7 j1 j2 j3
              have hg3 : w.heap.size ≤ g3 := by (try simp at j3); omega
              have hqM : q + (M + 1) = 4 := by have := HL.out; omega
              have HT := hid (show mulTo gs xs ys (m0 + 1) = (sumG gs1 (ws0.drop q) (upW gs0.length (M + 1)) 0 M, ws0.take q ++ sumW gs1.length M) from by
                have hq := HM.out.2.2
                subst hq
                have e1 : 3 - m0 = M + 1 := by omega
                have e2 : 2 - m0 = M := by omega
                simp only [mulTo, e1, e2, HM.out.1, HM.out.2.1, HG.out])
              rw [hqM] at j1
              have H9 := hid (And.intro (bld_cast (gs' := (mulTo gs xs ys (m0 + 1)).1) (H8.out.1.grown j2 H8.out.2.2.2.2.1 (by decide)) (by rw [HT.out])) (And.intro (H8.out.2.1.grown j2 (by omega)) (And.intro (H8.out.2.2.1.grown j2 (by omega)) (And.intro (row_eq (ys := (mulTo gs xs ys (m0 + 1)).2) j1 (by rw [HT.out, ← hl1])) (H8.out.2.2.2.2.2.grown j2 (by omega))))))
              have HQ := hid hqM
              clear j1 j2 j3 H8 hc2 hqM
              rw [HQ.out]
              go_wp2
              go_roundw
              case rel => exact ⟨m0 + 1, q + 1, g3, k3, by omega, by have := HM.out.2.2; omega, by go_num, rfl, hg3, H9.out.1, H9.out.2.1, H9.out.2.2.1, H9.out.2.2.2.1, HP.out.2.2.2.2.2.trans H9.out.2.2.2.2⟩
              case measure => simp [intOf]; omega
        · obtain rfl : m0 = 3 := by omega
          have HM2 := hid (And.intro HM.out.1 HM.out.2.1)
          clear HM
          go_wp2
          go_returns
          exact ⟨g0, k0, rfl, hg0, by rw [HM2.out.2]; exact HP.out.2.2.2.2.1, by rw [HM2.out.1]; exact HP.out.1, HP.out.2.2.2.2.2⟩
end Go.Proofs.Ytihbaieiempjeaa
/- The row of products that the program fills from one place on. -/
namespace Go.Proofs.Ytihbaieiempjeaa
open Go.RowKit

def prow (q n m : Nat) : List Int := List.replicate q 0 ++ upW n m ++ List.replicate (4 - q - m) 0
theorem prow_length (q n m : Nat) (h : q + m ≤ 4) : (prow q n m).length = 4 := by
  simp [prow, upW_length]
  omega
theorem prow_zero (q n : Nat) (h : q ≤ 4) : prow q n 0 = [0, 0, 0, 0] := by
  obtain rfl | rfl | rfl | rfl | rfl : q = 0 ∨ q = 1 ∨ q = 2 ∨ q = 3 ∨ q = 4 := by omega
  all_goals rfl
theorem prow_drop (q n m : Nat) (h : q + m = 4) : (prow q n m).drop q = upW n m := by
  have e : 4 - q - m = 0 := by omega
  simp [prow, e]
theorem prow_set (q n m : Nat) (h : q + m < 4) : (prow q n m).set (q + m) ((n + m : Nat) : Int) = prow q n (m + 1) := by
  obtain ⟨z, hz⟩ : ∃ z, 4 - q - m = z + 1 := ⟨3 - q - m, by omega⟩
  have hz' : 4 - q - (m + 1) = z := by omega
  rw [prow, prow, hz, hz', upW, List.replicate_succ]
  rw [List.set_append_right _ _ (by simp [upW_length])]
  simp [upW_length]
end Go.Proofs.Ytihbaieiempjeaa
