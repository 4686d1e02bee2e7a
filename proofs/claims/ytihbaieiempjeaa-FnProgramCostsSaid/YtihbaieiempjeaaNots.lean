/- Negations of words: in the program and in the reference. -/
import Derived.Test.YtihbaieiempjeaaIsWord
namespace Go.Proofs.Ytihbaieiempjeaa
open Go.RowKit

set_option linter.unusedVariables false in
set_option maxRecDepth 100000 in
set_option maxHeartbeats 3200000 in
theorem iNots {lo bp : Nat} {gs : List Gt} {O : Value} {n N bx ox cx : Nat} {xs : List Int} (w : World) (h : Bld TI w lo bp gs O) (hn : gs.length = n) (hs : n ≤ 50000) (hx : Wd w (some ⟨bx, ox, none⟩) xs) (hxl : xs.length = N) (hN : N ≤ 100) :
    Calls Try.prog 122 #[.pointer (some ⟨bp, 0, none⟩), .slice (some ⟨bx, ox, none⟩) N cx] w fun e w' => ∃ g k, e = .returned (.slice (some ⟨g, 0, none⟩) N k) ∧ w.heap.size ≤ g ∧ RowI w' g N k (upW n N) ∧ Bld TI w' lo bp (notsG gs xs) O ∧ Stay TI lo w w' := by
  subst hn
  have hbx := hx.lt
  have hbp := h.len
  have H0 := hid (And.intro h hx)
  clear h hx
  go_enter Try.func122, Try.ntmps122
  go_upto_region 2 with fail
  obtain ⟨w1, hw1⟩ : ∃ w1, w1 = w.alloc (.cells #[] 3) := ⟨_, rfl⟩
  have hb : Below w.heap.size w w1 := by rw [hw1]; exact (Below.refl _ _).alloc (Nat.le_refl _) _
  have ho : RowI w1 w.heap.size 0 0 [] := by rw [hw1]; exact Row.new #[] (Nat.zero_le _) rfl rfl
  rw [← hw1]
  have H1 := hid (And.intro (H0.out.1.below hb) (And.intro (H0.out.2.below hb) (And.intro ho (Stay.of_below (T := TI) (lo := lo) hb))))
  clear ho hb H0 hw1
  go_wp2_with fail
  go_loopw [5, 7, 11] (fun o _ i wr => ∃ (m g k : Nat), m ≤ N ∧ i = .int .i64 (m : Int) ∧ o = .slice (some ⟨g, 0, none⟩) m k ∧ w.heap.size ≤ g ∧ Bld TI wr lo bp (notsG gs (xs.take m)) O ∧ Wd wr (some ⟨bx, ox, none⟩) xs ∧ RowI wr g m k (upW gs.length m) ∧ Stay TI lo w wr) (fun _ _ i _ => N - (intOf i).toNat)
  case atStart => exact ⟨0, w.heap.size, 0, Nat.zero_le _, rfl, rfl, Nat.le_refl _, bld_cast H1.out.1 (by unfold notsG; simp), H1.out.2.1, H1.out.2.2.1, H1.out.2.2.2⟩
  case round =>
    clear H1
    obtain ⟨m, g, k, hm, rfl, rfl, hg, hB, hX, hR, hS⟩ := hrel
    have zr := hS.size
    have lx : bx < wr.heap.size := by omega
    by_cases hlt : m < N
    · obtain ⟨x, e1⟩ : ∃ x, xs[m]? = some x := ⟨_, List.getElem?_eq_getElem (by omega)⟩
      have d1 := hX.cell e1
      have hlt' : (m : Int) < (N : Int) := by omega
      have hlen : (notsG gs (xs.take m)).length = gs.length + m := by rw [notsG_length, List.length_take]; omega
      have HT := hid (show notsG gs (xs.take (m + 1)) = notsG gs (xs.take m) ++ [⟨5, x, 0⟩] by unfold notsG; rw [take_snoc e1, List.map_append, List.append_assoc]; rfl)
      have H := hid (And.intro hB (And.intro hX (And.intro hR hS)))
      clear hB hX hR hS e1
      go_wp2_with fail
      refine Calls.mono (iGate (n := gs.length + m) _ _ _ _ H.out.1 hlen (by omega)) ?_
      rintro e w3 ⟨rfl, h, t⟩
      have z3 := t.size
      have HR3 := hid (t.row H.out.2.2.1 (by decide) (by decide))
      have H3 := hid (And.intro h (And.intro (H.out.2.1.stay t (by decide)) (H.out.2.2.2.trans t)))
      clear h t H d1
      go_wp2_with (at_builtin; refine app_int rfl _ _ rfl rfl (HR3.out.alloc _) [((gs.length + m : Nat) : Int)] rfl rfl (top_cells _ [_] _) (by omega) ?_)
      intro g' k' w4 h1 h2 h3
      have h2 := grown_alloc h2
      have hg' : w.heap.size ≤ g' := by (try simp at h3); omega
      have H4 := hid (And.intro (H3.out.1.grown h2 HR3.out (by decide)) (And.intro (H3.out.2.1.grown h2 (by omega)) (And.intro (row_eq (ys := upW gs.length (m + 1)) h1 (by rw [upW]; first | rfl | simp)) (H3.out.2.2.grown h2 hg))))
      clear h1 h2 h3 H3 HR3
      go_wp2
      go_roundw
      case rel => exact ⟨m + 1, g', k', by omega, by go_num, rfl, hg', bld_cast H4.out.1 HT.out.symm, H4.out.2.1, H4.out.2.2.1, H4.out.2.2.2⟩
      case measure => simp [intOf]; omega
    · obtain rfl : m = N := by omega
      have hlt' : ¬ (m : Int) < (m : Int) := by omega
      have ht : xs.take m = xs := by rw [← hxl, List.take_length]
      rw [ht] at hB
      have H := hid (And.intro hB (And.intro hR hS))
      clear hB hX hR hS ht
      go_wp2
      go_returns
      exact ⟨g, k, rfl, hg, H.out.2.1, H.out.1, H.out.2.2⟩
set_option linter.unusedVariables false in
set_option maxRecDepth 100000 in
set_option maxHeartbeats 3200000 in
theorem sNots {lo bp : Nat} {gs : List Gt} {O : Value} {n N bx ox cx : Nat} {xs : List Int} (w : World) (h : Bld TS w lo bp gs O) (hn : gs.length = n) (hs : n ≤ 50000) (hx : Wd w (some ⟨bx, ox, none⟩) xs) (hxl : xs.length = N) (hN : N ≤ 100) :
    Calls Try.prog 70 #[.pointer (some ⟨bp, 0, none⟩), .slice (some ⟨bx, ox, none⟩) N cx] w fun e w' => ∃ g k, e = .returned (.slice (some ⟨g, 0, none⟩) N k) ∧ w.heap.size ≤ g ∧ RowI w' g N k (upW n N) ∧ Bld TS w' lo bp (notsG gs xs) O ∧ Stay TS lo w w' := by
  subst hn
  have hbx := hx.lt
  have hbp := h.len
  have H0 := hid (And.intro h hx)
  clear h hx
  go_enter Try.func70, Try.ntmps70
  go_upto_region 2 with fail
  obtain ⟨w1, hw1⟩ : ∃ w1, w1 = w.alloc (.cells #[] 3) := ⟨_, rfl⟩
  have hb : Below w.heap.size w w1 := by rw [hw1]; exact (Below.refl _ _).alloc (Nat.le_refl _) _
  have ho : RowI w1 w.heap.size 0 0 [] := by rw [hw1]; exact Row.new #[] (Nat.zero_le _) rfl rfl
  rw [← hw1]
  have H1 := hid (And.intro (H0.out.1.below hb) (And.intro (H0.out.2.below hb) (And.intro ho (Stay.of_below (T := TS) (lo := lo) hb))))
  clear ho hb H0 hw1
  go_wp2_with fail
  go_loopw [5, 6] (fun o i wr => ∃ (m g k : Nat), m ≤ N ∧ i = .int .i64 (m : Int) ∧ o = .slice (some ⟨g, 0, none⟩) m k ∧ w.heap.size ≤ g ∧ Bld TS wr lo bp (notsG gs (xs.take m)) O ∧ Wd wr (some ⟨bx, ox, none⟩) xs ∧ RowI wr g m k (upW gs.length m) ∧ Stay TS lo w wr) (fun _ i _ => N - (intOf i).toNat)
  case atStart => exact ⟨0, w.heap.size, 0, Nat.zero_le _, rfl, rfl, Nat.le_refl _, bld_cast H1.out.1 (by unfold notsG; simp), H1.out.2.1, H1.out.2.2.1, H1.out.2.2.2⟩
  case round =>
    clear H1
    obtain ⟨m, g, k, hm, rfl, rfl, hg, hB, hX, hR, hS⟩ := hrel
    have zr := hS.size
    have lx : bx < wr.heap.size := by omega
    by_cases hlt : m < N
    · obtain ⟨x, e1⟩ : ∃ x, xs[m]? = some x := ⟨_, List.getElem?_eq_getElem (by omega)⟩
      have d1 := hX.cell e1
      have hlt' : (m : Int) < (N : Int) := by omega
      have hlen : (notsG gs (xs.take m)).length = gs.length + m := by rw [notsG_length, List.length_take]; omega
      have HT := hid (show notsG gs (xs.take (m + 1)) = notsG gs (xs.take m) ++ [⟨5, x, 0⟩] by unfold notsG; rw [take_snoc e1, List.map_append, List.append_assoc]; rfl)
      have H := hid (And.intro hB (And.intro hX (And.intro hR hS)))
      clear hB hX hR hS e1
      go_wp2_with fail
      refine Calls.mono (sGate (n := gs.length + m) _ _ _ _ H.out.1 hlen (by omega)) ?_
      rintro e w3 ⟨rfl, h, t⟩
      have z3 := t.size
      have HR3 := hid (t.row H.out.2.2.1 (by decide) (by decide))
      have H3 := hid (And.intro h (And.intro (H.out.2.1.stay t (by decide)) (H.out.2.2.2.trans t)))
      clear h t H d1
      go_wp2_with (at_builtin; refine app_int rfl _ _ rfl rfl (HR3.out.alloc _) [((gs.length + m : Nat) : Int)] rfl rfl (top_cells _ [_] _) (by omega) ?_)
      intro g' k' w4 h1 h2 h3
      have h2 := grown_alloc h2
      have hg' : w.heap.size ≤ g' := by (try simp at h3); omega
      have H4 := hid (And.intro (H3.out.1.grown h2 HR3.out (by decide)) (And.intro (H3.out.2.1.grown h2 (by omega)) (And.intro (row_eq (ys := upW gs.length (m + 1)) h1 (by rw [upW]; first | rfl | simp)) (H3.out.2.2.grown h2 hg))))
      clear h1 h2 h3 H3 HR3
      go_wp2
      go_roundw
      case rel => exact ⟨m + 1, g', k', by omega, by go_num, rfl, hg', bld_cast H4.out.1 HT.out.symm, H4.out.2.1, H4.out.2.2.1, H4.out.2.2.2⟩
      case measure => simp [intOf]; omega
    · obtain rfl : m = N := by omega
      have hlt' : ¬ (m : Int) < (m : Int) := by omega
      have ht : xs.take m = xs := by rw [← hxl, List.take_length]
      rw [ht] at hB
      have H := hid (And.intro hB (And.intro hR hS))
      clear hB hX hR hS ht
      go_wp2
      go_returns
      exact ⟨g, k, rfl, hg, H.out.2.1, H.out.1, H.out.2.2⟩
end Go.Proofs.Ytihbaieiempjeaa
