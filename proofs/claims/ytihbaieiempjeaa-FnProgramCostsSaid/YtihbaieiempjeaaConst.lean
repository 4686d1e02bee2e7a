/- Constants, in the reference. -/
import Derived.Test.YtihbaieiempjeaaAddW
namespace Go.Proofs.Ytihbaieiempjeaa
open Go.RowKit

theorem getD_at {xs : List Int} {k : Nat} {x : Int} (h : xs[k]? = some x) : xs.getD k 0 = x := by
  rw [List.getD_eq_getElem?_getD, h]
  rfl
theorem nib_and {n : Int} (h0 : 0 ≤ n) (h1 : n ≤ 15) (m : Nat) : bits .and .i64 (n / 2 ^ m) 1 = n / (2 ^ m : Nat) % 2 := by
  obtain ⟨N, rfl⟩ : ∃ N : Nat, n = N := ⟨n.toNat, by omega⟩
  have e : (N : Int) / 2 ^ m = ((N / 2 ^ m : Nat) : Int) := by simp
  have e2 : (N : Int) / (2 ^ m : Nat) = ((N / 2 ^ m : Nat) : Int) := by simp
  have hl : N / 2 ^ m ≤ N := Nat.div_le_self _ _
  rw [e, e2, show (1 : Int) = ((1 : Nat) : Int) from rfl, and_nat _ _ (by omega) (by omega), Nat.and_one_is_mod]
  simp
set_option linter.unusedVariables false in
set_option maxRecDepth 100000 in
set_option maxHeartbeats 3200000 in
theorem sConst {lo bp : Nat} {gs : List Gt} {O : Value} (n : Int) (w : World) (h : Bld TS w lo bp gs O) (hs : gs.length ≤ 50000) (hn : 0 ≤ n ∧ n ≤ 15) :
    Calls Try.prog 40 #[.pointer (some ⟨bp, 0, none⟩), .int .i64 n] w fun e w' => ∃ g k, e = .returned (.slice (some ⟨g, 0, none⟩) 4 k) ∧ w.heap.size ≤ g ∧ RowI w' g 4 k (upW gs.length 4) ∧ Bld TS w' lo bp (constTo gs n 4) O ∧ Stay TS lo w w' := by
  have H0 := hid h
  clear h
  go_enter Try.func40, Try.ntmps40
  go_upto_region 2 with fail
  obtain ⟨w9, hw9⟩ : ∃ w9, w9 = w.alloc (.cells #[] 3) := ⟨_, rfl⟩
  have hb : Below w.heap.size w w9 := by rw [hw9]; exact (Below.refl _ _).alloc (Nat.le_refl _) _
  have ho9 : RowI w9 w.heap.size 0 0 [] := by rw [hw9]; exact Row.new #[] (Nat.zero_le _) rfl rfl
  rw [← hw9]
  have H9 := hid (And.intro ((H0.out).below hb) (And.intro (ho9) ((Stay.of_below (T := TS) (lo := lo) hb))))
  have hbk := (H0.out).len
  clear ho9 hb hw9
  go_wp2_with fail
  go_loopw [5, 6] (fun o i wr => ∃ (m g k : Nat), m ≤ 4 ∧ i = .int .i64 (m : Int) ∧ o = .slice (some ⟨g, 0, none⟩) m k ∧ w.heap.size ≤ g ∧ Bld TS wr lo bp (constTo gs n m) O ∧ RowI wr g m k (upW gs.length m) ∧ Stay TS lo w wr) (fun _ i _ => 4 - (intOf i).toNat)
  case atStart => exact ⟨0, w.heap.size, 0, Nat.zero_le _, rfl, rfl, Nat.le_refl _, H9.out.1, H9.out.2.1, H9.out.2.2⟩
  case round =>
    clear H9
    obtain ⟨m, g, k, hm, rfl, rfl, hg, hB, hR, hS⟩ := hrel
    have zr := hS.size
    by_cases hlt : m < 4
    · have hlt' : (m : Int) < 4 := by omega
      have hlen : (constTo gs n m).length = gs.length + m := constTo_length _ _ _
      obtain ⟨N1, hN1⟩ : ∃ N, gs.length + m = N := ⟨_, rfl⟩
      rw [hN1] at hlen
      have HT := hid (show constTo gs n (m + 1) = constTo gs n m ++ [⟨2, n / (2 ^ m : Nat) % 2, 0⟩] from rfl)
      have hB0 := hB
      have H := hid (And.intro (hB) (And.intro (hR) (hS)))
      clear hB hR hS
      go_wp2_with fail
      refine Calls.mono (sGate (n := N1) _ _ _ _ (Bld.heap hB0 rfl) hlen (by omega)) ?_
      rintro e w7 ⟨rfl, h, t⟩
      have z3 := t.size
      have hS3 := H.out.2.2.onto t rfl rfl rfl rfl
      have zs3 := hS3.size
      have HR3 := hid (Row.onto H.out.2.1 t rfl (by decide) (by decide))
      have H3 := hid (And.intro (h) (hS3))
      clear h t hS3 hB0 H
      go_wp2_with (at_builtin; refine app_int rfl _ _ rfl rfl (HR3.out.alloc _) [((N1 + 0 : Nat) : Int)] rfl rfl (top_cells _ [_] _) (by omega) ?_)
      intro g' k' w8 h1 h2 h3
      have h2 := grown_alloc h2
      have hg' : w.heap.size ≤ g' := by (try simp at h3); omega
      have H8 := hid (And.intro ((bld_cast (gs' := constTo gs n (m + 1)) (H3.out.1.grown h2 HR3.out (by decide)) (by rw [HT.out, nib_and hn.1 hn.2]))) (And.intro ((row_eq (ys := upW gs.length (m + 1)) h1 (by first | (rw [upW, ← hN1]; done) | (rw [upW, ← hN1]; simp)))) ((H3.out.2.grown h2 (by omega)))))
      clear h1 h2 h3 H3 HR3
      go_wp2
      go_roundw
      case rel => exact ⟨m + 1, g', k', by omega, by go_num, rfl, hg', H8.out.1, H8.out.2.1, H8.out.2.2⟩
      case measure => simp [intOf]; omega
    · obtain rfl : m = 4 := by omega
      have H := hid (And.intro hB (And.intro hR hS))
      clear hB hR hS
      go_wp2
      go_returns
      exact ⟨g, k, rfl, hg, H.out.2.1, H.out.1, H.out.2.2⟩
end Go.Proofs.Ytihbaieiempjeaa
