/- The bits of drawn inputs. -/
import Derived.Test.YtonanjcojfjbdaaDrawI
namespace Go.Proofs.Ytonanjcojfjbdaa
open Go.RowKit

theorem and1 (a : Int) : inB (bits .and .i64 a 1) 0 1 = true := by
  have e : bits .and .i64 a 1 = IntKind.i64.wrap ((BitVec.ofInt 64 a &&& BitVec.ofInt 64 1).toNat : Int) := rfl
  have h : (BitVec.ofInt 64 a &&& BitVec.ofInt 64 1).toNat ≤ 1 := by
    rw [BitVec.toNat_and]
    have e2 : (BitVec.ofInt 64 1).toNat = 1 := by decide
    rw [e2]
    exact Nat.and_le_right
  rw [inB_iff, e, IntKind.wrap_i64]
  omega
theorem bitsB_app {xs : List Int} {r : Int} (h : bitsB xs = true) (hr : inB r 0 1 = true) : bitsB (xs ++ [r]) = true := by
  unfold bitsB at *
  simp [h, hr, List.all_append]
def BitsS (w : World) (L : Nat) (o : Value) (wr : World) : Prop :=
  ∃ (xs : List Int) (A' : Option Addr) (c' : Nat), xs.length = L ∧ o = .slice A' L c' ∧ wr.ownsRow w.heap.size 3 1 (.slice A' L c') L (ints xs) ∧ bitsB xs = true ∧ Below w.heap.size w wr
set_option maxRecDepth 100000 in
set_option maxHeartbeats 1600000 in
theorem sInputBits (A : Option Addr) (c : Nat) (ls : List (Nat × Nat × List Int)) (w : World) (hl : ls.length = 5) (hi : InsC w w.heap.size ls) (hc : Cells w w.heap.size A (insV ls)) :
    Calls Try.prog 14 #[.slice A 5 c] w fun e w' => ∃ (xs : List Int) (A' : Option Addr) (c' : Nat), (xs.length = 80 ∧ bitsB xs = true) ∧ e = .returned (.slice A' 80 c') ∧ w'.ownsRow w.heap.size 3 1 (.slice A' 80 c') 80 (ints xs) ∧ Below w.heap.size w w' := by
  have HI := hid hi
  have HC := hid hc
  obtain ⟨ab, ao, rfl, hB, hcl⟩ := hc (by rw [insV_length]; omega)
  clear hi
  go_enter Try.func14, Try.ntmps14
  go_wp2_with fail
  go_loopw [3, 4, 5, 6] (fun o p n b wr => ∃ k : Nat, k ≤ 5 ∧ p = .int .i64 k ∧ BitsS w (16 * k) o wr) (fun _ p _ _ _ => 5 - (intOf p).toNat)
  case atStart => exact ⟨0, Nat.zero_le _, rfl, [], some ⟨w.heap.size, 0, none⟩, 0, rfl, rfl, own_lit (size := 1) #[] 0 rfl (Nat.le_refl _) (Nat.zero_le _) rfl, rfl, (Below.refl _ _).alloc (Nat.le_refl _) _⟩
  case round =>
    obtain ⟨k, hk, rfl, hS⟩ := hrel
    by_cases hlt : k < 5
    · obtain ⟨q, hq⟩ : ∃ q, ls[k]? = some q := ⟨_, List.getElem?_eq_getElem (by omega)⟩
      have HQ := hid hq
      have hlt' : (k : Int) < 5 := by omega
      have HD := hid (show Below w.heap.size w wr from by obtain ⟨_, _, _, _, _, _, _, h⟩ := hS; exact h)
      have zw := HD.out.size
      have HS := hid hS
      clear hS hq
      go_wp2_with (go_at_call 45; refine (sInputsOkYes _ _ ls _ hl (((HI.out.below HD.out (Nat.le_refl _)).more (by omega))) ((cells_below HC.out HD.out (Nat.le_refl _)).more (by omega))).mono ?_; rintro e w' ⟨rfl, rfl⟩)
      go_loopw [3, 5, 6] (fun o n b wr => ∃ j : Nat, j ≤ 4 ∧ n = .int .i64 j ∧ BitsS w (16 * k + 4 * j) o wr) (fun _ n _ _ => 4 - (intOf n).toNat)
      case atStart => exact ⟨0, Nat.zero_le _, rfl, HS.out⟩
      case round =>
        obtain ⟨j, hj, rfl, hS⟩ := hrel
        by_cases hlt2 : j < 4
        · have hlt2' : (j : Int) < 4 := by omega
          go_wp2_with fail
          go_loopw [3, 6] (fun o b wr => ∃ m : Nat, m ≤ 4 ∧ b = .int .i64 m ∧ BitsS w (16 * k + 4 * j + m) o wr) (fun _ b _ => 4 - (intOf b).toNat)
          case atStart => exact ⟨0, Nat.zero_le _, rfl, hS⟩
          case round =>
            obtain ⟨m, hm, rfl, xs, A', c', hlen, rfl, hown, hbi, hbw⟩ := hrel
            have zw2 := hbw.size
            have HL := hid hlen
            have HO := hid hown
            have HB := hid hbi
            have HW := hid hbw
            clear hlen hown hbi
            by_cases hlt3 : m < 4
            · have hlt3' : (m : Int) < 4 := by omega
              obtain ⟨hcs, h4, _⟩ := HI.out k q HQ.out
              obtain ⟨b', off', e1, hB', hcl'⟩ := hcs (by rw [ints_length]; omega)
              obtain ⟨x, hx⟩ : ∃ x, q.2.2[j]? = some x := ⟨_, List.getElem?_eq_getElem (by omega)⟩
              have d1 : wr.cell? ⟨ab, ao + k, none⟩ = some (.slice (some ⟨b', off', none⟩) 4 q.2.1) := by rw [← e1]; exact (hbw.cell (p := ⟨ab, ao + k, none⟩) hB).trans (hcl k _ (insV_get HQ.out))
              have d2 : wr.cell? ⟨b', off' + j, none⟩ = some (.int .i64 x) := (hbw.cell (p := ⟨b', off' + j, none⟩) hB').trans (hcl' j _ (ints_get hx))
              have D1 := hid d1
              have D2 := hid d2
              clear hcl hcl' hcs e1 hx hbw
              go_wp2_with (at_builtin; go_loud (refine wpList_appi rfl _ _ 24 rfl w.heap.size 3 (.int .i64 0) 1 8 Try.underlying24 infoInt rfl (by decide) _ (16 * k + 4 * j + m) _ rfl (HO.out.alloc _) ⟨wr.heap.size, 0, none⟩ 1 1 _ rfl rfl (one_new _ _ _) (one_one _) (by omega) (by decide) (by simp; omega) ?_))
              intro A3 c3 w3 ho3 hg3 li3
              have hg := grown_alloc hg3
              have z3 := hg.size
              have hlo : ∀ q, (Value.slice A' (16 * k + 4 * j + m) c').ownBlock = some q → w.heap.size ≤ q := fun q hq => (own_in HO.out q hq).1
              have hb3 := gr_below hg HW.out (by omega) hlo
              rw [← ints_snoc] at ho3
              have HO3 := hid ho3
              have HW3 := hid hb3
              clear hg hg3 li3 hlo ho3 hb3
              go_wp2
              go_roundw
              case rel => exact ⟨m + 1, by omega, by go_num, ⟨_, A3, c3, by rw [List.length_append, HL.out]; rfl, rfl, HO3.out, bitsB_app HB.out (and1 _), HW3.out⟩⟩
              case measure => simp [intOf]; omega
            · obtain rfl : m = 4 := by omega
              go_wp2
              go_roundw
              case rel => exact ⟨j + 1, by omega, by go_num, ⟨xs, A', c', HL.out, rfl, HO.out, HB.out, HW.out⟩⟩
              case measure => simp [intOf]; omega
        · obtain rfl : j = 4 := by omega
          go_wp2
          go_roundw
          case rel => exact ⟨k + 1, by omega, by go_num, hS⟩
          case measure => simp [intOf]; omega
    · obtain rfl : k = 5 := by omega
      obtain ⟨xs, A', c', hlen, rfl, hown, hbi, hbw⟩ := hS
      go_wp2
      go_ret
      exact ⟨xs, A', c', ⟨hlen, hbi⟩, rfl, hown, hbw⟩
end Go.Proofs.Ytonanjcojfjbdaa
