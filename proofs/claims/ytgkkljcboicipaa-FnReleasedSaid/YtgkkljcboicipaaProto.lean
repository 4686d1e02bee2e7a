/- The reference's draws of a prime, and of a prime, seeds and a number of rounds. Only the ranges of what is drawn are kept. -/
import Derived.Test.YtgkkljcboicipaaDrawB
import Derived.Test.YtgkkljcboicipaaField
namespace Go.Proofs.Ytgkkljcboicipaa
open Go.RowKit

theorem field_small {p : Int} (h1 : 2 ≤ p) (h2 : p ≤ 101) (h : ∀ d : Int, 2 ≤ d → d < 11 → d < p → p % d ≠ 0) : fieldOkB p = true := by
  have hin : inB p 2 101 = true := inB_iff.2 ⟨h1, h2⟩
  by_cases hp : p ≤ 11
  · exact field_yes (d := p) hin (fun d a b => h d a (by omega) b) (Int.le_refl _)
  · exact field_root (d := 11) hin (fun d a b => h d a b (by omega)) (by omega) (by omega)
theorem primes_ok {p : Int} (h : p ∈ [(2 : Int), 3, 5, 7, 11, 13, 31, 97, 101]) : fieldOkB p = true := by
  have hr : 2 ≤ p ∧ p ≤ 101 := by
    simp at h
    omega
  refine field_small hr.1 hr.2 fun d h2 h11 hd => ?_
  have hd' : d = 2 ∨ d = 3 ∨ d = 4 ∨ d = 5 ∨ d = 6 ∨ d = 7 ∨ d = 8 ∨ d = 9 ∨ d = 10 := by omega
  simp at h
  rcases hd' with rfl | rfl | rfl | rfl | rfl | rfl | rfl | rfl | rfl <;> omega
set_option maxRecDepth 100000 in
theorem prime_any (p : Nat) (A : Option Addr) (c : Nat) (bs : List Int) (w : World) (hc : Cur w p A bs.length c) (hb : Bytes w p A bs) :
    Calls Try.prog 45 #[.pointer (some ⟨p, 0, none⟩)] w fun e w' => ∃ r, e = .returned (.int .i64 r) ∧ fieldOkB r = true ∧ Cur w' p A bs.length c ∧ Touch [p] w w' := by
  have HB := hid hb
  have HC := hid hc
  have hp := hc.lt
  clear hb hc
  go_enter Try.func45, Try.ntmps45
  go_wp2_with fail
  refine (pick_any _ _ _ _ _ _ [2, 3, 5, 7, 11, 13, 31, 97, 101] _ (by decide) (by decide) (HC.out.alloc _) ⟨(HB.out.cells.below ((Below.refl _ _).alloc (by omega) _)), HB.out.small, HB.out.len⟩ w.heap.size rfl (by omega) (by simp) ?_).mono ?_
  · intro i v hv
    have := many_new w (ints [2, 3, 5, 7, 11, 13, 31, 97, 101]) 3 i v hv
    have e : (⟨w.heap.size, 0, none⟩ : Addr).add i = ⟨w.heap.size, i, none⟩ := by simp [Addr.add]; omega
    rw [e] at this
    exact this
  rintro e w2 ⟨r, hr, rfl, hc2, hT2⟩
  have hT := ((Touch.refl [p] w).alloc _).trans hT2
  have hw := primes_ok hr
  have HW := hid hw
  clear hr hT2 hw
  go_wp2
  go_ret
  exact ⟨r, rfl, HW.out, hc2, hT⟩
set_option maxRecDepth 100000 in
set_option maxHeartbeats 1600000 in
theorem protocol_any (A : Option Addr) (c : Nat) (bs : List Int) (w : World) (hb : Bytes w w.heap.size A bs) :
    Calls Try.prog 15 #[.slice A bs.length c] w fun e w' => ∃ (p r : Int) (xs : List Int) (A' : Option Addr) (c' : Nat), fieldOkB p = true ∧ 1 ≤ r ∧ r ≤ 6 ∧ 1 ≤ xs.length ∧ xs.length ≤ 4 ∧ wordsB xs = true ∧
      e = .returned (.tuple #[.int .i64 p, .slice A' xs.length c', .int .i64 r]) ∧ w'.ownsRow w.heap.size 3 1 (.slice A' xs.length c') xs.length (ints xs) ∧ Below w.heap.size w w' := by
  have HB := hid hb
  clear hb
  go_enter Try.func15, Try.ntmps15
  go_wp2_with fail
  refine (new_any _ _ _ _ HB.out).mono ?_
  rintro e w1 ⟨rfl, hc1, hb1⟩
  have z1 := hb1.size
  have zc := hc1.lt
  have HC := hid hc1
  have HW := hid hb1
  obtain ⟨p, hp⟩ : ∃ p, p = w.heap.size := ⟨_, rfl⟩
  have hpw : w.heap.size ≤ p := by omega
  rw [← hp] at HC zc
  rw [← hp]
  have HBP := hid (HB.out.more hpw)
  clear hc1 hb1 hp
  go_wp2_with fail
  go_loopw [6, 7] (fun o i wr => ∃ (j : Nat) (xs : List Int) (A' : Option Addr) (c' : Nat), j ≤ 4 ∧ i = .int .i64 j ∧ xs.length = j ∧ o = .slice A' j c' ∧ wordsB xs = true ∧
    wr.ownsRow w1.heap.size 3 1 (.slice A' j c') j (ints xs) ∧ Cur wr p A bs.length c ∧ Below w.heap.size w wr ∧ w1.heap.size ≤ wr.heap.size) (fun _ i _ => 4 - (intOf i).toNat)
  case atStart => exact ⟨0, [], some ⟨w1.heap.size, 0, none⟩, 0, Nat.zero_le _, rfl, rfl, rfl, rfl, own_lit (size := 1) #[] 0 rfl (Nat.le_refl _) (Nat.zero_le _) rfl, HC.out.alloc _, HW.out.alloc HW.out.size _, by simp⟩
  case round =>
    obtain ⟨j, xs, A', c', hj, rfl, hlen, rfl, hws, hown, hcu, hbw, hz1⟩ := hrel
    have zw := hbw.size
    have HL := hid hlen
    have HS := hid hws
    have HO := hid hown
    have HU := hid hcu
    have HD := hid hbw
    clear hlen hws hown hcu hbw
    go_wp2_with fail
    refine (below_any 4 _ _ _ _ _ (by omega) (by omega) HU.out ((HB.out.step HD.out).more (by omega))).mono ?_
    rintro e w2 ⟨r, rfl, hr0, hr1, hc2, hT⟩
    have z2 := hT.size
    have ho2 := own_touch' hT HO.out (fun q hq => by have h1 := own_in HO.out q hq; simp; omega)
    have hb2 := hT.below HD.out (by simp; omega)
    have HO2 := hid ho2
    have HU2 := hid hc2
    have HD2 := hid hb2
    clear hc2 hT ho2 hb2
    by_cases hlt : (j : Int) < 1 + r
    · go_wp2_with fail
      refine (word_any _ _ _ _ _ HU2.out ((HB.out.step HD2.out).more (by omega))).mono ?_
      rintro e w3 ⟨x, rfl, hxw, hc3, hT3⟩
      have z3 := hT3.size
      have ho3 := own_touch' hT3 HO2.out (fun q hq => by have h1 := own_in HO2.out q hq; have h2 := own_in HO.out q hq; simp; omega)
      have hb3 := hT3.below HD2.out (by simp; omega)
      have HO3 := hid ho3
      have HU3 := hid hc3
      have HD3 := hid hb3
      have HX := hid hxw
      clear hc3 hT3 ho3 hb3 hxw
      go_wp2_with (at_builtin; refine wpList_appi rfl _ _ 30 rfl w1.heap.size 3 (.int .i64 0) 1 8 Try.underlying30 infoInt rfl (by decide) _ j _ rfl (HO3.out.alloc _) ⟨w3.heap.size, 0, none⟩ 1 1 _ rfl rfl (one_new _ _ _) (one_one _) (by omega) (by decide) (by simp; omega) ?_)
      intro A4 c4 w4 ho4 hg4 li4
      have hg := grown_alloc hg4
      have z4 := hg.size
      have hlo : ∀ q, (Value.slice A' j c').ownBlock = some q → w1.heap.size ≤ q := fun q hq => (own_in HO3.out q hq).1
      have hc4 := HU3.out.grown hg (fun q hq => by have h1 := hlo q hq; omega)
      have hb4 := gr_below hg HD3.out (by omega) (fun q hq => by have h1 := hlo q hq; omega)
      rw [← ints_snoc] at ho4
      have HO4 := hid ho4
      have HU4 := hid hc4
      have HD4 := hid hb4
      clear hg hg4 li4 hlo ho4 hc4 hb4
      go_wp2
      go_roundw
      case rel => exact ⟨j + 1, xs ++ [x], A4, c4, by omega, by go_num, by rw [List.length_append, HL.out]; rfl, rfl, wordsB_app HS.out HX.out, HO4.out, HU4.out, HD4.out, by omega⟩
      case measure => simp [intOf]; omega
    · have hj1 : 1 ≤ j := by omega
      go_wp2_with fail
      refine (prime_any _ _ _ _ _ HU2.out ((HB.out.step HD2.out).more (by omega))).mono ?_
      rintro e w3 ⟨x, rfl, hxw, hc3, hT3⟩
      have z3 := hT3.size
      have ho3 := own_touch' hT3 HO2.out (fun q hq => by have h1 := own_in HO2.out q hq; have h2 := own_in HO.out q hq; simp; omega)
      have hb3 := hT3.below HD2.out (by simp; omega)
      have HX := hid hxw
      clear hT3 hxw
      go_wp2_with fail
      refine (below_any 6 _ _ _ _ _ (by omega) (by omega) hc3 ((HB.out.step hb3).more (by omega))).mono ?_
      rintro e w4 ⟨n, rfl, hn0, hn1, hc4, hT4⟩
      have z4 := hT4.size
      have ho4 := own_touch' hT4 ho3 (fun q hq => by have h1 := own_in HO2.out q hq; have h2 := own_in HO.out q hq; simp; omega)
      have hb4 := hT4.below hb3 (by simp; omega)
      have HO4 := hid ho4
      have HD4 := hid hb4
      clear hT4 hc4 hc3 ho3 hb3 ho4 hb4
      go_wp2_with fail
      go_ret3
      refine ⟨x, 1 + n, xs, A', c', HX.out, by omega, by omega, by rw [HL.out]; exact hj1, by rw [HL.out]; exact hj, HS.out, by rw [HL.out]; rfl, ?_, HD4.out⟩
      rw [HL.out]
      exact own_weak HO4.out (by omega)
end Go.Proofs.Ytgkkljcboicipaa
