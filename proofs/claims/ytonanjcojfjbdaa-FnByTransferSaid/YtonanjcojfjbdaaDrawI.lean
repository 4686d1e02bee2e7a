/- The reference's drawn inputs, and their bits. Only what the laws need of them is kept. -/
import Derived.Test.YtonanjcojfjbdaaDrawX
namespace Go.Proofs.Ytonanjcojfjbdaa
open Go.RowKit

theorem own_kinds {w : World} {b1 b2 e1 e2 s1 s2 n1 n2 : Nat} {v1 v2 : Value} {xs ys : List Value} (h1 : w.ownsRow b1 e1 s1 v1 n1 xs) (h2 : w.ownsRow b2 e2 s2 v2 n2 ys) (hne : e1 ≠ e2) :
    ∀ q p, v1.ownBlock = some q → v2.ownBlock = some p → q ≠ p := by
  intro q p hq hp e
  subst e
  rcases h1.2 with ⟨hv, _⟩ | ⟨g, cap, cur, hv, hg, hh, _⟩
  · rw [hv] at hq; cases hq
  · rcases h2.2 with ⟨hv2, _⟩ | ⟨g2, cap2, cur2, hv2, hg2, hh2, _⟩
    · rw [hv2] at hp; cases hp
    · rw [hv] at hq
      rw [hv2] at hp
      have e1' : g = q := Option.some.inj hq
      have e2' : g2 = q := Option.some.inj hp
      subst e1'
      subst e2'
      rw [hh] at hh2
      injection hh2 with hh2
      injection hh2 with _ h3 _
      exact hne h3
theorem infoInts : (Try.prog.info? 24).map (fun i => (i.zero, i.size, i.bytes)) = some (some (.slice none 0 0), 1, 24) := by kernel_rfl
/-- Five rows of four numbers below 16: the row's address, its capacity, its numbers. -/
def insV (ls : List (Nat × Nat × List Int)) : List Value := ls.map fun q => .slice (some ⟨q.1, 0, none⟩) 4 q.2.1
def In4 (xs : List Int) : Prop := xs.length = 4 ∧ ∀ x ∈ xs, 0 ≤ x ∧ x < 16
def InsO (w : World) (base : Nat) (ls : List (Nat × Nat × List Int)) : Prop := ∀ (i : Nat) (q : Nat × Nat × List Int), ls[i]? = some q → w.ownsRow base 3 1 (.slice (some ⟨q.1, 0, none⟩) 4 q.2.1) 4 (ints q.2.2) ∧ In4 q.2.2
def InsC (w : World) (B : Nat) (ls : List (Nat × Nat × List Int)) : Prop := ∀ (i : Nat) (q : Nat × Nat × List Int), ls[i]? = some q → Cells w B (some ⟨q.1, 0, none⟩) (ints q.2.2) ∧ In4 q.2.2
theorem insV_length (ls : List (Nat × Nat × List Int)) : (insV ls).length = ls.length := by simp [insV]
theorem insV_get {ls : List (Nat × Nat × List Int)} {i : Nat} {q : Nat × Nat × List Int} (h : ls[i]? = some q) : (insV ls)[i]? = some (.slice (some ⟨q.1, 0, none⟩) 4 q.2.1) := by simp [insV, h]
theorem insV_snoc (ls : List (Nat × Nat × List Int)) (q : Nat × Nat × List Int) : insV (ls ++ [q]) = insV ls ++ [.slice (some ⟨q.1, 0, none⟩) 4 q.2.1] := by simp [insV]
theorem InsO.nil (w : World) (base : Nat) : InsO w base [] := fun i q h => by simp at h
theorem InsO.touch {L : List Nat} {w w' : World} {base : Nat} {ls : List (Nat × Nat × List Int)} (h : InsO w base ls) (hT : Touch L w w') (hL : ∀ i ∈ L, i < base) : InsO w' base ls :=
  fun i q hq => ⟨own_touch' hT (h i q hq).1 fun g hg hm => by have h1 := own_in (h i q hq).1 g hg; have h2 := hL g hm; omega, (h i q hq).2⟩
theorem InsO.grown {w w' : World} {row : Option Nat} {base : Nat} {ls : List (Nat × Nat × List Int)} (h : InsO w base ls) (hg : w.grownBy w' row)
    (hne : ∀ (i : Nat) (q : Nat × Nat × List Int), ls[i]? = some q → ∀ g, row = some g → g ≠ q.1) : InsO w' base ls :=
  fun i q hq => ⟨gr_own hg (h i q hq).1 fun g p hg' hp => by
    have e : p = q.1 := by have := hp; simp [Value.ownBlock] at this; exact this.symm
    rw [e]
    exact hne i q hq g hg', (h i q hq).2⟩
theorem InsO.snoc {w : World} {base : Nat} {ls : List (Nat × Nat × List Int)} (h : InsO w base ls) {g c : Nat} {xs : List Int} (ho : w.ownsRow base 3 1 (.slice (some ⟨g, 0, none⟩) 4 c) 4 (ints xs)) (hx : In4 xs) : InsO w base (ls ++ [(g, c, xs)]) := fun i q hq => by
  rw [List.getElem?_append] at hq
  split at hq
  · exact h i q hq
  · rcases hi : i - ls.length with _ | n
    · rw [hi] at hq
      simp at hq
      subst hq
      exact ⟨ho, hx⟩
    · rw [hi] at hq
      simp at hq
theorem InsO.cells {w : World} {base : Nat} {ls : List (Nat × Nat × List Int)} (h : InsO w base ls) : InsC w w.heap.size ls := fun i q hq => ⟨Cells.of_own (h i q hq).1, (h i q hq).2⟩
theorem InsC.below {w w' : World} {B : Nat} {ls : List (Nat × Nat × List Int)} (h : InsC w B ls) (hb : Below w.heap.size w w') (hB : B ≤ w.heap.size) : InsC w' B ls := fun i q hq => ⟨cells_below (h i q hq).1 hb hB, (h i q hq).2⟩
theorem InsC.more {w : World} {B B' : Nat} {ls : List (Nat × Nat × List Int)} (h : InsC w B ls) (hB : B ≤ B') : InsC w B' ls := fun i q hq => ⟨(h i q hq).1.more hB, (h i q hq).2⟩
theorem InsC.touch {L : List Nat} {w w' : World} {B : Nat} {ls : List (Nat × Nat × List Int)} (h : InsC w B ls) (hT : Touch L w w') (hB : B ≤ w.heap.size) (hL : ∀ i ∈ L, B ≤ i) : InsC w' B ls := fun i q hq => ⟨cells_touch hT (h i q hq).1 hB hL, (h i q hq).2⟩

set_option maxRecDepth 100000 in
set_option maxHeartbeats 1600000 in
theorem inputs_any (p : Nat) (A : Option Addr) (c : Nat) (bs : List Int) (w : World) (hc : Cur w p A bs.length c) (hb : Bytes w p A bs) :
    Calls Try.prog 42 #[.pointer (some ⟨p, 0, none⟩)] w fun e w' => ∃ (ls : List (Nat × Nat × List Int)) (A' : Option Addr) (c' : Nat), ls.length = 5 ∧ e = .returned (.slice A' 5 c') ∧
      w'.ownsRow w.heap.size 24 1 (.slice A' 5 c') 5 (insV ls) ∧ InsO w' w.heap.size ls ∧ Cur w' p A bs.length c ∧ Touch [p] w w' := by
  have HB := hid hb
  have HC := hid hc
  have hp := hc.lt
  clear hb hc
  go_enter Try.func42, Try.ntmps42
  go_wp2_with fail
  go_loopw [3, 4] (fun o i wr => ∃ (k : Nat) (ls : List (Nat × Nat × List Int)) (A' : Option Addr) (c' : Nat), k ≤ 5 ∧ i = .int .i64 k ∧ ls.length = k ∧ o = .slice A' k c' ∧
    wr.ownsRow w.heap.size 24 1 (.slice A' k c') k (insV ls) ∧ InsO wr w.heap.size ls ∧ Cur wr p A bs.length c ∧ Touch [p] w wr) (fun _ i _ => 5 - (intOf i).toNat)
  case atStart => exact ⟨0, [], some ⟨w.heap.size, 0, none⟩, 0, Nat.zero_le _, rfl, rfl, rfl, own_lit (size := 1) #[] 0 rfl (Nat.le_refl _) (Nat.zero_le _) rfl, InsO.nil _ _, HC.out.alloc _, (Touch.refl _ _).alloc _⟩
  case round =>
    obtain ⟨k, ls, A', c', hk, rfl, hlen, rfl, hown, hins, hcu, htw⟩ := hrel
    have zw := htw.size
    have HL := hid hlen
    have HO := hid hown
    have HI := hid hins
    have HU := hid hcu
    have HD := hid htw
    clear hlen hown hcu htw hins
    by_cases hlt : k < 5
    · have hlt' : (k : Int) < 5 := by omega
      go_wp2_with fail
      refine (list_any 16 4 _ _ _ _ _ (by omega) (by omega) (by omega) HU.out (HB.out.touch HD.out (by omega))).mono ?_
      rintro e w2 ⟨xs, A1, c1, hxs, rfl, hro, hc2, hT⟩
      have z2 := hT.size
      obtain ⟨g, rfl, hg0, hg1, _⟩ := own_at hro (by omega)
      have ho2 := own_touch' hT HO.out (fun q hq => by have h1 := own_in HO.out q hq; simp; omega)
      have HO2 := hid ho2
      have HU2 := hid hc2
      have HI2 := hid (HI.out.touch hT (by simp; omega))
      have HR2 := hid (own_weak (base' := w.heap.size) hro (by omega))
      have HD2 := hid (HD.out.trans hT)
      clear hc2 hT ho2 hro
      go_wp2_with (at_builtin; go_loud (refine wpList_appi rfl _ _ 36 rfl w.heap.size 24 (.slice none 0 0) 1 24 Try.underlying36 infoInts rfl (by decide) _ k _ rfl (HO2.out.alloc _) ⟨w2.heap.size, 0, none⟩ 1 1 _ rfl rfl (one_new _ _ _) (by intro u hu; simp at hu; subst hu; rfl) (by omega) (by decide) (by simp; omega) ?_))
      intro A3 c3 w3 ho3 hg3 li3
      have hg := grown_alloc hg3
      have z3 := hg.size
      have hlo : ∀ q, (Value.slice A' k c').ownBlock = some q → w.heap.size ≤ q := fun q hq => (own_in HO2.out q hq).1
      have hc3 := HU2.out.grown hg (fun q hq => by have h1 := hlo q hq; omega)
      have ht3 := HD2.out.grown hg hlo
      have hi3 := (HI2.out.snoc HR2.out hxs).grown hg (fun i q hq g' hg' => by
        have h1 := ((HI2.out.snoc HR2.out hxs) i q hq).1
        exact own_kinds HO2.out h1 (by decide) g' q.1 hg' rfl)
      rw [← insV_snoc ls (g, c1, xs)] at ho3
      have HO3 := hid ho3
      have HU3 := hid hc3
      have HD3 := hid ht3
      have HI3 := hid hi3
      clear hg hg3 li3 hlo ho3 hc3 ht3 hi3
      go_wp2
      go_roundw
      case rel => exact ⟨k + 1, ls ++ [(g, c1, xs)], A3, c3, by omega, by go_num, by rw [List.length_append, HL.out]; rfl, rfl, HO3.out, HI3.out, HU3.out, HD3.out⟩
      case measure => simp [intOf]; omega
    · obtain rfl : k = 5 := by omega
      go_wp2
      go_ret
      exact ⟨ls, A', c', HL.out, rfl, HO.out, HI.out, HU.out, HD.out⟩

theorem sInYes (n lo hi : Int) (w : World) (h : lo ≤ n ∧ n ≤ hi) : Calls Try.prog 19 #[.int .i64 n, .int .i64 lo, .int .i64 hi] w fun e w' => e = .returned (.bool true) ∧ w = w' := by
  have := sWithin n lo hi w
  rw [inB_iff.2 h] at this
  exact this
theorem sAllYes (A : Option Addr) (c : Nat) (xs : List Int) (w : World) (hx : In4 xs) (hc : Cells w w.heap.size A (ints xs)) :
    Calls Try.prog 59 #[.slice A 4 c] w fun e w' => e = .returned (.bool true) ∧ w = w' := by
  obtain ⟨hl, hx⟩ := hx
  obtain ⟨b, off, rfl, hB, hcl⟩ := hc (by rw [ints_length]; omega)
  go_enter Try.func59, Try.ntmps59
  go_wp2
  go_loop [3] (fun i => ∃ k : Nat, k ≤ 4 ∧ i = .int .i64 k) (fun i => 4 - (intOf i).toNat)
  case atStart => exact ⟨0, Nat.zero_le _, rfl⟩
  case round =>
    obtain ⟨k, hk, rfl⟩ := hrel
    by_cases hlt : k < 4
    · obtain ⟨x, hx1⟩ : ∃ x, xs[k]? = some x := ⟨_, List.getElem?_eq_getElem (by omega)⟩
      have hcell := hcl k _ (ints_get hx1)
      obtain ⟨x0, x16⟩ := hx x (List.mem_of_getElem? hx1)
      have hlt' : (k : Int) < 4 := by omega
      clear hcl hx hx1
      go_wp2_with (go_at_call 19; refine (sInYes _ _ _ _ (by omega)).mono ?_; rintro e w' ⟨rfl, rfl⟩)
      · go_round
        case rel => exact ⟨k + 1, by omega, by go_num⟩
        case measure => simp [intOf]; omega
    · obtain rfl : k = 4 := by omega
      go_wp2
      go_ret
      exact ⟨rfl, rfl⟩
theorem sInputsOkYes (A : Option Addr) (c : Nat) (ls : List (Nat × Nat × List Int)) (w : World) (hl : ls.length = 5) (hi : InsC w w.heap.size ls) (hc : Cells w w.heap.size A (insV ls)) :
    Calls Try.prog 45 #[.slice A 5 c] w fun e w' => e = .returned (.bool true) ∧ w = w' := by
  obtain ⟨b, off, rfl, hB, hcl⟩ := hc (by rw [insV_length]; omega)
  have HI := hid hi
  clear hi
  go_enter Try.func45, Try.ntmps45
  go_wp2
  go_loop [3] (fun i => ∃ k : Nat, k ≤ 5 ∧ i = .int .i64 k) (fun i => 5 - (intOf i).toNat)
  case atStart => exact ⟨0, Nat.zero_le _, rfl⟩
  case round =>
    obtain ⟨k, hk, rfl⟩ := hrel
    by_cases hlt : k < 5
    · obtain ⟨q, hq⟩ : ∃ q, ls[k]? = some q := ⟨_, List.getElem?_eq_getElem (by omega)⟩
      have hcell := hcl k _ (insV_get hq)
      have HQ := hid (HI.out k q hq)
      have hlt' : (k : Int) < 5 := by omega
      clear hcl hq
      go_wp2_with (go_at_call 59; refine (sAllYes _ _ q.2.2 _ HQ.out.2 HQ.out.1).mono ?_; rintro e w' ⟨rfl, rfl⟩)
      go_round
      case rel => exact ⟨k + 1, by omega, by go_num⟩
      case measure => simp [intOf]; omega
    · obtain rfl : k = 5 := by omega
      go_wp2
      go_ret
      exact ⟨rfl, rfl⟩
end Go.Proofs.Ytonanjcojfjbdaa
