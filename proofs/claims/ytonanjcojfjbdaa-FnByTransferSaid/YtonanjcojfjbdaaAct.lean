/- PartyBits, ActOk, in the program and in the reference. -/
import Derived.Test.YtonanjcojfjbdaaIntS
import Derived.Test.YtonanjcojfjbdaaConv
import Derived.Deep.RegionHeld3
namespace Go.Proofs.Ytonanjcojfjbdaa
open Go.RowKit

set_option maxHeartbeats 800000 in
theorem iPartyBits (p : Int) (w : World) : Calls Try.prog 15 #[.int .i64 p] w (GivesInts w (partyL p)) := by
  have hR : partyL p = if inB p 0 4 then partyTo p 16 else [] := rfl
  have HR := hid hR
  clear hR
  cases h1 : inB p 0 4
  · go_enter Try.func15, Try.ntmps15
    go_wp2_with (go_at_call 30; refine (iWithin _ _ _ _).mono ?_; rintro e w' ⟨rfl, rfl⟩)
    go_ret
    rw [HR.out, h1]
    exact ⟨none, 0, rfl, World.ownsRow_nil _ _ _ _, Below.refl _ _⟩
  · obtain ⟨hp0, hp1⟩ := inB_iff.1 h1
    go_enter Try.func15, Try.ntmps15
    go_wp2_with (go_at_call 30; refine (iWithin _ _ _ _).mono ?_; rintro e w' ⟨rfl, rfl⟩)
    go_loopw [3, 4] (fun o i wr => ∃ (j : Nat) (A' : Option Addr) (c' : Nat), j ≤ 16 ∧ i = .int .i64 j ∧ o = .slice A' j c' ∧ wr.ownsRow w.heap.size 3 1 (.slice A' j c') j (ints (partyTo p j)) ∧ Below w.heap.size w wr) (fun _ i _ => 16 - (intOf i).toNat)
    case atStart => exact ⟨0, some ⟨w.heap.size, 0, none⟩, 0, Nat.zero_le _, rfl, rfl, World.ownsRow_lit (size := 1) _ #[] 0 (Nat.le_refl _) (Nat.zero_le _) rfl, (Below.refl _ _).alloc (Nat.le_refl _) _⟩
    case round =>
      obtain ⟨j, A', c', hj, rfl, rfl, hown, hb⟩ := hrel
      have HO := hid hown
      have HB := hid hb
      have hsz := hb.size
      clear hown hb
      by_cases hlt : j < 16
      · have hlt' : (j : Int) < 16 := by omega
        go_wp2_with (at_builtin; refine wpList_app _ rfl _ _ 24 rfl w.heap.size 3 (.int .i64 0) 1 8 Try.underlying24 infoInt rfl (by decide) _ j _ rfl (HO.out.alloc _) ⟨wr.heap.size, 0, none⟩ 1 1 _ rfl rfl (one_new _ _ _) (one_one _) (by omega) (by decide) (by simp; omega) ?_)
        intro A2 c2 w2 hown2 hg2
        have hb2 := below_app HB.out hsz HO.out (Nat.le_refl _) hg2
        rw [← ints_snoc] at hown2
        have HO2 := hid hown2
        have HB2 := hid hb2
        clear hown2 hg2 hb2
        go_wp2
        go_roundw
        case rel => exact ⟨j + 1, A2, c2, by omega, by go_num, rfl, HO2.out, HB2.out⟩
        case measure => simp [intOf]; omega
      · obtain rfl : j = 16 := by omega
        go_wp2
        go_ret
        have e : partyL p = partyTo p 16 := by rw [HR.out, h1]; rfl
        have el : (partyTo p 16).length = 16 := partyTo_length _ _
        unfold GivesInts
        rw [e, el]
        exact ⟨A', c', rfl, HO.out, HB.out⟩
set_option maxHeartbeats 800000 in
theorem sPartyBits (p : Int) (w : World) : Calls Try.prog 21 #[.int .i64 p] w (GivesInts w (partyL p)) := by
  have hR : partyL p = if inB p 0 4 then partyTo p 16 else [] := rfl
  have HR := hid hR
  clear hR
  cases h1 : inB p 0 4
  · go_enter Try.func21, Try.ntmps21
    go_wp2
    refine wp_loop_rounds 1 ?_
    rw [rounds_succ]
    go_wp2_with (go_at_call 19; refine (sWithin _ _ _ _).mono ?_; rintro e w' ⟨rfl, rfl⟩)
    go_ret
    rw [HR.out, h1]
    exact ⟨some ⟨w.heap.size, 0, none⟩, 0, rfl, World.ownsRow_lit (size := 1) _ #[] 0 (Nat.le_refl _) (Nat.zero_le _) rfl, (Below.refl _ _).alloc (Nat.le_refl _) _⟩
  · obtain ⟨hp0, hp1⟩ := inB_iff.1 h1
    go_enter Try.func21, Try.ntmps21
    go_wp2
    go_loopw [3, 4] (fun o i wr => ∃ (j : Nat) (A' : Option Addr) (c' : Nat), j ≤ 16 ∧ i = .int .i64 j ∧ o = .slice A' j c' ∧ wr.ownsRow w.heap.size 3 1 (.slice A' j c') j (ints (partyTo p j)) ∧ Below w.heap.size w wr) (fun _ i _ => 16 - (intOf i).toNat)
    case atStart => exact ⟨0, some ⟨w.heap.size, 0, none⟩, 0, Nat.zero_le _, rfl, rfl, World.ownsRow_lit (size := 1) _ #[] 0 (Nat.le_refl _) (Nat.zero_le _) rfl, (Below.refl _ _).alloc (Nat.le_refl _) _⟩
    case round =>
      obtain ⟨j, A', c', hj, rfl, rfl, hown, hb⟩ := hrel
      have HO := hid hown
      have HB := hid hb
      have hsz := hb.size
      clear hown hb
      by_cases hlt : j < 16
      · have hlt' : (j : Int) < 16 := by omega
        go_wp2_with (first | (go_at_call 19; refine (sWithin _ _ _ _).mono ?_; rintro e w' ⟨rfl, rfl⟩) | (at_builtin; refine wpList_app _ rfl _ _ 24 rfl w.heap.size 3 (.int .i64 0) 1 8 Try.underlying24 infoInt rfl (by decide) _ j _ rfl (HO.out.alloc _) ⟨wr.heap.size, 0, none⟩ 1 1 _ rfl rfl (one_new _ _ _) (one_one _) (by omega) (by decide) (by simp; omega) ?_))
        intro A2 c2 w2 hown2 hg2
        have hb2 := below_app HB.out hsz HO.out (Nat.le_refl _) hg2
        rw [← ints_snoc] at hown2
        have HO2 := hid hown2
        have HB2 := hid hb2
        clear hown2 hg2 hb2
        go_wp2
        go_roundw
        case rel => exact ⟨j + 1, A2, c2, by omega, by go_num, rfl, HO2.out, HB2.out⟩
        case measure => simp [intOf]; omega
      · obtain rfl : j = 16 := by omega
        go_wp2
        go_ret
        have e : partyL p = partyTo p 16 := by rw [HR.out, h1]; rfl
        have el : (partyTo p 16).length = 16 := partyTo_length _ _
        unfold GivesInts
        rw [e, el]
        exact ⟨A', c', rfl, HO.out, HB.out⟩
end Go.Proofs.Ytonanjcojfjbdaa
