/- Released, in the program and in the reference. -/
import Derived.Test.YtgkkljcboicipaaCoins3
namespace Go.Proofs.Ytgkkljcboicipaa
open Go.RowKit

noncomputable def relB (p : Int) (xs : List Int) (r : Int) (ms : List Int) (n : Nat) : Bool := blameI p xs r ms n == -1
noncomputable def relL (p : Int) (xs : List Int) (r : Int) (ms : List Int) (n : Nat) : List Int := if relB p xs r ms n then coinsL p r ms n else []
theorem relL_yes {p r : Int} {xs ms : List Int} {n : Nat} (h : relB p xs r ms n = true) : relL p xs r ms n = coinsL p r ms n := by unfold relL; rw [h]; rfl
theorem relL_no {p r : Int} {xs ms : List Int} {n : Nat} (h : relB p xs r ms n = false) : relL p xs r ms n = [] := by unfold relL; rw [h]; rfl
theorem relL_length (p : Int) (xs : List Int) (r : Int) (ms : List Int) (n : Nat) : (relL p xs r ms n).length ≤ 12 := by
  unfold relL
  split
  · exact coinsL_length _ _ _ _
  · simp
def GivesIntsB (w : World) (xs : List Int) (b : Bool) (e : Ending) (w' : World) : Prop :=
  ∃ A c, e = .returned (.tuple #[.slice A xs.length c, .bool b]) ∧ w'.ownsRow w.heap.size 3 1 (.slice A xs.length c) xs.length (ints xs) ∧ Below w.heap.size w w'
theorem own_from {w w1 w2 : World} {e size n : Nat} {v : Value} {xs : List Value} (h : w2.ownsRow w1.heap.size e size v n xs) (hb : Below w.heap.size w w1) : w2.ownsRow w.heap.size e size v n xs := own_weak h hb.size
set_option maxHeartbeats 1600000 in
theorem iReleased (p : Int) (A B : Option Addr) (c d n : Nat) (xs : List Int) (r : Int) (ms : List Int) (w : World) (hc : Cells w w.heap.size A (ints xs)) (hn : xs.length ≤ 1000000000)
    (hq : Cells w w.heap.size B (ints ms)) (hl : ms.length = n * 3) (hn2 : n ≤ 1000000000) :
    Calls Try.prog 32 #[.int .i64 p, .slice A xs.length c, .int .i64 r, .slice B n d] w (GivesIntsB w (relL p xs r ms n) (relB p xs r ms n)) := by
  have HL := hid hl
  have HC := hid hc
  have HQ := hid hq
  clear hl hc hq
  cases hr : relB p xs r ms n
  · have hne : (blameI p xs r ms n != -1) = true := by unfold relB at hr; simp only [bne, hr]; rfl
    have HR := hid hr
    clear hr
    go_enter Try.func32, Try.ntmps32
    go_wp2_with fail
    refine (iBlame _ _ _ _ _ _ _ _ _ _ HC.out hn HQ.out HL.out hn2).mono ?_
    rintro e w1 ⟨rfl, hb⟩
    have hz := hb.size
    go_wp2_with fail
    go_ret2
    unfold GivesIntsB
    rw [relL_no HR.out]
    first
    | exact ⟨none, 0, rfl, World.ownsRow_nil _ _ _ _, hb⟩
    | exact ⟨some ⟨w1.heap.size, 0, none⟩, 0, rfl, own_lit #[] 0 rfl hb.size (Nat.zero_le _) rfl, by repeat (first | (with_reducible exact Below.refl _ _) | (with_reducible refine Below.trans ?_ (Below.mono (by assumption) (by first | omega | (simp; done) | (simp; omega) | (simp [*]; done)))) | (with_reducible refine Below.alloc ?_ (by first | omega | (simp; done) | (simp; omega) | (simp [*]; done)) _) | (with_reducible refine Below.setCell ?_ (by first | omega | (simp; done) | (simp; omega) | (simp [*]; done)) _) | (with_reducible refine Below.drew ?_) | (with_reducible refine below_drewN ?_))⟩
  · have hne : (blameI p xs r ms n != -1) = false := by unfold relB at hr; simp only [bne, hr]; rfl
    have HR := hid hr
    clear hr
    go_enter Try.func32, Try.ntmps32
    go_wp2_with fail
    refine (iBlame _ _ _ _ _ _ _ _ _ _ HC.out hn HQ.out HL.out hn2).mono ?_
    rintro e w1 ⟨rfl, hb⟩
    have hz := hb.size
    go_wp2_with fail
    refine (iCoinsOf _ _ _ _ _ _ _ ((HQ.out.below hb).more hb.size) HL.out hn2).mono ?_
    rintro e w2 ⟨A2, c2, rfl, ho, hb2⟩
    have HO := hid (own_from ho hb)
    have HB := hid (hb.trans (hb2.mono hb.size))
    clear ho hb hb2
    go_wp2_with fail
    go_ret2
    unfold GivesIntsB
    rw [relL_yes HR.out]
    exact ⟨A2, c2, rfl, HO.out, HB.out⟩
set_option maxHeartbeats 1600000 in
theorem sReleased (p : Int) (A B : Option Addr) (c d n : Nat) (xs : List Int) (r : Int) (ms : List Int) (w : World) (hc : Cells w w.heap.size A (ints xs)) (hn : xs.length ≤ 1000000000)
    (hq : Cells w w.heap.size B (ints ms)) (hl : ms.length = n * 3) (hn2 : n ≤ 1000000000) :
    Calls Try.prog 33 #[.int .i64 p, .slice A xs.length c, .int .i64 r, .slice B n d] w (GivesIntsB w (relL p xs r ms n) (relB p xs r ms n)) := by
  have HL := hid hl
  have HC := hid hc
  have HQ := hid hq
  clear hl hc hq
  cases hr : relB p xs r ms n
  · have hne : (blameI p xs r ms n != -1) = true := by unfold relB at hr; simp only [bne, hr]; rfl
    have HR := hid hr
    clear hr
    go_enter Try.func33, Try.ntmps33
    go_wp2_with fail
    refine (sBlame _ _ _ _ _ _ _ _ _ _ HC.out hn HQ.out HL.out hn2).mono ?_
    rintro e w1 ⟨rfl, hb⟩
    have hz := hb.size
    go_wp2_with fail
    go_ret2
    unfold GivesIntsB
    rw [relL_no HR.out]
    first
    | exact ⟨none, 0, rfl, World.ownsRow_nil _ _ _ _, hb⟩
    | exact ⟨some ⟨w1.heap.size, 0, none⟩, 0, rfl, own_lit #[] 0 rfl hb.size (Nat.zero_le _) rfl, by repeat (first | (with_reducible exact Below.refl _ _) | (with_reducible refine Below.trans ?_ (Below.mono (by assumption) (by first | omega | (simp; done) | (simp; omega) | (simp [*]; done)))) | (with_reducible refine Below.alloc ?_ (by first | omega | (simp; done) | (simp; omega) | (simp [*]; done)) _) | (with_reducible refine Below.setCell ?_ (by first | omega | (simp; done) | (simp; omega) | (simp [*]; done)) _) | (with_reducible refine Below.drew ?_) | (with_reducible refine below_drewN ?_))⟩
  · have hne : (blameI p xs r ms n != -1) = false := by unfold relB at hr; simp only [bne, hr]; rfl
    have HR := hid hr
    clear hr
    go_enter Try.func33, Try.ntmps33
    go_wp2_with fail
    refine (sBlame _ _ _ _ _ _ _ _ _ _ HC.out hn HQ.out HL.out hn2).mono ?_
    rintro e w1 ⟨rfl, hb⟩
    have hz := hb.size
    go_wp2_with fail
    refine (sCoinsOf _ _ _ _ _ _ _ ((HQ.out.below hb).more hb.size) HL.out hn2).mono ?_
    rintro e w2 ⟨A2, c2, rfl, ho, hb2⟩
    have HO := hid (own_from ho hb)
    have HB := hid (hb.trans (hb2.mono hb.size))
    clear ho hb hb2
    go_wp2_with fail
    go_ret2
    unfold GivesIntsB
    rw [relL_yes HR.out]
    exact ⟨A2, c2, rfl, HO.out, HB.out⟩
end Go.Proofs.Ytgkkljcboicipaa
