/- The laws' own functions on vaults and sealed states. -/
import Derived.Test.YtdfomahaplcgoaaMem
import Derived.Test.YtdfomahaplcgoaaConv
import Derived.Test.YtdfomahaplcgoaaIntS
namespace Go.Proofs.Ytdfomahaplcgoaa
open Go.RowKit

theorem toSealed_any (m : Int) (A : Option Addr) (c : Nat) (xs : List Int) (t : Int) (w : World) (hc : Cells w w.heap.size A (ints xs)) (hn : xs.length ≤ 1048576) :
    Calls Try.prog 36 #[.agg #[.int .i64 m, .slice A xs.length c, .int .i64 t]] w fun e w' => ∃ A', e = .returned (.agg #[.int .i64 m, .slice A' xs.length xs.length, .int .i64 t]) ∧
      w'.ownsRow w.heap.size 3 1 (.slice A' xs.length xs.length) xs.length (ints xs) ∧ Below w.heap.size w w' := by
  go_enter Try.func36, Try.ntmps36
  go_wp2_with fail
  apply calls_forget3 (W := w) (b0 := w.heap.size) (b1 := w.heap.size + 1) (b2 := w.heap.size + 2)
  focus (repeat (first | (with_reducible assumption) | (with_reducible apply Blk.drew) | (with_reducible apply Blk.new; first | rfl | (simp; done)) | (with_reducible apply Blk.alloc) | (with_reducible apply Blk.set_) | (with_reducible apply Blk.past; focus assumption) | (with_reducible apply Blk.far; focus (first | (simp; done) | (simp; omega) | (dsimp only; omega)))))
  focus (repeat (first | (with_reducible assumption) | (with_reducible apply Blk.drew) | (with_reducible apply Blk.new; first | rfl | (simp; done)) | (with_reducible apply Blk.alloc) | (with_reducible apply Blk.set_) | (with_reducible apply Blk.past; focus assumption) | (with_reducible apply Blk.far; focus (first | (simp; done) | (simp; omega) | (dsimp only; omega)))))
  focus (repeat (first | (with_reducible assumption) | (with_reducible apply Blk.drew) | (with_reducible apply Blk.new; first | rfl | (simp; done)) | (with_reducible apply Blk.alloc) | (with_reducible apply Blk.set_) | (with_reducible apply Blk.past; focus assumption) | (with_reducible apply Blk.far; focus (first | (simp; done) | (simp; omega) | (dsimp only; omega)))))
  focus (repeat (first | (with_reducible exact Below.refl _ _) | (with_reducible refine Below.trans ?_ (Below.mono (by assumption) (by first | omega | (simp; done) | (simp; omega) | (simp [*]; done)))) | (with_reducible refine Below.alloc ?_ (by first | omega | (simp; done) | (simp; omega) | (simp [*]; done)) _) | (with_reducible refine Below.setCell ?_ (by first | omega | (simp; done) | (simp; omega) | (simp [*]; done)) _) | (with_reducible refine Below.drew ?_)))
  intro X k0 k1 k2 hX
  refine (toIntS_any _ _ _ _ (cells_of_below hc hX) hn).mono ?_
  rintro e w1 ⟨rfl, ho, hb⟩
  have sX := hX.size
  have z0 := k0.lt
  have z1 := k1.lt
  have z2 := k2.lt
  obtain ⟨z0', c0, f0, -⟩ := bfact hb k0
  obtain ⟨z1', c1, f1, -⟩ := bfact hb k1
  obtain ⟨z2', c2, f2, -⟩ := bfact hb k2
  have hb2 := hX.trans (hb.mono hX.size)
  go_wp2
  ((try simp only [Exit.inBlock, Exit.then]); apply bodyPost_ret0; focus ((try simp only [results, Try.results36]); (try go_simp); (try rfl)))
  refine ⟨_, rfl, own_weak (base := X.heap.size) ?_ sX, ?_⟩
  · repeat (first | (with_reducible assumption) | (with_reducible apply World.ownsRow.drew) | (with_reducible apply World.ownsRow.alloc) | (with_reducible refine own_set ?_ _ _ (by first | omega | (simp; omega) | (dsimp only; omega))))
  · repeat (first | (with_reducible exact Below.refl _ _) | (with_reducible refine Below.trans ?_ (Below.mono (by assumption) (by first | omega | (simp; done) | (simp; omega) | (simp [*]; done)))) | (with_reducible refine Below.alloc ?_ (by first | omega | (simp; done) | (simp; omega) | (simp [*]; done)) _) | (with_reducible refine Below.setCell ?_ (by first | omega | (simp; done) | (simp; omega) | (simp [*]; done)) _) | (with_reducible refine Below.drew ?_))
theorem eqSealed_same (m : Int) (A B : Option Addr) (c d : Nat) (xs : List Int) (t : Int) (w : World) (ha : Cells w w.heap.size A (ints xs)) (hc : Cells w w.heap.size B (ints xs)) (hn : xs.length ≤ 1000000000) :
    Calls Try.prog 37 #[.agg #[.int .i64 m, .slice A xs.length c, .int .i64 t], .agg #[.int .i64 m, .slice B xs.length d, .int .i64 t]] w fun e w' => e = .returned (.bool true) ∧ Below w.heap.size w w' := by
  go_enter Try.func37, Try.ntmps37
  go_wp2_with fail
  apply calls_forget2 (W := w) (b0 := w.heap.size) (b1 := w.heap.size + 1)
  focus (repeat (first | (with_reducible assumption) | (with_reducible apply Blk.drew) | (with_reducible apply Blk.new; first | rfl | (simp; done)) | (with_reducible apply Blk.alloc) | (with_reducible apply Blk.set_) | (with_reducible apply Blk.past; focus assumption) | (with_reducible apply Blk.far; focus (first | (simp; done) | (simp; omega) | (dsimp only; omega)))))
  focus (repeat (first | (with_reducible assumption) | (with_reducible apply Blk.drew) | (with_reducible apply Blk.new; first | rfl | (simp; done)) | (with_reducible apply Blk.alloc) | (with_reducible apply Blk.set_) | (with_reducible apply Blk.past; focus assumption) | (with_reducible apply Blk.far; focus (first | (simp; done) | (simp; omega) | (dsimp only; omega)))))
  focus (repeat (first | (with_reducible exact Below.refl _ _) | (with_reducible refine Below.trans ?_ (Below.mono (by assumption) (by first | omega | (simp; done) | (simp; omega) | (simp [*]; done)))) | (with_reducible refine Below.alloc ?_ (by first | omega | (simp; done) | (simp; omega) | (simp [*]; done)) _) | (with_reducible refine Below.setCell ?_ (by first | omega | (simp; done) | (simp; omega) | (simp [*]; done)) _) | (with_reducible refine Below.drew ?_)))
  intro X k0 k1 hX
  refine (eqIntS_same _ _ _ _ _ _ (cells_of_below ha hX) (cells_of_below hc hX) hn).mono ?_
  rintro e w1 ⟨rfl, hb⟩
  have sX := hX.size
  obtain ⟨z0', c0, f0, -⟩ := bfact hb k0
  obtain ⟨z1', c1, f1, -⟩ := bfact hb k1
  have hb2 := hX.trans (hb.mono hX.size)
  go_wp2
  go_ret
  exact ⟨rfl, hb2⟩
theorem markSealed_any (base : Nat) (A : Option Addr) (c n : Nat) (vs : List Value) (m t k : Int) (w : World) (hown : w.ownsRow base 3 1 (.slice A n c) n vs) (hn : n ≤ 1000000000) (h0 : 0 ≤ k) (h1 : k ≤ 1000000000000) :
    Calls Try.prog 38 #[.agg #[.int .i64 m, .slice A n c, .int .i64 t], .int .i64 k] w fun e w' => e = .returned (.int .i64 (k + n)) ∧
      w'.ownsRow base 3 1 (.slice A n c) n (ints (marks k n)) ∧ w.grownBy w' (Value.slice A n c).ownBlock := by
  go_enter Try.func38, Try.ntmps38
  go_wp2_with fail
  refine (markIntS_any base _ _ _ vs _ _ (hown.alloc _) hn h0 h1).mono ?_
  rintro e w1 ⟨rfl, ho, hg⟩
  go_wp2
  go_ret
  exact ⟨rfl, ho, grown_alloc hg⟩
theorem heldSealed_any (A : Option Addr) (c n : Nat) (m t k : Int) (w : World) (ha : Cells w w.heap.size A (ints (marks k n))) (hn : n ≤ 1000000000) (h0 : 0 ≤ k) (h1 : k ≤ 1000000000000) :
    Calls Try.prog 41 #[.agg #[.int .i64 m, .slice A n c, .int .i64 t], .int .i64 k] w fun e w' => e = .returned (.int .i64 (k + n)) ∧ Below w.heap.size w w' := by
  have hb0 : ∀ o, Below w.heap.size w (w.alloc o) := fun o => (Below.refl _ _).alloc (Nat.le_refl _) o
  have HB := hid hb0
  clear hb0
  go_enter Try.func41, Try.ntmps41
  go_wp2_with fail
  refine (heldIntS_any _ _ _ _ _ (cells_of_below ha (HB.out _)) hn h0 h1).mono ?_
  rintro e w' ⟨rfl, rfl⟩
  go_wp2
  go_ret
  exact ⟨rfl, HB.out _⟩
theorem szSealed_any (A : Option Addr) (c n : Nat) (m t left : Int) (w : World) (hn : n ≤ 9223372036854775807) (h0 : 0 ≤ left) (h1 : left ≤ 1048576) :
    Calls Try.prog 33 #[.agg #[.int .i64 m, .slice A n c, .int .i64 t], .int .i64 left] w fun e w' => e = .returned (.int .i64 (pick (decide (left - n < 0)) (-1) (left - n))) ∧ Below w.heap.size w w' := by
  have hb0 : ∀ o, Below w.heap.size w (w.alloc o) := fun o => (Below.refl _ _).alloc (Nat.le_refl _) o
  have HB := hid hb0
  clear hb0
  have hnum : left - (n : Int) < 0 ∨ 0 ≤ left - (n : Int) := by omega
  rcases hnum with hlt | hlt
  · have hd : decide (left - (n : Int) < 0) = true := by simpa using hlt
    rw [hd, pick_yes]
    have HD := hid hd
    clear hd
    go_enter Try.func33, Try.ntmps33
    go_wp2_with fail
    refine (szIntS_any _ _ _ _ _ hn h0 h1).mono ?_
    rintro e w' ⟨rfl, rfl⟩
    rw [HD.out, pick_yes]
    go_wp2
    go_ret
    exact ⟨rfl, HB.out _⟩
  · have hd : decide (left - (n : Int) < 0) = false := by simpa using hlt
    rw [hd, pick_no]
    have HD := hid hd
    clear hd
    go_enter Try.func33, Try.ntmps33
    go_wp2_with fail
    refine (szIntS_any _ _ _ _ _ hn h0 h1).mono ?_
    rintro e w' ⟨rfl, rfl⟩
    rw [HD.out, pick_no]
    go_wp2
    go_ret
    exact ⟨rfl, HB.out _⟩
theorem eqVault_same (k n : Int) (w : World) :
    Calls Try.prog 40 #[.agg #[.int .i64 k, .int .i64 n], .agg #[.int .i64 k, .int .i64 n]] w fun e w' => e = .returned (.bool true) ∧ Below w.heap.size w w' := by
  go_enter Try.func40, Try.ntmps40
  go_wp2
  go_ret
  refine ⟨rfl, ?_⟩
  repeat (first | (with_reducible exact Below.refl _ _) | (with_reducible refine Below.trans ?_ (Below.mono (by assumption) (by first | omega | (simp; done) | (simp; omega) | (simp [*]; done)))) | (with_reducible refine Below.alloc ?_ (by first | omega | (simp; done) | (simp; omega) | (simp [*]; done)) _) | (with_reducible refine Below.setCell ?_ (by first | omega | (simp; done) | (simp; omega) | (simp [*]; done)) _) | (with_reducible refine Below.drew ?_))
end Go.Proofs.Ytdfomahaplcgoaa
