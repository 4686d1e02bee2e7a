/- Load, in the program and in the reference. -/
import Derived.Test.YtdfomahaplcgoaaSeal
import Derived.Test.YtdfomahaplcgoaaSess
namespace Go.Proofs.Ytdfomahaplcgoaa
open Go.RowKit

/-- A call hands back these numbers in a row of its own and a bool, and leaves old memory alone. -/
def GivesIntsOk (w : World) (xs : List Int) (b : Bool) (e : Ending) (w' : World) : Prop :=
  ∃ A c, e = .returned (.tuple #[.slice A xs.length c, .bool b]) ∧ w'.ownsRow w.heap.size 3 1 (.slice A xs.length c) xs.length (ints xs) ∧ Below w.heap.size w w'
def askB (xs : List Int) : Bool := wordsB xs && decide ((xs.length : Int) ≤ 40)
def loadB (k n m : Int) (xs : List Int) (t : Int) : Bool := vaultOkB k n && !(n == 0) && !(m != n - 1) && askB xs && !(t != tagI k m xs)
def loadL (k n m : Int) (xs : List Int) (t : Int) : List Int := if loadB k n m xs t then sealL k m xs else []
theorem seal_ask {k n m : Int} {xs : List Int} (h1 : vaultOkB k n = true) (h2 : (n == 0) = false) (h3 : (m != n - 1) = false) : sealB k m xs = askB xs := by
  unfold vaultOkB at h1
  simp only [Bool.and_eq_true] at h1
  have hn := inB_iff.1 h1.2
  have h2' : n ≠ 0 := by simpa using h2
  have h3' : m = n - 1 := by simpa using h3
  have hm : inB m 0 100000 = true := inB_iff.2 (by omega)
  unfold sealB askB
  rw [h1.1, hm]
  simp
theorem GivesIntsOk.of_seal {w W w' : World} {xs : List Int} {A : Option Addr} {c : Nat} (hb : Below w.heap.size w W) (ho : w'.ownsRow W.heap.size 3 1 (.slice A xs.length c) xs.length (ints xs)) (hb' : Below W.heap.size W w') :
    w'.ownsRow w.heap.size 3 1 (.slice A xs.length c) xs.length (ints xs) ∧ Below w.heap.size w w' := by
  refine ⟨⟨ho.1, ?_⟩, hb.trans (hb'.mono hb.size)⟩
  rcases ho.2 with h | ⟨g, cap, cur, hv, hg, r⟩
  · exact .inl h
  · exact .inr ⟨g, cap, cur, hv, Nat.le_trans hb.size hg, r⟩

set_option maxHeartbeats 3200000 in
theorem iLoad (k n m : Int) (A : Option Addr) (c : Nat) (xs : List Int) (t : Int) (w : World) (hc : Cells w w.heap.size A (ints xs)) (hl : xs.length ≤ 1000000000) :
    Calls Try.prog 26 #[.agg #[.int .i64 k, .int .i64 n], .agg #[.int .i64 m, .slice A xs.length c, .int .i64 t]] w (GivesIntsOk w (loadL k n m xs t) (loadB k n m xs t)) := by
  have hL : loadL k n m xs t = if loadB k n m xs t then sealL k m xs else [] := rfl
  have HL := hid hL
  clear hL
  have HC := hid hc
  clear hc
  cases h1 : vaultOkB k n; rotate_left
  cases h2 : (n == 0)
  cases h3 : (m != n - 1)
  cases h4 : sealB k m xs; rotate_left
  cases h5 : (t != tagI k m xs)
  all_goals
    try (have hn := inB_iff.1 (show inB n 0 100000 = true by unfold vaultOkB at h1; simp only [Bool.and_eq_true] at h1; exact h1.2))
    have hR : loadB k n m xs t = (vaultOkB k n && !(n == 0) && !(m != n - 1) && askB xs && !(t != tagI k m xs)) := rfl
    try rw [← seal_ask (m := m) h1 h2 h3] at hR
    try rw [h1] at hR
    try rw [h2] at hR
    try rw [h3] at hR
    try rw [h4] at hR
    try rw [h5] at hR
    simp at hR
    rw [hR] at HL
    rw [hR]
    simp at HL
    clear hR
    go_enter Try.func26, Try.ntmps26
    go_wp2_with fail
    apply wp_forget2 (b0 := w.heap.size) (b1 := w.heap.size + 1) (w0 := w) (B := w.heap.size)
    focus (repeat (first | (with_reducible assumption) | (with_reducible apply Blk.drew) | (with_reducible apply Blk.new; first | rfl | (simp; done)) | (with_reducible apply Blk.alloc) | (with_reducible apply Blk.set_) | (with_reducible apply Blk.past; focus assumption) | (with_reducible apply Blk.far; focus (first | (simp; done) | (simp; omega) | (dsimp only; omega)))))
    focus (repeat (first | (with_reducible assumption) | (with_reducible apply Blk.drew) | (with_reducible apply Blk.new; first | rfl | (simp; done)) | (with_reducible apply Blk.alloc) | (with_reducible apply Blk.set_) | (with_reducible apply Blk.past; focus assumption) | (with_reducible apply Blk.far; focus (first | (simp; done) | (simp; omega) | (dsimp only; omega)))))
    focus (repeat (first | (with_reducible exact Below.refl _ _) | (with_reducible refine Below.trans ?_ (Below.mono (by assumption) (by first | omega | (simp; done) | (simp; omega) | (simp [*]; done)))) | (with_reducible refine Below.alloc ?_ (by first | omega | (simp; done) | (simp; omega) | (simp [*]; done)) _) | (with_reducible refine Below.setCell ?_ (by first | omega | (simp; done) | (simp; omega) | (simp [*]; done)) _) | (with_reducible refine Below.drew ?_)))
    intro W1 k0 k1 hbW
    have c0 := k0.cell
    have f0 := k0.frozen
    have z0 := k0.lt
    have c1 := k1.cell
    have f1 := k1.frozen
    have z1 := k1.lt
    have hcW : Cells W1 W1.heap.size A (ints xs) := (HC.out.below hbW).more hbW.size
    have HQ := hid (fun x : Later W1 => hcW.step x.below)
    have HCW := hid hcW
    clear hcW
    have q0 := fun (x : Later W1) (o : Nat) => (k0.below x.below k0.lt).cell o
    have q1 := fun (x : Later W1) (o : Nat) => (k1.below x.below k1.lt).cell o
    refine wp_region_later (by kernel_rfl) (by kernel_rfl) ?_
    repeat (go_big_quiet_step (first | (go_at_call 47; exact Calls.later_same (iMay _ _ _ _ _ _ (HQ.out _) hl)) | (go_at_call 23; exact Calls.later_same (iTagWords _ _ _ _ _ _ (HQ.out _) hl)) | (go_at_call 27; exact Calls.later (iVaultOk _ _ _))))
    refine wpQuiet_nil ?_
    rintro _ ⟨⟨w1, hb1⟩, rfl⟩
    try dsimp only
    obtain ⟨z1a, c1a, f1a, k1a⟩ := bfact hb1 k0
    obtain ⟨z1b, c1b, f1b, k1b⟩ := bfact hb1 k1
    clear q0 q1
    have hc1 := hid (HCW.out.step hb1)
    have hbw1 := hbW.trans (hb1.mono hbW.size)
    first
    | (go_wp2
       go_ret2
       rw [HL.out]
       exact ⟨none, 0, rfl, World.ownsRow_nil _ _ _ _, hbw1⟩)
    | (go_wp2_with fail
       refine (iSealWords _ _ _ _ _ _ hc1.out hl).mono ?_
       rintro e w2 ⟨A2, c2, rfl, ho2, hb2⟩
       have hg := GivesIntsOk.of_seal hbw1 ho2 hb2
       go_wp2
       go_ret2
       rw [HL.out]
       exact ⟨A2, c2, rfl, hg.1, hg.2⟩)
set_option maxHeartbeats 3200000 in
theorem sLoad (k n m : Int) (A : Option Addr) (c : Nat) (xs : List Int) (t : Int) (w : World) (hc : Cells w w.heap.size A (ints xs)) (hl : xs.length ≤ 1000000000) :
    Calls Try.prog 34 #[.agg #[.int .i64 k, .int .i64 n], .agg #[.int .i64 m, .slice A xs.length c, .int .i64 t]] w (GivesIntsOk w (loadL k n m xs t) (loadB k n m xs t)) := by
  have hL : loadL k n m xs t = if loadB k n m xs t then sealL k m xs else [] := rfl
  have HL := hid hL
  clear hL
  have HC := hid hc
  clear hc
  cases h1 : vaultOkB k n; rotate_left
  cases h2 : (n == 0)
  cases h3 : (m != n - 1)
  cases h4 : askB xs; rotate_left
  cases h5 : (t != tagI k m xs)
  all_goals
    try (have hn := inB_iff.1 (show inB n 0 100000 = true by unfold vaultOkB at h1; simp only [Bool.and_eq_true] at h1; exact h1.2))
    have hR : loadB k n m xs t = (vaultOkB k n && !(n == 0) && !(m != n - 1) && askB xs && !(t != tagI k m xs)) := rfl
    try rw [h1] at hR
    try rw [h2] at hR
    try rw [h3] at hR
    try rw [h4] at hR
    try rw [h5] at hR
    simp at hR
    rw [hR] at HL
    rw [hR]
    simp at HL
    clear hR
    try (have h4' : (wordsB xs && decide ((xs.length : Int) ≤ 40)) = _ := h4)
    go_enter Try.func34, Try.ntmps34
    go_wp2_with fail
    apply wp_forget2 (b0 := w.heap.size) (b1 := w.heap.size + 1) (w0 := w) (B := w.heap.size)
    focus (repeat (first | (with_reducible assumption) | (with_reducible apply Blk.drew) | (with_reducible apply Blk.new; first | rfl | (simp; done)) | (with_reducible apply Blk.alloc) | (with_reducible apply Blk.set_) | (with_reducible apply Blk.past; focus assumption) | (with_reducible apply Blk.far; focus (first | (simp; done) | (simp; omega) | (dsimp only; omega)))))
    focus (repeat (first | (with_reducible assumption) | (with_reducible apply Blk.drew) | (with_reducible apply Blk.new; first | rfl | (simp; done)) | (with_reducible apply Blk.alloc) | (with_reducible apply Blk.set_) | (with_reducible apply Blk.past; focus assumption) | (with_reducible apply Blk.far; focus (first | (simp; done) | (simp; omega) | (dsimp only; omega)))))
    focus (repeat (first | (with_reducible exact Below.refl _ _) | (with_reducible refine Below.trans ?_ (Below.mono (by assumption) (by first | omega | (simp; done) | (simp; omega) | (simp [*]; done)))) | (with_reducible refine Below.alloc ?_ (by first | omega | (simp; done) | (simp; omega) | (simp [*]; done)) _) | (with_reducible refine Below.setCell ?_ (by first | omega | (simp; done) | (simp; omega) | (simp [*]; done)) _) | (with_reducible refine Below.drew ?_)))
    intro W1 k0 k1 hbW
    have c0 := k0.cell
    have f0 := k0.frozen
    have z0 := k0.lt
    have c1 := k1.cell
    have f1 := k1.frozen
    have z1 := k1.lt
    have hcW : Cells W1 W1.heap.size A (ints xs) := (HC.out.below hbW).more hbW.size
    have HQ := hid (fun x : Later W1 => hcW.step x.below)
    have HCW := hid hcW
    clear hcW
    have q0 := fun (x : Later W1) (o : Nat) => (k0.below x.below k0.lt).cell o
    have q1 := fun (x : Later W1) (o : Nat) => (k1.below x.below k1.lt).cell o
    refine wp_region_later (by kernel_rfl) (by kernel_rfl) ?_
    repeat (go_big_quiet_step (first | (go_at_call 54; exact Calls.later_same (sWords _ _ _ _ (HQ.out _) hl)) | (go_at_call 55; exact Calls.later_same (sTagWords _ _ _ _ _ _ (HQ.out _) hl)) | (go_at_call 53; exact Calls.later (sVaultOk _ _ _))))
    refine wpQuiet_nil ?_
    rintro _ ⟨⟨w1, hb1⟩, rfl⟩
    try dsimp only
    obtain ⟨z1a, c1a, f1a, k1a⟩ := bfact hb1 k0
    obtain ⟨z1b, c1b, f1b, k1b⟩ := bfact hb1 k1
    clear q0 q1
    have hc1 := hid (HCW.out.step hb1)
    have hbw1 := hbW.trans (hb1.mono hbW.size)
    first
    | (go_wp2
       go_ret2
       rw [HL.out]
       exact ⟨_, 0, rfl, World.ownsRow_lit (size := 1) _ #[] 0 hbw1.size (Nat.zero_le _) rfl, hbw1.alloc hbw1.size _⟩)
    | (go_wp2_with fail
       refine (sSealWords _ _ _ _ _ _ hc1.out hl).mono ?_
       rintro e w2 ⟨A2, c2, rfl, ho2, hb2⟩
       have hg := GivesIntsOk.of_seal hbw1 ho2 hb2
       go_wp2
       go_ret2
       rw [HL.out]
       exact ⟨A2, c2, rfl, hg.1, hg.2⟩)
end Go.Proofs.Ytdfomahaplcgoaa
