/- An act on a schedule, in the program and in the reference. -/
import Derived.Test.YtjknadnknainbaaGreatDoorMem
import Derived.Test.YtjknadnknainbaaGreatDoorRunA
import Derived.Test.YtjknadnknainbaaGreatDoorAdd
import Derived.Test.YtjknadnknainbaaGreatDoorCrash
import Derived.Test.YtjknadnknainbaaGreatDoorActOk
namespace Go.Proofs.YtjknadnknainbaaGreatDoor
open Go.RowKit

noncomputable def doB (S : SV) (k i d n : Int) : Bool := schedOkB S && actOkB k i d n
noncomputable def doS (S : SV) (k i d n : Int) : SV := if doB S k i d n then (if k = 1 then addR S i d n else if k = 2 then runS (runM n) S else if k = 3 then { S with b := pick (resB S.z S.n S.b n) (S.b + n) S.b } else crashS S) else S
noncomputable def doI (S : SV) (k i d n : Int) : Int := if doB S k i d n then (if k = 1 then pick (addB S i d n) 1 0 else if k = 2 then ((runN (runM n) S : Nat) : Int) else if k = 3 then pick (resB S.z S.n S.b n) 1 0 else 0) else -1
theorem lenDo (S : SV) (k i d n : Int) : (doS S k i d n).js.length ≤ S.js.length + 1 ∧ (doS S k i d n).ts.length ≤ S.ts.length + 400 ∧ (doS S k i d n).fs.length ≤ S.fs.length + 400 := by
  have h1 := lenSchedAdd S i d n
  have h2 := lenSchedRun S n
  have h3 := lenSchedCrash S
  unfold doS
  split
  · split
    · omega
    · split
      · omega
      · split
        · exact ⟨Nat.le_add_right _ _, Nat.le_add_right _ _, Nat.le_add_right _ _⟩
        · omega
  · omega
theorem actOk_kind {k i d n : Int} (h : actOkB k i d n = true) : k = 1 ∨ k = 2 ∨ k = 3 ∨ k = 4 := by
  unfold actOkB at h
  split at h
  · omega
  · split at h
    · omega
    · simp only [Bool.and_eq_true, beq_iff_eq] at h
      omega
theorem i_bit (b : Bool) (w : World) : Calls Tryz.prog 68 #[.bool b] w fun e w' => e = .returned (.int .i64 (pick b 1 0)) ∧ w = w' := by
  cases b
  all_goals
    go_enter Tryz.func68, Tryz.ntmps68
    go_wp2
    go_ret
    exact ⟨rfl, rfl⟩
theorem s_bit (b : Bool) (w : World) : Calls Tryz.prog 50 #[.bool b] w fun e w' => e = .returned (.int .i64 (pick b 1 0)) ∧ w = w' := by
  cases b
  all_goals
    go_enter Tryz.func50, Tryz.ntmps50
    go_wp2
    go_ret
    exact ⟨rfl, rfl⟩
set_option maxRecDepth 100000 in
set_option maxHeartbeats 6400000 in
theorem iDoNoS (S : SV) (k i d n : Int) (hs : schedOkB S = false) (J T F : Option Addr) (cj tcp cf : Nat) (w : World) (h : w.ownsRow 0 64 4 (.slice J S.js.length cj) S.js.length (ints (flatJ S.js)) ∧ w.ownsRow 0 88 2 (.slice T S.ts.length tcp) S.ts.length (ints (flatT S.ts)) ∧ w.ownsRow 0 3 1 (.slice F S.fs.length cf) S.fs.length (ints S.fs)) (b1 : S.js.length ≤ 10000000) (b2 : S.ts.length ≤ 10000000) (b3 : S.fs.length ≤ 10000000) :
    Calls Tryz.prog 44 #[.agg #[.int .i64 S.z, .int .i64 S.n, .int .i64 S.b, .slice J S.js.length cj, .slice T S.ts.length tcp, .slice F S.fs.length cf], .agg #[.int .i64 k, .int .i64 i, .int .i64 d, .int .i64 n]] w fun e w' => ∃ J' cj' T' tcp' F' cf', e = .returned (.tuple #[.agg #[.int .i64 S.z, .int .i64 S.n, .int .i64 S.b, .slice J' S.js.length cj', .slice T' S.ts.length tcp', .slice F' S.fs.length cf'], .int .i64 (-1)]) ∧
      w'.ownsRow w.heap.size 64 4 (.slice J' S.js.length cj') S.js.length (ints (flatJ S.js)) ∧ w'.ownsRow w.heap.size 88 2 (.slice T' S.ts.length tcp') S.ts.length (ints (flatT S.ts)) ∧ w'.ownsRow w.heap.size 3 1 (.slice F' S.fs.length cf') S.fs.length (ints S.fs) ∧ Below w.heap.size w w' := by
  have HOK := hid (fun J T F cj ct cf w ho b1 b2 => iSchedOkS S J T F cj ct cf w ho b1 b2)
  rw [hs] at HOK
  clear hs
  obtain ⟨h1, h2, h3⟩ := h
  go_enter Tryz.func44, Tryz.ntmps44
  have b_0 := (Below.refl w.heap.size w)
  have s_0 := b_0.size
  have oj_in := own_in h1
  have oj_0 := h1
  clear h1
  have ot_in := own_in h2
  have ot_0 := h2
  clear h2
  have of__in := own_in h3
  have of__0 := h3
  clear h3
  go_wp2_with fail
  refine calls_forget3 (W := w) (b0 := w.heap.size) (t0 := 40) (c0 := #[.int .i64 S.z, .int .i64 S.n, .int .i64 S.b, .slice J S.js.length cj, .slice T S.ts.length tcp, .slice F S.fs.length cf]) (b1 := w.heap.size + 1) (t1 := 30) (c1 := #[.int .i64 k, .int .i64 i, .int .i64 d, .int .i64 n]) (b2 := w.heap.size + 2) (t2 := 40) (c2 := #[.int .i64 0, .int .i64 0, .int .i64 0, .slice none 0 0, .slice none 0 0, .slice none 0 0]) ?_ ?_ ?_ ?_ ?_
  (focus exact blkcBy)
  (focus exact blkcBy)
  (focus exact blkcBy)
  (focus (exact belBy))
  intro X1 x_n a_n r_n hX1
  have sX1 := hX1.size
  have x_lt := x_n.lt
  have a_lt := a_n.lt
  have r_lt := r_n.lt
  refine (HOK.out _ _ _ _ _ _ _ ⟨own_weak (own_below oj_0 hX1) (Nat.zero_le _), own_weak (own_below ot_0 hX1) (Nat.zero_le _), own_weak (own_below of__0 hX1) (Nat.zero_le _)⟩ (by omega) (by omega)).mono ?_
  rintro e w1 ⟨rfl, hb1⟩
  have s1 := hb1.size
  have hT1 := hX1.trans (hb1.mono sX1)
  have b_1 := b_0.trans (hT1.mono (by omega))
  have oj_1 := own_below oj_0 hT1
  have ot_1 := own_below ot_0 hT1
  have of__1 := own_below of__0 hT1
  have x_1 := Blk.past hb1 x_n
  have a_1 := Blk.past hb1 a_n
  have r_1 := Blk.past hb1 r_n
  clear oj_0 ot_0 of__0 b_0 x_n a_n r_n hX1 hT1 hb1
  have cell_x := x_1.cell
  have froz_x := x_1.frozen
  have lt_x := x_1.lt
  have cell_a := a_1.cell
  have froz_a := a_1.frozen
  have lt_a := a_1.lt
  have cell_r := r_1.cell
  have froz_r := r_1.frozen
  have lt_r := r_1.lt
  go_wp2_with fail
  refine calls_forget0 (W := w1) ?_ ?_
  (focus (exact belBy))
  intro X2 hX2
  have sX2 := hX2.size
  refine (iCopyS S _ _ _ _ _ _ _ ⟨own_weak (own_below oj_1 hX2) (Nat.zero_le _), own_weak (own_below ot_1 hX2) (Nat.zero_le _), own_weak (own_below of__1 hX2) (Nat.zero_le _)⟩ (by omega) (by omega) (by omega)).mono ?_
  rintro e w2 ⟨Nj, nj', Nt, nt', Nf, nf', rfl, nj_2, nt_2, nf_2, hb2⟩
  have s2 := hb2.size
  have hT2 := hX2.trans (hb2.mono sX2)
  have b_2 := b_1.trans (hT2.mono (by omega))
  have oj_2 := own_below oj_1 hT2
  have ot_2 := own_below ot_1 hT2
  have of__2 := own_below of__1 hT2
  have x_2 := Blk.past hT2 x_1
  have a_2 := Blk.past hT2 a_1
  have r_2 := Blk.past hT2 r_1
  have nj_in := own_in nj_2
  have nt_in := own_in nt_2
  have nf_in := own_in nf_2
  clear oj_1 ot_1 of__1 x_1 a_1 r_1 b_1 cell_x froz_x lt_x cell_a froz_a lt_a cell_r froz_r lt_r hX2 hT2 hb2
  have cell_x := x_2.cell
  have froz_x := x_2.frozen
  have lt_x := x_2.lt
  have cell_a := a_2.cell
  have froz_a := a_2.frozen
  have lt_a := a_2.lt
  have cell_r := r_2.cell
  have froz_r := r_2.frozen
  have lt_r := r_2.lt
  have HRJ2 := hid nj_2
  have HRT2 := hid nt_2
  have HRF2 := hid nf_2
  have HB2 := hid b_2
  have hXW : w.heap.size + 3 ≤ X2.heap.size := by omega
  clear nj_2 nt_2 nf_2 b_2
  go_wp2_with fail
  ((try simp only [Exit.inBlock, Exit.then]); apply bodyPost_ret0; focus ((try simp only [results, Tryz.results44]); (try go_simp); (try rfl)))
  refine ⟨Nj, nj', Nt, nt', Nf, nf', rfl, ?_, ?_, ?_, ?_⟩
  · (refine own_weak (base := X2.heap.size) ?_ (by omega); have h := HRJ2.out; exact ownBy)
  · (refine own_weak (base := X2.heap.size) ?_ (by omega); have h := HRT2.out; exact ownBy)
  · (refine own_weak (base := X2.heap.size) ?_ (by omega); have h := HRF2.out; exact ownBy)
  · (have hb := HB2.out; exact belBy)
set_option maxRecDepth 100000 in
set_option maxHeartbeats 6400000 in
theorem iDoNoA (S : SV) (k i d n : Int) (hs : schedOkB S = true) (ha : actOkB k i d n = false) (J T F : Option Addr) (cj tcp cf : Nat) (w : World) (h : w.ownsRow 0 64 4 (.slice J S.js.length cj) S.js.length (ints (flatJ S.js)) ∧ w.ownsRow 0 88 2 (.slice T S.ts.length tcp) S.ts.length (ints (flatT S.ts)) ∧ w.ownsRow 0 3 1 (.slice F S.fs.length cf) S.fs.length (ints S.fs)) (b1 : S.js.length ≤ 10000000) (b2 : S.ts.length ≤ 10000000) (b3 : S.fs.length ≤ 10000000) :
    Calls Tryz.prog 44 #[.agg #[.int .i64 S.z, .int .i64 S.n, .int .i64 S.b, .slice J S.js.length cj, .slice T S.ts.length tcp, .slice F S.fs.length cf], .agg #[.int .i64 k, .int .i64 i, .int .i64 d, .int .i64 n]] w fun e w' => ∃ J' cj' T' tcp' F' cf', e = .returned (.tuple #[.agg #[.int .i64 S.z, .int .i64 S.n, .int .i64 S.b, .slice J' S.js.length cj', .slice T' S.ts.length tcp', .slice F' S.fs.length cf'], .int .i64 (-1)]) ∧
      w'.ownsRow w.heap.size 64 4 (.slice J' S.js.length cj') S.js.length (ints (flatJ S.js)) ∧ w'.ownsRow w.heap.size 88 2 (.slice T' S.ts.length tcp') S.ts.length (ints (flatT S.ts)) ∧ w'.ownsRow w.heap.size 3 1 (.slice F' S.fs.length cf') S.fs.length (ints S.fs) ∧ Below w.heap.size w w' := by
  have HOK := hid (fun J T F cj ct cf w ho b1 b2 => iSchedOkS S J T F cj ct cf w ho b1 b2)
  rw [hs] at HOK
  have HAC := hid (fun w => iActOk k i d n w)
  rw [ha] at HAC
  clear hs ha
  obtain ⟨h1, h2, h3⟩ := h
  go_enter Tryz.func44, Tryz.ntmps44
  have b_0 := (Below.refl w.heap.size w)
  have s_0 := b_0.size
  have oj_in := own_in h1
  have oj_0 := h1
  clear h1
  have ot_in := own_in h2
  have ot_0 := h2
  clear h2
  have of__in := own_in h3
  have of__0 := h3
  clear h3
  go_wp2_with fail
  refine calls_forget3 (W := w) (b0 := w.heap.size) (t0 := 40) (c0 := #[.int .i64 S.z, .int .i64 S.n, .int .i64 S.b, .slice J S.js.length cj, .slice T S.ts.length tcp, .slice F S.fs.length cf]) (b1 := w.heap.size + 1) (t1 := 30) (c1 := #[.int .i64 k, .int .i64 i, .int .i64 d, .int .i64 n]) (b2 := w.heap.size + 2) (t2 := 40) (c2 := #[.int .i64 0, .int .i64 0, .int .i64 0, .slice none 0 0, .slice none 0 0, .slice none 0 0]) ?_ ?_ ?_ ?_ ?_
  (focus exact blkcBy)
  (focus exact blkcBy)
  (focus exact blkcBy)
  (focus (exact belBy))
  intro X1 x_n a_n r_n hX1
  have sX1 := hX1.size
  have x_lt := x_n.lt
  have a_lt := a_n.lt
  have r_lt := r_n.lt
  refine (HOK.out _ _ _ _ _ _ _ ⟨own_weak (own_below oj_0 hX1) (Nat.zero_le _), own_weak (own_below ot_0 hX1) (Nat.zero_le _), own_weak (own_below of__0 hX1) (Nat.zero_le _)⟩ (by omega) (by omega)).mono ?_
  rintro e w1 ⟨rfl, hb1⟩
  have s1 := hb1.size
  have hT1 := hX1.trans (hb1.mono sX1)
  have b_1 := b_0.trans (hT1.mono (by omega))
  have oj_1 := own_below oj_0 hT1
  have ot_1 := own_below ot_0 hT1
  have of__1 := own_below of__0 hT1
  have x_1 := Blk.past hb1 x_n
  have a_1 := Blk.past hb1 a_n
  have r_1 := Blk.past hb1 r_n
  clear oj_0 ot_0 of__0 b_0 x_n a_n r_n hX1 hT1 hb1
  have cell_x := x_1.cell
  have froz_x := x_1.frozen
  have lt_x := x_1.lt
  have cell_a := a_1.cell
  have froz_a := a_1.frozen
  have lt_a := a_1.lt
  have cell_r := r_1.cell
  have froz_r := r_1.frozen
  have lt_r := r_1.lt
  go_wp2_with fail
  refine calls_forget0 (W := w1) ?_ ?_
  (focus (exact belBy))
  intro X2 hX2
  have sX2 := hX2.size
  refine (HAC.out _).mono ?_
  rintro e w2 ⟨rfl, hb2⟩
  have s2 := hb2.size
  have hT2 := hX2.trans (hb2.mono sX2)
  have b_2 := b_1.trans (hT2.mono (by omega))
  have oj_2 := own_below oj_1 hT2
  have ot_2 := own_below ot_1 hT2
  have of__2 := own_below of__1 hT2
  have x_2 := Blk.past hT2 x_1
  have a_2 := Blk.past hT2 a_1
  have r_2 := Blk.past hT2 r_1
  clear oj_1 ot_1 of__1 x_1 a_1 r_1 b_1 cell_x froz_x lt_x cell_a froz_a lt_a cell_r froz_r lt_r hX2 hT2 hb2
  have cell_x := x_2.cell
  have froz_x := x_2.frozen
  have lt_x := x_2.lt
  have cell_a := a_2.cell
  have froz_a := a_2.frozen
  have lt_a := a_2.lt
  have cell_r := r_2.cell
  have froz_r := r_2.frozen
  have lt_r := r_2.lt
  go_wp2_with fail
  refine calls_forget0 (W := w2) ?_ ?_
  (focus (exact belBy))
  intro X3 hX3
  have sX3 := hX3.size
  refine (iCopyS S _ _ _ _ _ _ _ ⟨own_weak (own_below oj_2 hX3) (Nat.zero_le _), own_weak (own_below ot_2 hX3) (Nat.zero_le _), own_weak (own_below of__2 hX3) (Nat.zero_le _)⟩ (by omega) (by omega) (by omega)).mono ?_
  rintro e w3 ⟨Nj, nj', Nt, nt', Nf, nf', rfl, nj_3, nt_3, nf_3, hb3⟩
  have s3 := hb3.size
  have hT3 := hX3.trans (hb3.mono sX3)
  have b_3 := b_2.trans (hT3.mono (by omega))
  have oj_3 := own_below oj_2 hT3
  have ot_3 := own_below ot_2 hT3
  have of__3 := own_below of__2 hT3
  have x_3 := Blk.past hT3 x_2
  have a_3 := Blk.past hT3 a_2
  have r_3 := Blk.past hT3 r_2
  have nj_in := own_in nj_3
  have nt_in := own_in nt_3
  have nf_in := own_in nf_3
  clear oj_2 ot_2 of__2 x_2 a_2 r_2 b_2 cell_x froz_x lt_x cell_a froz_a lt_a cell_r froz_r lt_r hX3 hT3 hb3
  have cell_x := x_3.cell
  have froz_x := x_3.frozen
  have lt_x := x_3.lt
  have cell_a := a_3.cell
  have froz_a := a_3.frozen
  have lt_a := a_3.lt
  have cell_r := r_3.cell
  have froz_r := r_3.frozen
  have lt_r := r_3.lt
  have HRJ2 := hid nj_3
  have HRT2 := hid nt_3
  have HRF2 := hid nf_3
  have HB2 := hid b_3
  have hXW : w.heap.size + 3 ≤ X3.heap.size := by omega
  clear nj_3 nt_3 nf_3 b_3
  go_wp2_with fail
  ((try simp only [Exit.inBlock, Exit.then]); apply bodyPost_ret0; focus ((try simp only [results, Tryz.results44]); (try go_simp); (try rfl)))
  refine ⟨Nj, nj', Nt, nt', Nf, nf', rfl, ?_, ?_, ?_, ?_⟩
  · (refine own_weak (base := X3.heap.size) ?_ (by omega); have h := HRJ2.out; exact ownBy)
  · (refine own_weak (base := X3.heap.size) ?_ (by omega); have h := HRT2.out; exact ownBy)
  · (refine own_weak (base := X3.heap.size) ?_ (by omega); have h := HRF2.out; exact ownBy)
  · (have hb := HB2.out; exact belBy)
set_option maxRecDepth 100000 in
set_option maxHeartbeats 6400000 in
theorem iDo1 (S : SV) (i d n : Int) (hs : schedOkB S = true) (ha : actOkB 1 i d n = true) (J T F : Option Addr) (cj tcp cf : Nat) (w : World) (h : w.ownsRow 0 64 4 (.slice J S.js.length cj) S.js.length (ints (flatJ S.js)) ∧ w.ownsRow 0 88 2 (.slice T S.ts.length tcp) S.ts.length (ints (flatT S.ts)) ∧ w.ownsRow 0 3 1 (.slice F S.fs.length cf) S.fs.length (ints S.fs)) (b1 : S.js.length ≤ 10000000) (b2 : S.ts.length ≤ 10000000) (b3 : S.fs.length ≤ 10000000) :
    Calls Tryz.prog 44 #[.agg #[.int .i64 S.z, .int .i64 S.n, .int .i64 S.b, .slice J S.js.length cj, .slice T S.ts.length tcp, .slice F S.fs.length cf], .agg #[.int .i64 1, .int .i64 i, .int .i64 d, .int .i64 n]] w fun e w' => ∃ J' cj' T' tcp' F' cf', e = .returned (.tuple #[.agg #[.int .i64 ((addR S i d n).z), .int .i64 ((addR S i d n).n), .int .i64 ((addR S i d n).b), .slice J' ((addR S i d n).js.length) cj', .slice T' ((addR S i d n).ts.length) tcp', .slice F' ((addR S i d n).fs.length) cf'], .int .i64 (pick (addB S i d n) 1 0)]) ∧
      w'.ownsRow w.heap.size 64 4 (.slice J' ((addR S i d n).js).length cj') ((addR S i d n).js).length (ints (flatJ ((addR S i d n).js))) ∧ w'.ownsRow w.heap.size 88 2 (.slice T' ((addR S i d n).ts).length tcp') ((addR S i d n).ts).length (ints (flatT ((addR S i d n).ts))) ∧ w'.ownsRow w.heap.size 3 1 (.slice F' ((addR S i d n).fs).length cf') ((addR S i d n).fs).length (ints ((addR S i d n).fs)) ∧ Below w.heap.size w w' := by
  have HOK := hid (fun J T F cj ct cf w ho b1 b2 => iSchedOkS S J T F cj ct cf w ho b1 b2)
  rw [hs] at HOK
  have HAC := hid (fun w => iActOk 1 i d n w)
  rw [ha] at HAC
  clear hs ha
  have HCN := hid (fun J T F cj ct cf w h => iSchedAddL S i d n J T F cj ct cf w h (by omega) (by omega) (by omega))
  obtain ⟨R, hR⟩ : ∃ R, addR S i d n = R := ⟨_, rfl⟩
  rw [hR] at HCN ⊢
  clear hR
  obtain ⟨cnt, hcnt⟩ : ∃ x, addB S i d n = x := ⟨_, rfl⟩
  rw [hcnt] at HCN ⊢
  clear hcnt
  obtain ⟨h1, h2, h3⟩ := h
  go_enter Tryz.func44, Tryz.ntmps44
  have b_0 := (Below.refl w.heap.size w)
  have s_0 := b_0.size
  have oj_in := own_in h1
  have oj_0 := h1
  clear h1
  have ot_in := own_in h2
  have ot_0 := h2
  clear h2
  have of__in := own_in h3
  have of__0 := h3
  clear h3
  go_wp2_with fail
  refine calls_forget3 (W := w) (b0 := w.heap.size) (t0 := 40) (c0 := #[.int .i64 S.z, .int .i64 S.n, .int .i64 S.b, .slice J S.js.length cj, .slice T S.ts.length tcp, .slice F S.fs.length cf]) (b1 := w.heap.size + 1) (t1 := 30) (c1 := #[.int .i64 1, .int .i64 i, .int .i64 d, .int .i64 n]) (b2 := w.heap.size + 2) (t2 := 40) (c2 := #[.int .i64 0, .int .i64 0, .int .i64 0, .slice none 0 0, .slice none 0 0, .slice none 0 0]) ?_ ?_ ?_ ?_ ?_
  (focus exact blkcBy)
  (focus exact blkcBy)
  (focus exact blkcBy)
  (focus (exact belBy))
  intro X1 x_n a_n r_n hX1
  have sX1 := hX1.size
  have x_lt := x_n.lt
  have a_lt := a_n.lt
  have r_lt := r_n.lt
  refine (HOK.out _ _ _ _ _ _ _ ⟨own_weak (own_below oj_0 hX1) (Nat.zero_le _), own_weak (own_below ot_0 hX1) (Nat.zero_le _), own_weak (own_below of__0 hX1) (Nat.zero_le _)⟩ (by omega) (by omega)).mono ?_
  rintro e w1 ⟨rfl, hb1⟩
  have s1 := hb1.size
  have hT1 := hX1.trans (hb1.mono sX1)
  have b_1 := b_0.trans (hT1.mono (by omega))
  have oj_1 := own_below oj_0 hT1
  have ot_1 := own_below ot_0 hT1
  have of__1 := own_below of__0 hT1
  have x_1 := Blk.past hb1 x_n
  have a_1 := Blk.past hb1 a_n
  have r_1 := Blk.past hb1 r_n
  clear oj_0 ot_0 of__0 b_0 x_n a_n r_n hX1 hT1 hb1
  have cell_x := x_1.cell
  have froz_x := x_1.frozen
  have lt_x := x_1.lt
  have cell_a := a_1.cell
  have froz_a := a_1.frozen
  have lt_a := a_1.lt
  have cell_r := r_1.cell
  have froz_r := r_1.frozen
  have lt_r := r_1.lt
  go_wp2_with fail
  refine calls_forget0 (W := w1) ?_ ?_
  (focus (exact belBy))
  intro X2 hX2
  have sX2 := hX2.size
  refine (HAC.out _).mono ?_
  rintro e w2 ⟨rfl, hb2⟩
  have s2 := hb2.size
  have hT2 := hX2.trans (hb2.mono sX2)
  have b_2 := b_1.trans (hT2.mono (by omega))
  have oj_2 := own_below oj_1 hT2
  have ot_2 := own_below ot_1 hT2
  have of__2 := own_below of__1 hT2
  have x_2 := Blk.past hT2 x_1
  have a_2 := Blk.past hT2 a_1
  have r_2 := Blk.past hT2 r_1
  clear oj_1 ot_1 of__1 x_1 a_1 r_1 b_1 cell_x froz_x lt_x cell_a froz_a lt_a cell_r froz_r lt_r hX2 hT2 hb2
  have cell_x := x_2.cell
  have froz_x := x_2.frozen
  have lt_x := x_2.lt
  have cell_a := a_2.cell
  have froz_a := a_2.frozen
  have lt_a := a_2.lt
  have cell_r := r_2.cell
  have froz_r := r_2.frozen
  have lt_r := r_2.lt
  go_wp2_with fail
  refine calls_forget0 (W := w2) ?_ ?_
  (focus (exact belBy))
  intro X3 hX3
  have sX3 := hX3.size
  refine (HCN.out _ _ _ _ _ _ _ ⟨own_weak (own_below oj_2 hX3) (Nat.zero_le _), own_weak (own_below ot_2 hX3) (Nat.zero_le _), own_weak (own_below of__2 hX3) (Nat.zero_le _)⟩).mono ?_
  rintro e w3 ⟨Nj, nj', Nt, nt', Nf, nf', rfl, nj_3, nt_3, nf_3, hb3⟩
  have s3 := hb3.size
  have hT3 := hX3.trans (hb3.mono sX3)
  have b_3 := b_2.trans (hT3.mono (by omega))
  have oj_3 := own_below oj_2 hT3
  have ot_3 := own_below ot_2 hT3
  have of__3 := own_below of__2 hT3
  have x_3 := Blk.past hT3 x_2
  have a_3 := Blk.past hT3 a_2
  have r_3 := Blk.past hT3 r_2
  have nj_in := own_in nj_3
  have nt_in := own_in nt_3
  have nf_in := own_in nf_3
  clear oj_2 ot_2 of__2 x_2 a_2 r_2 b_2 cell_x froz_x lt_x cell_a froz_a lt_a cell_r froz_r lt_r hX3 hT3 hb3
  have cell_x := x_3.cell
  have froz_x := x_3.frozen
  have lt_x := x_3.lt
  have cell_a := a_3.cell
  have froz_a := a_3.frozen
  have lt_a := a_3.lt
  have cell_r := r_3.cell
  have froz_r := r_3.frozen
  have lt_r := r_3.lt
  go_upto_region 6 with fail
  refine wp_forget1 (w0 := w3) (B := w3.heap.size) (b0 := w3.heap.size) (t0 := 40) (c0 := #[.int .i64 R.z, .int .i64 R.n, .int .i64 R.b, .slice Nj R.js.length nj', .slice Nt R.ts.length nt', .slice Nf R.fs.length nf']) ?_ ?_ ?_
  (focus exact blkcBy)
  (focus (exact belBy))
  intro w4 y_4 hX4
  have sX4 := hX4.size
  have y_lt := y_4.lt
  have b_4 := b_3.trans (hX4.mono (by omega))
  have oj_4 := own_below oj_3 hX4
  have ot_4 := own_below ot_3 hX4
  have of__4 := own_below of__3 hX4
  have nj_4 := own_below nj_3 hX4
  have nt_4 := own_below nt_3 hX4
  have nf_4 := own_below nf_3 hX4
  have x_4 := Blk.past hX4 x_3
  have a_4 := Blk.past hX4 a_3
  have r_4 := Blk.past hX4 r_3
  clear oj_3 ot_3 of__3 nj_3 nt_3 nf_3 x_3 a_3 r_3 b_3 cell_x froz_x lt_x cell_a froz_a lt_a cell_r froz_r lt_r hX4
  have cell_x := x_4.cell
  have froz_x := x_4.frozen
  have lt_x := x_4.lt
  have cell_a := a_4.cell
  have froz_a := a_4.frozen
  have lt_a := a_4.lt
  have cell_r := r_4.cell
  have froz_r := r_4.frozen
  have lt_r := r_4.lt
  have cell_y := y_4.cell
  have froz_y := y_4.frozen
  have lt_y := y_4.lt
  go_wp2_with fail
  go_region_with (first | (go_at_call 68; refine (i_bit _ _).mono ?_; rintro e w' ⟨rfl, rfl⟩))
  all_goals
    have HRJ2 := hid nj_4
    have HRT2 := hid nt_4
    have HRF2 := hid nf_4
    have HB2 := hid b_4
    have hXW : w.heap.size + 3 ≤ X3.heap.size := by omega
    clear nj_4 nt_4 nf_4 b_4
    go_wp2_with fail
    ((try simp only [Exit.inBlock, Exit.then]); apply bodyPost_ret0; focus ((try simp only [results, Tryz.results44]); (try go_simp); (try rfl)))
    refine ⟨Nj, nj', Nt, nt', Nf, nf', rfl, ?_, ?_, ?_, ?_⟩
    · (refine own_weak (base := X3.heap.size) ?_ (by omega); have h := HRJ2.out; exact ownBy)
    · (refine own_weak (base := X3.heap.size) ?_ (by omega); have h := HRT2.out; exact ownBy)
    · (refine own_weak (base := X3.heap.size) ?_ (by omega); have h := HRF2.out; exact ownBy)
    · (have hb := HB2.out; exact belBy)
set_option maxRecDepth 100000 in
set_option maxHeartbeats 6400000 in
theorem iDo2 (S : SV) (i d n : Int) (hs : schedOkB S = true) (ha : actOkB 2 i d n = true) (J T F : Option Addr) (cj tcp cf : Nat) (w : World) (h : w.ownsRow 0 64 4 (.slice J S.js.length cj) S.js.length (ints (flatJ S.js)) ∧ w.ownsRow 0 88 2 (.slice T S.ts.length tcp) S.ts.length (ints (flatT S.ts)) ∧ w.ownsRow 0 3 1 (.slice F S.fs.length cf) S.fs.length (ints S.fs)) (b1 : S.js.length ≤ 10000000) (b2 : S.ts.length ≤ 10000000) (b3 : S.fs.length ≤ 10000000) :
    Calls Tryz.prog 44 #[.agg #[.int .i64 S.z, .int .i64 S.n, .int .i64 S.b, .slice J S.js.length cj, .slice T S.ts.length tcp, .slice F S.fs.length cf], .agg #[.int .i64 2, .int .i64 i, .int .i64 d, .int .i64 n]] w fun e w' => ∃ J' cj' T' tcp' F' cf', e = .returned (.tuple #[.agg #[.int .i64 ((runS (runM n) S).z), .int .i64 ((runS (runM n) S).n), .int .i64 ((runS (runM n) S).b), .slice J' ((runS (runM n) S).js.length) cj', .slice T' ((runS (runM n) S).ts.length) tcp', .slice F' ((runS (runM n) S).fs.length) cf'], .int .i64 ((runN (runM n) S : Nat) : Int)]) ∧
      w'.ownsRow w.heap.size 64 4 (.slice J' ((runS (runM n) S).js).length cj') ((runS (runM n) S).js).length (ints (flatJ ((runS (runM n) S).js))) ∧ w'.ownsRow w.heap.size 88 2 (.slice T' ((runS (runM n) S).ts).length tcp') ((runS (runM n) S).ts).length (ints (flatT ((runS (runM n) S).ts))) ∧ w'.ownsRow w.heap.size 3 1 (.slice F' ((runS (runM n) S).fs).length cf') ((runS (runM n) S).fs).length (ints ((runS (runM n) S).fs)) ∧ Below w.heap.size w w' := by
  have HOK := hid (fun J T F cj ct cf w ho b1 b2 => iSchedOkS S J T F cj ct cf w ho b1 b2)
  rw [hs] at HOK
  have HAC := hid (fun w => iActOk 2 i d n w)
  rw [ha] at HAC
  clear hs ha
  have HCN := hid (fun J T F cj ct cf w h => iSchedRunL S n J T F cj ct cf w h (by omega) (by omega) (by omega))
  obtain ⟨R, hR⟩ : ∃ R, runS (runM n) S = R := ⟨_, rfl⟩
  rw [hR] at HCN ⊢
  clear hR
  obtain ⟨cnt, hcnt⟩ : ∃ x, ((runN (runM n) S : Nat) : Int) = x := ⟨_, rfl⟩
  rw [hcnt] at HCN ⊢
  clear hcnt
  obtain ⟨h1, h2, h3⟩ := h
  go_enter Tryz.func44, Tryz.ntmps44
  have b_0 := (Below.refl w.heap.size w)
  have s_0 := b_0.size
  have oj_in := own_in h1
  have oj_0 := h1
  clear h1
  have ot_in := own_in h2
  have ot_0 := h2
  clear h2
  have of__in := own_in h3
  have of__0 := h3
  clear h3
  go_wp2_with fail
  refine calls_forget3 (W := w) (b0 := w.heap.size) (t0 := 40) (c0 := #[.int .i64 S.z, .int .i64 S.n, .int .i64 S.b, .slice J S.js.length cj, .slice T S.ts.length tcp, .slice F S.fs.length cf]) (b1 := w.heap.size + 1) (t1 := 30) (c1 := #[.int .i64 2, .int .i64 i, .int .i64 d, .int .i64 n]) (b2 := w.heap.size + 2) (t2 := 40) (c2 := #[.int .i64 0, .int .i64 0, .int .i64 0, .slice none 0 0, .slice none 0 0, .slice none 0 0]) ?_ ?_ ?_ ?_ ?_
  (focus exact blkcBy)
  (focus exact blkcBy)
  (focus exact blkcBy)
  (focus (exact belBy))
  intro X1 x_n a_n r_n hX1
  have sX1 := hX1.size
  have x_lt := x_n.lt
  have a_lt := a_n.lt
  have r_lt := r_n.lt
  refine (HOK.out _ _ _ _ _ _ _ ⟨own_weak (own_below oj_0 hX1) (Nat.zero_le _), own_weak (own_below ot_0 hX1) (Nat.zero_le _), own_weak (own_below of__0 hX1) (Nat.zero_le _)⟩ (by omega) (by omega)).mono ?_
  rintro e w1 ⟨rfl, hb1⟩
  have s1 := hb1.size
  have hT1 := hX1.trans (hb1.mono sX1)
  have b_1 := b_0.trans (hT1.mono (by omega))
  have oj_1 := own_below oj_0 hT1
  have ot_1 := own_below ot_0 hT1
  have of__1 := own_below of__0 hT1
  have x_1 := Blk.past hb1 x_n
  have a_1 := Blk.past hb1 a_n
  have r_1 := Blk.past hb1 r_n
  clear oj_0 ot_0 of__0 b_0 x_n a_n r_n hX1 hT1 hb1
  have cell_x := x_1.cell
  have froz_x := x_1.frozen
  have lt_x := x_1.lt
  have cell_a := a_1.cell
  have froz_a := a_1.frozen
  have lt_a := a_1.lt
  have cell_r := r_1.cell
  have froz_r := r_1.frozen
  have lt_r := r_1.lt
  go_wp2_with fail
  refine calls_forget0 (W := w1) ?_ ?_
  (focus (exact belBy))
  intro X2 hX2
  have sX2 := hX2.size
  refine (HAC.out _).mono ?_
  rintro e w2 ⟨rfl, hb2⟩
  have s2 := hb2.size
  have hT2 := hX2.trans (hb2.mono sX2)
  have b_2 := b_1.trans (hT2.mono (by omega))
  have oj_2 := own_below oj_1 hT2
  have ot_2 := own_below ot_1 hT2
  have of__2 := own_below of__1 hT2
  have x_2 := Blk.past hT2 x_1
  have a_2 := Blk.past hT2 a_1
  have r_2 := Blk.past hT2 r_1
  clear oj_1 ot_1 of__1 x_1 a_1 r_1 b_1 cell_x froz_x lt_x cell_a froz_a lt_a cell_r froz_r lt_r hX2 hT2 hb2
  have cell_x := x_2.cell
  have froz_x := x_2.frozen
  have lt_x := x_2.lt
  have cell_a := a_2.cell
  have froz_a := a_2.frozen
  have lt_a := a_2.lt
  have cell_r := r_2.cell
  have froz_r := r_2.frozen
  have lt_r := r_2.lt
  go_wp2_with fail
  refine calls_forget0 (W := w2) ?_ ?_
  (focus (exact belBy))
  intro X3 hX3
  have sX3 := hX3.size
  refine (HCN.out _ _ _ _ _ _ _ ⟨own_weak (own_below oj_2 hX3) (Nat.zero_le _), own_weak (own_below ot_2 hX3) (Nat.zero_le _), own_weak (own_below of__2 hX3) (Nat.zero_le _)⟩).mono ?_
  rintro e w3 ⟨Nj, nj', Nt, nt', Nf, nf', rfl, nj_3, nt_3, nf_3, hb3⟩
  have s3 := hb3.size
  have hT3 := hX3.trans (hb3.mono sX3)
  have b_3 := b_2.trans (hT3.mono (by omega))
  have oj_3 := own_below oj_2 hT3
  have ot_3 := own_below ot_2 hT3
  have of__3 := own_below of__2 hT3
  have x_3 := Blk.past hT3 x_2
  have a_3 := Blk.past hT3 a_2
  have r_3 := Blk.past hT3 r_2
  have nj_in := own_in nj_3
  have nt_in := own_in nt_3
  have nf_in := own_in nf_3
  clear oj_2 ot_2 of__2 x_2 a_2 r_2 b_2 cell_x froz_x lt_x cell_a froz_a lt_a cell_r froz_r lt_r hX3 hT3 hb3
  have cell_x := x_3.cell
  have froz_x := x_3.frozen
  have lt_x := x_3.lt
  have cell_a := a_3.cell
  have froz_a := a_3.frozen
  have lt_a := a_3.lt
  have cell_r := r_3.cell
  have froz_r := r_3.frozen
  have lt_r := r_3.lt
  go_upto_region 9 with fail
  refine wp_forget1 (w0 := w3) (B := w3.heap.size) (b0 := w3.heap.size) (t0 := 40) (c0 := #[.int .i64 R.z, .int .i64 R.n, .int .i64 R.b, .slice Nj R.js.length nj', .slice Nt R.ts.length nt', .slice Nf R.fs.length nf']) ?_ ?_ ?_
  (focus exact blkcBy)
  (focus (exact belBy))
  intro w4 y_4 hX4
  have sX4 := hX4.size
  have y_lt := y_4.lt
  have b_4 := b_3.trans (hX4.mono (by omega))
  have oj_4 := own_below oj_3 hX4
  have ot_4 := own_below ot_3 hX4
  have of__4 := own_below of__3 hX4
  have nj_4 := own_below nj_3 hX4
  have nt_4 := own_below nt_3 hX4
  have nf_4 := own_below nf_3 hX4
  have x_4 := Blk.past hX4 x_3
  have a_4 := Blk.past hX4 a_3
  have r_4 := Blk.past hX4 r_3
  clear oj_3 ot_3 of__3 nj_3 nt_3 nf_3 x_3 a_3 r_3 b_3 cell_x froz_x lt_x cell_a froz_a lt_a cell_r froz_r lt_r hX4
  have cell_x := x_4.cell
  have froz_x := x_4.frozen
  have lt_x := x_4.lt
  have cell_a := a_4.cell
  have froz_a := a_4.frozen
  have lt_a := a_4.lt
  have cell_r := r_4.cell
  have froz_r := r_4.frozen
  have lt_r := r_4.lt
  have cell_y := y_4.cell
  have froz_y := y_4.frozen
  have lt_y := y_4.lt
  have HRJ2 := hid nj_4
  have HRT2 := hid nt_4
  have HRF2 := hid nf_4
  have HB2 := hid b_4
  have hXW : w.heap.size + 3 ≤ X3.heap.size := by omega
  clear nj_4 nt_4 nf_4 b_4
  go_wp2_with fail
  ((try simp only [Exit.inBlock, Exit.then]); apply bodyPost_ret0; focus ((try simp only [results, Tryz.results44]); (try go_simp); (try rfl)))
  refine ⟨Nj, nj', Nt, nt', Nf, nf', rfl, ?_, ?_, ?_, ?_⟩
  · (refine own_weak (base := X3.heap.size) ?_ (by omega); have h := HRJ2.out; exact ownBy)
  · (refine own_weak (base := X3.heap.size) ?_ (by omega); have h := HRT2.out; exact ownBy)
  · (refine own_weak (base := X3.heap.size) ?_ (by omega); have h := HRF2.out; exact ownBy)
  · (have hb := HB2.out; exact belBy)
set_option maxRecDepth 100000 in
set_option maxHeartbeats 6400000 in
theorem iDo4 (S : SV) (i d n : Int) (hs : schedOkB S = true) (ha : actOkB 4 i d n = true) (J T F : Option Addr) (cj tcp cf : Nat) (w : World) (h : w.ownsRow 0 64 4 (.slice J S.js.length cj) S.js.length (ints (flatJ S.js)) ∧ w.ownsRow 0 88 2 (.slice T S.ts.length tcp) S.ts.length (ints (flatT S.ts)) ∧ w.ownsRow 0 3 1 (.slice F S.fs.length cf) S.fs.length (ints S.fs)) (b1 : S.js.length ≤ 10000000) (b2 : S.ts.length ≤ 10000000) (b3 : S.fs.length ≤ 10000000) :
    Calls Tryz.prog 44 #[.agg #[.int .i64 S.z, .int .i64 S.n, .int .i64 S.b, .slice J S.js.length cj, .slice T S.ts.length tcp, .slice F S.fs.length cf], .agg #[.int .i64 4, .int .i64 i, .int .i64 d, .int .i64 n]] w fun e w' => ∃ J' cj' T' tcp' F' cf', e = .returned (.tuple #[.agg #[.int .i64 ((crashS S).z), .int .i64 ((crashS S).n), .int .i64 ((crashS S).b), .slice J' ((crashS S).js.length) cj', .slice T' ((crashS S).ts.length) tcp', .slice F' ((crashS S).fs.length) cf'], .int .i64 0]) ∧
      w'.ownsRow w.heap.size 64 4 (.slice J' ((crashS S).js).length cj') ((crashS S).js).length (ints (flatJ ((crashS S).js))) ∧ w'.ownsRow w.heap.size 88 2 (.slice T' ((crashS S).ts).length tcp') ((crashS S).ts).length (ints (flatT ((crashS S).ts))) ∧ w'.ownsRow w.heap.size 3 1 (.slice F' ((crashS S).fs).length cf') ((crashS S).fs).length (ints ((crashS S).fs)) ∧ Below w.heap.size w w' := by
  have HOK := hid (fun J T F cj ct cf w ho b1 b2 => iSchedOkS S J T F cj ct cf w ho b1 b2)
  rw [hs] at HOK
  have HAC := hid (fun w => iActOk 4 i d n w)
  rw [ha] at HAC
  clear hs ha
  have HCN := hid (fun J T F cj ct cf w h => iSchedCrashL S J T F cj ct cf w h (by omega) (by omega) (by omega))
  obtain ⟨R, hR⟩ : ∃ R, crashS S = R := ⟨_, rfl⟩
  rw [hR] at HCN ⊢
  clear hR
  obtain ⟨h1, h2, h3⟩ := h
  go_enter Tryz.func44, Tryz.ntmps44
  have b_0 := (Below.refl w.heap.size w)
  have s_0 := b_0.size
  have oj_in := own_in h1
  have oj_0 := h1
  clear h1
  have ot_in := own_in h2
  have ot_0 := h2
  clear h2
  have of__in := own_in h3
  have of__0 := h3
  clear h3
  go_wp2_with fail
  refine calls_forget3 (W := w) (b0 := w.heap.size) (t0 := 40) (c0 := #[.int .i64 S.z, .int .i64 S.n, .int .i64 S.b, .slice J S.js.length cj, .slice T S.ts.length tcp, .slice F S.fs.length cf]) (b1 := w.heap.size + 1) (t1 := 30) (c1 := #[.int .i64 4, .int .i64 i, .int .i64 d, .int .i64 n]) (b2 := w.heap.size + 2) (t2 := 40) (c2 := #[.int .i64 0, .int .i64 0, .int .i64 0, .slice none 0 0, .slice none 0 0, .slice none 0 0]) ?_ ?_ ?_ ?_ ?_
  (focus exact blkcBy)
  (focus exact blkcBy)
  (focus exact blkcBy)
  (focus (exact belBy))
  intro X1 x_n a_n r_n hX1
  have sX1 := hX1.size
  have x_lt := x_n.lt
  have a_lt := a_n.lt
  have r_lt := r_n.lt
  refine (HOK.out _ _ _ _ _ _ _ ⟨own_weak (own_below oj_0 hX1) (Nat.zero_le _), own_weak (own_below ot_0 hX1) (Nat.zero_le _), own_weak (own_below of__0 hX1) (Nat.zero_le _)⟩ (by omega) (by omega)).mono ?_
  rintro e w1 ⟨rfl, hb1⟩
  have s1 := hb1.size
  have hT1 := hX1.trans (hb1.mono sX1)
  have b_1 := b_0.trans (hT1.mono (by omega))
  have oj_1 := own_below oj_0 hT1
  have ot_1 := own_below ot_0 hT1
  have of__1 := own_below of__0 hT1
  have x_1 := Blk.past hb1 x_n
  have a_1 := Blk.past hb1 a_n
  have r_1 := Blk.past hb1 r_n
  clear oj_0 ot_0 of__0 b_0 x_n a_n r_n hX1 hT1 hb1
  have cell_x := x_1.cell
  have froz_x := x_1.frozen
  have lt_x := x_1.lt
  have cell_a := a_1.cell
  have froz_a := a_1.frozen
  have lt_a := a_1.lt
  have cell_r := r_1.cell
  have froz_r := r_1.frozen
  have lt_r := r_1.lt
  go_wp2_with fail
  refine calls_forget0 (W := w1) ?_ ?_
  (focus (exact belBy))
  intro X2 hX2
  have sX2 := hX2.size
  refine (HAC.out _).mono ?_
  rintro e w2 ⟨rfl, hb2⟩
  have s2 := hb2.size
  have hT2 := hX2.trans (hb2.mono sX2)
  have b_2 := b_1.trans (hT2.mono (by omega))
  have oj_2 := own_below oj_1 hT2
  have ot_2 := own_below ot_1 hT2
  have of__2 := own_below of__1 hT2
  have x_2 := Blk.past hT2 x_1
  have a_2 := Blk.past hT2 a_1
  have r_2 := Blk.past hT2 r_1
  clear oj_1 ot_1 of__1 x_1 a_1 r_1 b_1 cell_x froz_x lt_x cell_a froz_a lt_a cell_r froz_r lt_r hX2 hT2 hb2
  have cell_x := x_2.cell
  have froz_x := x_2.frozen
  have lt_x := x_2.lt
  have cell_a := a_2.cell
  have froz_a := a_2.frozen
  have lt_a := a_2.lt
  have cell_r := r_2.cell
  have froz_r := r_2.frozen
  have lt_r := r_2.lt
  go_wp2_with fail
  refine calls_forget0 (W := w2) ?_ ?_
  (focus (exact belBy))
  intro X3 hX3
  have sX3 := hX3.size
  refine (HCN.out _ _ _ _ _ _ _ ⟨own_weak (own_below oj_2 hX3) (Nat.zero_le _), own_weak (own_below ot_2 hX3) (Nat.zero_le _), own_weak (own_below of__2 hX3) (Nat.zero_le _)⟩).mono ?_
  rintro e w3 ⟨Nj, nj', Nt, nt', Nf, nf', rfl, nj_3, nt_3, nf_3, hb3⟩
  have s3 := hb3.size
  have hT3 := hX3.trans (hb3.mono sX3)
  have b_3 := b_2.trans (hT3.mono (by omega))
  have oj_3 := own_below oj_2 hT3
  have ot_3 := own_below ot_2 hT3
  have of__3 := own_below of__2 hT3
  have x_3 := Blk.past hT3 x_2
  have a_3 := Blk.past hT3 a_2
  have r_3 := Blk.past hT3 r_2
  have nj_in := own_in nj_3
  have nt_in := own_in nt_3
  have nf_in := own_in nf_3
  clear oj_2 ot_2 of__2 x_2 a_2 r_2 b_2 cell_x froz_x lt_x cell_a froz_a lt_a cell_r froz_r lt_r hX3 hT3 hb3
  have cell_x := x_3.cell
  have froz_x := x_3.frozen
  have lt_x := x_3.lt
  have cell_a := a_3.cell
  have froz_a := a_3.frozen
  have lt_a := a_3.lt
  have cell_r := r_3.cell
  have froz_r := r_3.frozen
  have lt_r := r_3.lt
  have HRJ2 := hid nj_3
  have HRT2 := hid nt_3
  have HRF2 := hid nf_3
  have HB2 := hid b_3
  have hXW : w.heap.size + 3 ≤ X3.heap.size := by omega
  clear nj_3 nt_3 nf_3 b_3
  go_wp2_with fail
  ((try simp only [Exit.inBlock, Exit.then]); apply bodyPost_ret0; focus ((try simp only [results, Tryz.results44]); (try go_simp); (try rfl)))
  refine ⟨Nj, nj', Nt, nt', Nf, nf', rfl, ?_, ?_, ?_, ?_⟩
  · (refine own_weak (base := X3.heap.size) ?_ (by omega); have h := HRJ2.out; exact ownBy)
  · (refine own_weak (base := X3.heap.size) ?_ (by omega); have h := HRT2.out; exact ownBy)
  · (refine own_weak (base := X3.heap.size) ?_ (by omega); have h := HRF2.out; exact ownBy)
  · (have hb := HB2.out; exact belBy)
set_option maxRecDepth 100000 in
set_option maxHeartbeats 6400000 in
theorem iDo3 (S : SV) (i d n : Int) (hs : schedOkB S = true) (ha : actOkB 3 i d n = true) (J T F : Option Addr) (cj tcp cf : Nat) (w : World) (h : w.ownsRow 0 64 4 (.slice J S.js.length cj) S.js.length (ints (flatJ S.js)) ∧ w.ownsRow 0 88 2 (.slice T S.ts.length tcp) S.ts.length (ints (flatT S.ts)) ∧ w.ownsRow 0 3 1 (.slice F S.fs.length cf) S.fs.length (ints S.fs)) (b1 : S.js.length ≤ 10000000) (b2 : S.ts.length ≤ 10000000) (b3 : S.fs.length ≤ 10000000) :
    Calls Tryz.prog 44 #[.agg #[.int .i64 S.z, .int .i64 S.n, .int .i64 S.b, .slice J S.js.length cj, .slice T S.ts.length tcp, .slice F S.fs.length cf], .agg #[.int .i64 3, .int .i64 i, .int .i64 d, .int .i64 n]] w fun e w' => ∃ J' cj' T' tcp' F' cf', e = .returned (.tuple #[.agg #[.int .i64 S.z, .int .i64 S.n, .int .i64 ((pick (resB S.z S.n S.b n) (S.b + n) S.b)), .slice J' S.js.length cj', .slice T' S.ts.length tcp', .slice F' S.fs.length cf'], .int .i64 (pick (resB S.z S.n S.b n) 1 0)]) ∧
      w'.ownsRow w.heap.size 64 4 (.slice J' S.js.length cj') S.js.length (ints (flatJ S.js)) ∧ w'.ownsRow w.heap.size 88 2 (.slice T' S.ts.length tcp') S.ts.length (ints (flatT S.ts)) ∧ w'.ownsRow w.heap.size 3 1 (.slice F' S.fs.length cf') S.fs.length (ints S.fs) ∧ Below w.heap.size w w' := by
  have HOK := hid (fun J T F cj ct cf w ho b1 b2 => iSchedOkS S J T F cj ct cf w ho b1 b2)
  rw [hs] at HOK
  have HAC := hid (fun w => iActOk 3 i d n w)
  rw [ha] at HAC
  clear hs ha
  obtain ⟨pb, hpb⟩ : ∃ pb, pick (resB S.z S.n S.b n) (S.b + n) S.b = pb := ⟨_, rfl⟩
  have HPR := hid (fun w => iPoolReserve S.z S.n S.b n w)
  rw [hpb] at HPR ⊢
  clear hpb
  obtain ⟨h1, h2, h3⟩ := h
  go_enter Tryz.func44, Tryz.ntmps44
  have b_0 := (Below.refl w.heap.size w)
  have s_0 := b_0.size
  have oj_in := own_in h1
  have oj_0 := h1
  clear h1
  have ot_in := own_in h2
  have ot_0 := h2
  clear h2
  have of__in := own_in h3
  have of__0 := h3
  clear h3
  go_wp2_with fail
  refine calls_forget3 (W := w) (b0 := w.heap.size) (t0 := 40) (c0 := #[.int .i64 S.z, .int .i64 S.n, .int .i64 S.b, .slice J S.js.length cj, .slice T S.ts.length tcp, .slice F S.fs.length cf]) (b1 := w.heap.size + 1) (t1 := 30) (c1 := #[.int .i64 3, .int .i64 i, .int .i64 d, .int .i64 n]) (b2 := w.heap.size + 2) (t2 := 40) (c2 := #[.int .i64 0, .int .i64 0, .int .i64 0, .slice none 0 0, .slice none 0 0, .slice none 0 0]) ?_ ?_ ?_ ?_ ?_
  (focus exact blkcBy)
  (focus exact blkcBy)
  (focus exact blkcBy)
  (focus (exact belBy))
  intro X1 x_n a_n r_n hX1
  have sX1 := hX1.size
  have x_lt := x_n.lt
  have a_lt := a_n.lt
  have r_lt := r_n.lt
  refine (HOK.out _ _ _ _ _ _ _ ⟨own_weak (own_below oj_0 hX1) (Nat.zero_le _), own_weak (own_below ot_0 hX1) (Nat.zero_le _), own_weak (own_below of__0 hX1) (Nat.zero_le _)⟩ (by omega) (by omega)).mono ?_
  rintro e w1 ⟨rfl, hb1⟩
  have s1 := hb1.size
  have hT1 := hX1.trans (hb1.mono sX1)
  have b_1 := b_0.trans (hT1.mono (by omega))
  have oj_1 := own_below oj_0 hT1
  have ot_1 := own_below ot_0 hT1
  have of__1 := own_below of__0 hT1
  have x_1 := Blk.past hb1 x_n
  have a_1 := Blk.past hb1 a_n
  have r_1 := Blk.past hb1 r_n
  clear oj_0 ot_0 of__0 b_0 x_n a_n r_n hX1 hT1 hb1
  have cell_x := x_1.cell
  have froz_x := x_1.frozen
  have lt_x := x_1.lt
  have cell_a := a_1.cell
  have froz_a := a_1.frozen
  have lt_a := a_1.lt
  have cell_r := r_1.cell
  have froz_r := r_1.frozen
  have lt_r := r_1.lt
  go_wp2_with fail
  refine calls_forget0 (W := w1) ?_ ?_
  (focus (exact belBy))
  intro X2 hX2
  have sX2 := hX2.size
  refine (HAC.out _).mono ?_
  rintro e w2 ⟨rfl, hb2⟩
  have s2 := hb2.size
  have hT2 := hX2.trans (hb2.mono sX2)
  have b_2 := b_1.trans (hT2.mono (by omega))
  have oj_2 := own_below oj_1 hT2
  have ot_2 := own_below ot_1 hT2
  have of__2 := own_below of__1 hT2
  have x_2 := Blk.past hT2 x_1
  have a_2 := Blk.past hT2 a_1
  have r_2 := Blk.past hT2 r_1
  clear oj_1 ot_1 of__1 x_1 a_1 r_1 b_1 cell_x froz_x lt_x cell_a froz_a lt_a cell_r froz_r lt_r hX2 hT2 hb2
  have cell_x := x_2.cell
  have froz_x := x_2.frozen
  have lt_x := x_2.lt
  have cell_a := a_2.cell
  have froz_a := a_2.frozen
  have lt_a := a_2.lt
  have cell_r := r_2.cell
  have froz_r := r_2.frozen
  have lt_r := r_2.lt
  go_wp2_with fail
  refine calls_forget0 (W := w2) ?_ ?_
  (focus (exact belBy))
  intro X3 hX3
  have sX3 := hX3.size
  refine (iCopyS S _ _ _ _ _ _ _ ⟨own_weak (own_below oj_2 hX3) (Nat.zero_le _), own_weak (own_below ot_2 hX3) (Nat.zero_le _), own_weak (own_below of__2 hX3) (Nat.zero_le _)⟩ (by omega) (by omega) (by omega)).mono ?_
  rintro e w3 ⟨Nj, nj', Nt, nt', Nf, nf', rfl, nj_3, nt_3, nf_3, hb3⟩
  have s3 := hb3.size
  have hT3 := hX3.trans (hb3.mono sX3)
  have b_3 := b_2.trans (hT3.mono (by omega))
  have oj_3 := own_below oj_2 hT3
  have ot_3 := own_below ot_2 hT3
  have of__3 := own_below of__2 hT3
  have x_3 := Blk.past hT3 x_2
  have a_3 := Blk.past hT3 a_2
  have r_3 := Blk.past hT3 r_2
  have nj_in := own_in nj_3
  have nt_in := own_in nt_3
  have nf_in := own_in nf_3
  clear oj_2 ot_2 of__2 x_2 a_2 r_2 b_2 cell_x froz_x lt_x cell_a froz_a lt_a cell_r froz_r lt_r hX3 hT3 hb3
  have cell_x := x_3.cell
  have froz_x := x_3.frozen
  have lt_x := x_3.lt
  have cell_a := a_3.cell
  have froz_a := a_3.frozen
  have lt_a := a_3.lt
  have cell_r := r_3.cell
  have froz_r := r_3.frozen
  have lt_r := r_3.lt
  go_upto_region 12 with fail
  go_wp2_with fail
  refine calls_forget1 (W := w3) (b0 := w3.heap.size) (t0 := 40) (c0 := #[.int .i64 S.z, .int .i64 S.n, .int .i64 S.b, .slice Nj S.js.length nj', .slice Nt S.ts.length nt', .slice Nf S.fs.length nf']) ?_ ?_ ?_
  (focus exact blkcBy)
  (focus (exact belBy))
  intro X4 y_n hX4
  have sX4 := hX4.size
  have y_lt := y_n.lt
  refine (HPR.out _).mono ?_
  rintro e w4 ⟨rfl, hb4⟩
  have s4 := hb4.size
  have hT4 := hX4.trans (hb4.mono sX4)
  have b_4 := b_3.trans (hT4.mono (by omega))
  have oj_4 := own_below oj_3 hT4
  have ot_4 := own_below ot_3 hT4
  have of__4 := own_below of__3 hT4
  have nj_4 := own_below nj_3 hT4
  have nt_4 := own_below nt_3 hT4
  have nf_4 := own_below nf_3 hT4
  have x_4 := Blk.past hT4 x_3
  have a_4 := Blk.past hT4 a_3
  have r_4 := Blk.past hT4 r_3
  have y_4 := Blk.past hb4 y_n
  clear oj_3 ot_3 of__3 nj_3 nt_3 nf_3 x_3 a_3 r_3 b_3 cell_x froz_x lt_x cell_a froz_a lt_a cell_r froz_r lt_r y_n hX4 hT4 hb4
  have cell_x := x_4.cell
  have froz_x := x_4.frozen
  have lt_x := x_4.lt
  have cell_a := a_4.cell
  have froz_a := a_4.frozen
  have lt_a := a_4.lt
  have cell_r := r_4.cell
  have froz_r := r_4.frozen
  have lt_r := r_4.lt
  have cell_y := y_4.cell
  have froz_y := y_4.frozen
  have lt_y := y_4.lt
  go_upto_region 14 with fail
  refine wp_touch2 (w0 := w4) (L := [w3.heap.size]) (b0 := w3.heap.size) (t0 := 40) (c0 := #[.int .i64 S.z, .int .i64 S.n, .int .i64 pb, .slice Nj S.js.length nj', .slice Nt S.ts.length nt', .slice Nf S.fs.length nf']) (b1 := w4.heap.size) (t1 := 35) (c1 := #[.int .i64 S.z, .int .i64 S.n, .int .i64 pb]) ?_ ?_ ?_ ?_
  (focus exact blkcBy)
  (focus exact blkcBy)
  (focus (exact tchBy))
  intro w5 y_5 z_5 hX5
  have sX5 := hX5.size
  have z_lt := z_5.lt
  have b_5 := hX5.below b_4 (by first | (simp; done) | (simp; omega))
  have oj_5 := own_touch' hX5 oj_4 (fun q hq => by have h1 := oj_in q hq; (try have e0 := own_ne_obj oj_4 y_4 (by decide) q hq); simp; omega)
  have ot_5 := own_touch' hX5 ot_4 (fun q hq => by have h1 := ot_in q hq; (try have e0 := own_ne_obj ot_4 y_4 (by decide) q hq); simp; omega)
  have of__5 := own_touch' hX5 of__4 (fun q hq => by have h1 := of__in q hq; (try have e0 := own_ne_obj of__4 y_4 (by decide) q hq); simp; omega)
  have nj_5 := own_touch' hX5 nj_4 (fun q hq => by have h1 := nj_in q hq; (try have e0 := own_ne_obj nj_4 y_4 (by decide) q hq); simp; omega)
  have nt_5 := own_touch' hX5 nt_4 (fun q hq => by have h1 := nt_in q hq; (try have e0 := own_ne_obj nt_4 y_4 (by decide) q hq); simp; omega)
  have nf_5 := own_touch' hX5 nf_4 (fun q hq => by have h1 := nf_in q hq; (try have e0 := own_ne_obj nf_4 y_4 (by decide) q hq); simp; omega)
  have x_5 := Blk.touch hX5 x_4 (by first | (simp; done) | (simp; omega))
  have a_5 := Blk.touch hX5 a_4 (by first | (simp; done) | (simp; omega))
  have r_5 := Blk.touch hX5 r_4 (by first | (simp; done) | (simp; omega))
  clear oj_4 ot_4 of__4 nj_4 nt_4 nf_4 x_4 a_4 r_4 y_4 b_4 cell_x froz_x lt_x cell_a froz_a lt_a cell_r froz_r lt_r cell_y froz_y lt_y hX5
  have cell_x := x_5.cell
  have froz_x := x_5.frozen
  have lt_x := x_5.lt
  have cell_a := a_5.cell
  have froz_a := a_5.frozen
  have lt_a := a_5.lt
  have cell_r := r_5.cell
  have froz_r := r_5.frozen
  have lt_r := r_5.lt
  have cell_y := y_5.cell
  have froz_y := y_5.frozen
  have lt_y := y_5.lt
  have cell_z := z_5.cell
  have froz_z := z_5.frozen
  have lt_z := z_5.lt
  go_wp2_with fail
  go_region_with (first | (go_at_call 68; refine (i_bit _ _).mono ?_; rintro e w' ⟨rfl, rfl⟩))
  all_goals
    have HRJ2 := hid nj_5
    have HRT2 := hid nt_5
    have HRF2 := hid nf_5
    have HB2 := hid b_5
    have hXW : w.heap.size + 3 ≤ X3.heap.size := by omega
    clear nj_5 nt_5 nf_5 b_5
    go_wp2_with fail
    ((try simp only [Exit.inBlock, Exit.then]); apply bodyPost_ret0; focus ((try simp only [results, Tryz.results44]); (try go_simp); (try rfl)))
    refine ⟨Nj, nj', Nt, nt', Nf, nf', rfl, ?_, ?_, ?_, ?_⟩
    · (refine own_weak (base := X3.heap.size) ?_ (by omega); have h := HRJ2.out; exact ownBy)
    · (refine own_weak (base := X3.heap.size) ?_ (by omega); have h := HRT2.out; exact ownBy)
    · (refine own_weak (base := X3.heap.size) ?_ (by omega); have h := HRF2.out; exact ownBy)
    · (have hb := HB2.out; exact belBy)
theorem iDoAct (S : SV) (k i d n : Int) (J T F : Option Addr) (cj tcp cf : Nat) (w : World) (h : w.ownsRow 0 64 4 (.slice J S.js.length cj) S.js.length (ints (flatJ S.js)) ∧ w.ownsRow 0 88 2 (.slice T S.ts.length tcp) S.ts.length (ints (flatT S.ts)) ∧ w.ownsRow 0 3 1 (.slice F S.fs.length cf) S.fs.length (ints S.fs)) (b1 : S.js.length ≤ 10000000) (b2 : S.ts.length ≤ 10000000) (b3 : S.fs.length ≤ 10000000) :
    Calls Tryz.prog 44 #[.agg #[.int .i64 S.z, .int .i64 S.n, .int .i64 S.b, .slice J S.js.length cj, .slice T S.ts.length tcp, .slice F S.fs.length cf], .agg #[.int .i64 k, .int .i64 i, .int .i64 d, .int .i64 n]] w fun e w' => ∃ J' cj' T' tcp' F' cf', e = .returned (.tuple #[.agg #[.int .i64 ((doS S k i d n).z), .int .i64 ((doS S k i d n).n), .int .i64 ((doS S k i d n).b), .slice J' ((doS S k i d n).js.length) cj', .slice T' ((doS S k i d n).ts.length) tcp', .slice F' ((doS S k i d n).fs.length) cf'], .int .i64 (doI S k i d n)]) ∧
      w'.ownsRow w.heap.size 64 4 (.slice J' ((doS S k i d n).js).length cj') ((doS S k i d n).js).length (ints (flatJ ((doS S k i d n).js))) ∧ w'.ownsRow w.heap.size 88 2 (.slice T' ((doS S k i d n).ts).length tcp') ((doS S k i d n).ts).length (ints (flatT ((doS S k i d n).ts))) ∧ w'.ownsRow w.heap.size 3 1 (.slice F' ((doS S k i d n).fs).length cf') ((doS S k i d n).fs).length (ints ((doS S k i d n).fs)) ∧ Below w.heap.size w w' := by
  unfold doS doI doB
  cases hs : schedOkB S
  · exact iDoNoS S k i d n hs J T F cj tcp cf w h b1 b2 b3
  cases ha : actOkB k i d n
  · exact iDoNoA S k i d n hs ha J T F cj tcp cf w h b1 b2 b3
  rcases actOk_kind ha with rfl | rfl | rfl | rfl
  · exact iDo1 S i d n hs ha J T F cj tcp cf w h b1 b2 b3
  · exact iDo2 S i d n hs ha J T F cj tcp cf w h b1 b2 b3
  · exact iDo3 S i d n hs ha J T F cj tcp cf w h b1 b2 b3
  · exact iDo4 S i d n hs ha J T F cj tcp cf w h b1 b2 b3
set_option maxRecDepth 100000 in
set_option maxHeartbeats 6400000 in
theorem sDoNoS (S : SV) (k i d n : Int) (hs : schedOkB S = false) (J T F : Option Addr) (cj tcp cf : Nat) (w : World) (h : w.ownsRow 0 64 4 (.slice J S.js.length cj) S.js.length (ints (flatJ S.js)) ∧ w.ownsRow 0 88 2 (.slice T S.ts.length tcp) S.ts.length (ints (flatT S.ts)) ∧ w.ownsRow 0 3 1 (.slice F S.fs.length cf) S.fs.length (ints S.fs)) (b1 : S.js.length ≤ 10000000) (b2 : S.ts.length ≤ 10000000) (b3 : S.fs.length ≤ 10000000) :
    Calls Tryz.prog 29 #[.agg #[.int .i64 S.z, .int .i64 S.n, .int .i64 S.b, .slice J S.js.length cj, .slice T S.ts.length tcp, .slice F S.fs.length cf], .agg #[.int .i64 k, .int .i64 i, .int .i64 d, .int .i64 n]] w fun e w' => ∃ J' cj' T' tcp' F' cf', e = .returned (.tuple #[.agg #[.int .i64 S.z, .int .i64 S.n, .int .i64 S.b, .slice J' S.js.length cj', .slice T' S.ts.length tcp', .slice F' S.fs.length cf'], .int .i64 (-1)]) ∧
      w'.ownsRow w.heap.size 64 4 (.slice J' S.js.length cj') S.js.length (ints (flatJ S.js)) ∧ w'.ownsRow w.heap.size 88 2 (.slice T' S.ts.length tcp') S.ts.length (ints (flatT S.ts)) ∧ w'.ownsRow w.heap.size 3 1 (.slice F' S.fs.length cf') S.fs.length (ints S.fs) ∧ Below w.heap.size w w' := by
  have HOK := hid (fun J T F cj ct cf w ho b1 b2 => sSchedOkS S J T F cj ct cf w ho b1 b2)
  rw [hs] at HOK
  clear hs
  obtain ⟨h1, h2, h3⟩ := h
  go_enter Tryz.func29, Tryz.ntmps29
  have b_0 := (Below.refl w.heap.size w)
  have s_0 := b_0.size
  have oj_in := own_in h1
  have oj_0 := h1
  clear h1
  have ot_in := own_in h2
  have ot_0 := h2
  clear h2
  have of__in := own_in h3
  have of__0 := h3
  clear h3
  go_wp2_with fail
  refine calls_forget3 (W := w) (b0 := w.heap.size) (t0 := 40) (c0 := #[.int .i64 S.z, .int .i64 S.n, .int .i64 S.b, .slice J S.js.length cj, .slice T S.ts.length tcp, .slice F S.fs.length cf]) (b1 := w.heap.size + 1) (t1 := 30) (c1 := #[.int .i64 k, .int .i64 i, .int .i64 d, .int .i64 n]) (b2 := w.heap.size + 2) (t2 := 40) (c2 := #[.int .i64 0, .int .i64 0, .int .i64 0, .slice none 0 0, .slice none 0 0, .slice none 0 0]) ?_ ?_ ?_ ?_ ?_
  (focus exact blkcBy)
  (focus exact blkcBy)
  (focus exact blkcBy)
  (focus (exact belBy))
  intro X1 x_n a_n r_n hX1
  have sX1 := hX1.size
  have x_lt := x_n.lt
  have a_lt := a_n.lt
  have r_lt := r_n.lt
  refine (HOK.out _ _ _ _ _ _ _ ⟨own_weak (own_below oj_0 hX1) (Nat.zero_le _), own_weak (own_below ot_0 hX1) (Nat.zero_le _), own_weak (own_below of__0 hX1) (Nat.zero_le _)⟩ (by omega) (by omega)).mono ?_
  rintro e w1 ⟨rfl, hb1⟩
  have s1 := hb1.size
  have hT1 := hX1.trans (hb1.mono sX1)
  have b_1 := b_0.trans (hT1.mono (by omega))
  have oj_1 := own_below oj_0 hT1
  have ot_1 := own_below ot_0 hT1
  have of__1 := own_below of__0 hT1
  have x_1 := Blk.past hb1 x_n
  have a_1 := Blk.past hb1 a_n
  have r_1 := Blk.past hb1 r_n
  clear oj_0 ot_0 of__0 b_0 x_n a_n r_n hX1 hT1 hb1
  have cell_x := x_1.cell
  have froz_x := x_1.frozen
  have lt_x := x_1.lt
  have cell_a := a_1.cell
  have froz_a := a_1.frozen
  have lt_a := a_1.lt
  have cell_r := r_1.cell
  have froz_r := r_1.frozen
  have lt_r := r_1.lt
  go_wp2_with fail
  refine calls_forget0 (W := w1) ?_ ?_
  (focus (exact belBy))
  intro X2 hX2
  have sX2 := hX2.size
  refine (sCopyS S _ _ _ _ _ _ _ ⟨own_weak (own_below oj_1 hX2) (Nat.zero_le _), own_weak (own_below ot_1 hX2) (Nat.zero_le _), own_weak (own_below of__1 hX2) (Nat.zero_le _)⟩ (by omega) (by omega) (by omega)).mono ?_
  rintro e w2 ⟨Nj, nj', Nt, nt', Nf, nf', rfl, nj_2, nt_2, nf_2, hb2⟩
  have s2 := hb2.size
  have hT2 := hX2.trans (hb2.mono sX2)
  have b_2 := b_1.trans (hT2.mono (by omega))
  have oj_2 := own_below oj_1 hT2
  have ot_2 := own_below ot_1 hT2
  have of__2 := own_below of__1 hT2
  have x_2 := Blk.past hT2 x_1
  have a_2 := Blk.past hT2 a_1
  have r_2 := Blk.past hT2 r_1
  have nj_in := own_in nj_2
  have nt_in := own_in nt_2
  have nf_in := own_in nf_2
  clear oj_1 ot_1 of__1 x_1 a_1 r_1 b_1 cell_x froz_x lt_x cell_a froz_a lt_a cell_r froz_r lt_r hX2 hT2 hb2
  have cell_x := x_2.cell
  have froz_x := x_2.frozen
  have lt_x := x_2.lt
  have cell_a := a_2.cell
  have froz_a := a_2.frozen
  have lt_a := a_2.lt
  have cell_r := r_2.cell
  have froz_r := r_2.frozen
  have lt_r := r_2.lt
  have HRJ2 := hid nj_2
  have HRT2 := hid nt_2
  have HRF2 := hid nf_2
  have HB2 := hid b_2
  have hXW : w.heap.size + 3 ≤ X2.heap.size := by omega
  clear nj_2 nt_2 nf_2 b_2
  go_wp2_with fail
  ((try simp only [Exit.inBlock, Exit.then]); apply bodyPost_ret0; focus ((try simp only [results, Tryz.results29]); (try go_simp); (try rfl)))
  refine ⟨Nj, nj', Nt, nt', Nf, nf', rfl, ?_, ?_, ?_, ?_⟩
  · (refine own_weak (base := X2.heap.size) ?_ (by omega); have h := HRJ2.out; exact ownBy)
  · (refine own_weak (base := X2.heap.size) ?_ (by omega); have h := HRT2.out; exact ownBy)
  · (refine own_weak (base := X2.heap.size) ?_ (by omega); have h := HRF2.out; exact ownBy)
  · (have hb := HB2.out; exact belBy)
set_option maxRecDepth 100000 in
set_option maxHeartbeats 6400000 in
theorem sDoNoA (S : SV) (k i d n : Int) (hs : schedOkB S = true) (ha : actOkB k i d n = false) (J T F : Option Addr) (cj tcp cf : Nat) (w : World) (h : w.ownsRow 0 64 4 (.slice J S.js.length cj) S.js.length (ints (flatJ S.js)) ∧ w.ownsRow 0 88 2 (.slice T S.ts.length tcp) S.ts.length (ints (flatT S.ts)) ∧ w.ownsRow 0 3 1 (.slice F S.fs.length cf) S.fs.length (ints S.fs)) (b1 : S.js.length ≤ 10000000) (b2 : S.ts.length ≤ 10000000) (b3 : S.fs.length ≤ 10000000) :
    Calls Tryz.prog 29 #[.agg #[.int .i64 S.z, .int .i64 S.n, .int .i64 S.b, .slice J S.js.length cj, .slice T S.ts.length tcp, .slice F S.fs.length cf], .agg #[.int .i64 k, .int .i64 i, .int .i64 d, .int .i64 n]] w fun e w' => ∃ J' cj' T' tcp' F' cf', e = .returned (.tuple #[.agg #[.int .i64 S.z, .int .i64 S.n, .int .i64 S.b, .slice J' S.js.length cj', .slice T' S.ts.length tcp', .slice F' S.fs.length cf'], .int .i64 (-1)]) ∧
      w'.ownsRow w.heap.size 64 4 (.slice J' S.js.length cj') S.js.length (ints (flatJ S.js)) ∧ w'.ownsRow w.heap.size 88 2 (.slice T' S.ts.length tcp') S.ts.length (ints (flatT S.ts)) ∧ w'.ownsRow w.heap.size 3 1 (.slice F' S.fs.length cf') S.fs.length (ints S.fs) ∧ Below w.heap.size w w' := by
  have HOK := hid (fun J T F cj ct cf w ho b1 b2 => sSchedOkS S J T F cj ct cf w ho b1 b2)
  rw [hs] at HOK
  have HAC := hid (fun w => sActOk k i d n w)
  rw [ha] at HAC
  clear hs ha
  obtain ⟨h1, h2, h3⟩ := h
  go_enter Tryz.func29, Tryz.ntmps29
  have b_0 := (Below.refl w.heap.size w)
  have s_0 := b_0.size
  have oj_in := own_in h1
  have oj_0 := h1
  clear h1
  have ot_in := own_in h2
  have ot_0 := h2
  clear h2
  have of__in := own_in h3
  have of__0 := h3
  clear h3
  go_wp2_with fail
  refine calls_forget3 (W := w) (b0 := w.heap.size) (t0 := 40) (c0 := #[.int .i64 S.z, .int .i64 S.n, .int .i64 S.b, .slice J S.js.length cj, .slice T S.ts.length tcp, .slice F S.fs.length cf]) (b1 := w.heap.size + 1) (t1 := 30) (c1 := #[.int .i64 k, .int .i64 i, .int .i64 d, .int .i64 n]) (b2 := w.heap.size + 2) (t2 := 40) (c2 := #[.int .i64 0, .int .i64 0, .int .i64 0, .slice none 0 0, .slice none 0 0, .slice none 0 0]) ?_ ?_ ?_ ?_ ?_
  (focus exact blkcBy)
  (focus exact blkcBy)
  (focus exact blkcBy)
  (focus (exact belBy))
  intro X1 x_n a_n r_n hX1
  have sX1 := hX1.size
  have x_lt := x_n.lt
  have a_lt := a_n.lt
  have r_lt := r_n.lt
  refine (HOK.out _ _ _ _ _ _ _ ⟨own_weak (own_below oj_0 hX1) (Nat.zero_le _), own_weak (own_below ot_0 hX1) (Nat.zero_le _), own_weak (own_below of__0 hX1) (Nat.zero_le _)⟩ (by omega) (by omega)).mono ?_
  rintro e w1 ⟨rfl, hb1⟩
  have s1 := hb1.size
  have hT1 := hX1.trans (hb1.mono sX1)
  have b_1 := b_0.trans (hT1.mono (by omega))
  have oj_1 := own_below oj_0 hT1
  have ot_1 := own_below ot_0 hT1
  have of__1 := own_below of__0 hT1
  have x_1 := Blk.past hb1 x_n
  have a_1 := Blk.past hb1 a_n
  have r_1 := Blk.past hb1 r_n
  clear oj_0 ot_0 of__0 b_0 x_n a_n r_n hX1 hT1 hb1
  have cell_x := x_1.cell
  have froz_x := x_1.frozen
  have lt_x := x_1.lt
  have cell_a := a_1.cell
  have froz_a := a_1.frozen
  have lt_a := a_1.lt
  have cell_r := r_1.cell
  have froz_r := r_1.frozen
  have lt_r := r_1.lt
  go_wp2_with fail
  refine calls_forget0 (W := w1) ?_ ?_
  (focus (exact belBy))
  intro X2 hX2
  have sX2 := hX2.size
  refine (HAC.out _).mono ?_
  rintro e w2 ⟨rfl, hb2⟩
  have s2 := hb2.size
  have hT2 := hX2.trans (hb2.mono sX2)
  have b_2 := b_1.trans (hT2.mono (by omega))
  have oj_2 := own_below oj_1 hT2
  have ot_2 := own_below ot_1 hT2
  have of__2 := own_below of__1 hT2
  have x_2 := Blk.past hT2 x_1
  have a_2 := Blk.past hT2 a_1
  have r_2 := Blk.past hT2 r_1
  clear oj_1 ot_1 of__1 x_1 a_1 r_1 b_1 cell_x froz_x lt_x cell_a froz_a lt_a cell_r froz_r lt_r hX2 hT2 hb2
  have cell_x := x_2.cell
  have froz_x := x_2.frozen
  have lt_x := x_2.lt
  have cell_a := a_2.cell
  have froz_a := a_2.frozen
  have lt_a := a_2.lt
  have cell_r := r_2.cell
  have froz_r := r_2.frozen
  have lt_r := r_2.lt
  go_wp2_with fail
  refine calls_forget0 (W := w2) ?_ ?_
  (focus (exact belBy))
  intro X3 hX3
  have sX3 := hX3.size
  refine (sCopyS S _ _ _ _ _ _ _ ⟨own_weak (own_below oj_2 hX3) (Nat.zero_le _), own_weak (own_below ot_2 hX3) (Nat.zero_le _), own_weak (own_below of__2 hX3) (Nat.zero_le _)⟩ (by omega) (by omega) (by omega)).mono ?_
  rintro e w3 ⟨Nj, nj', Nt, nt', Nf, nf', rfl, nj_3, nt_3, nf_3, hb3⟩
  have s3 := hb3.size
  have hT3 := hX3.trans (hb3.mono sX3)
  have b_3 := b_2.trans (hT3.mono (by omega))
  have oj_3 := own_below oj_2 hT3
  have ot_3 := own_below ot_2 hT3
  have of__3 := own_below of__2 hT3
  have x_3 := Blk.past hT3 x_2
  have a_3 := Blk.past hT3 a_2
  have r_3 := Blk.past hT3 r_2
  have nj_in := own_in nj_3
  have nt_in := own_in nt_3
  have nf_in := own_in nf_3
  clear oj_2 ot_2 of__2 x_2 a_2 r_2 b_2 cell_x froz_x lt_x cell_a froz_a lt_a cell_r froz_r lt_r hX3 hT3 hb3
  have cell_x := x_3.cell
  have froz_x := x_3.frozen
  have lt_x := x_3.lt
  have cell_a := a_3.cell
  have froz_a := a_3.frozen
  have lt_a := a_3.lt
  have cell_r := r_3.cell
  have froz_r := r_3.frozen
  have lt_r := r_3.lt
  have HRJ2 := hid nj_3
  have HRT2 := hid nt_3
  have HRF2 := hid nf_3
  have HB2 := hid b_3
  have hXW : w.heap.size + 3 ≤ X3.heap.size := by omega
  clear nj_3 nt_3 nf_3 b_3
  go_wp2_with fail
  ((try simp only [Exit.inBlock, Exit.then]); apply bodyPost_ret0; focus ((try simp only [results, Tryz.results29]); (try go_simp); (try rfl)))
  refine ⟨Nj, nj', Nt, nt', Nf, nf', rfl, ?_, ?_, ?_, ?_⟩
  · (refine own_weak (base := X3.heap.size) ?_ (by omega); have h := HRJ2.out; exact ownBy)
  · (refine own_weak (base := X3.heap.size) ?_ (by omega); have h := HRT2.out; exact ownBy)
  · (refine own_weak (base := X3.heap.size) ?_ (by omega); have h := HRF2.out; exact ownBy)
  · (have hb := HB2.out; exact belBy)
set_option maxRecDepth 100000 in
set_option maxHeartbeats 6400000 in
theorem sDo1 (S : SV) (i d n : Int) (hs : schedOkB S = true) (ha : actOkB 1 i d n = true) (J T F : Option Addr) (cj tcp cf : Nat) (w : World) (h : w.ownsRow 0 64 4 (.slice J S.js.length cj) S.js.length (ints (flatJ S.js)) ∧ w.ownsRow 0 88 2 (.slice T S.ts.length tcp) S.ts.length (ints (flatT S.ts)) ∧ w.ownsRow 0 3 1 (.slice F S.fs.length cf) S.fs.length (ints S.fs)) (b1 : S.js.length ≤ 10000000) (b2 : S.ts.length ≤ 10000000) (b3 : S.fs.length ≤ 10000000) :
    Calls Tryz.prog 29 #[.agg #[.int .i64 S.z, .int .i64 S.n, .int .i64 S.b, .slice J S.js.length cj, .slice T S.ts.length tcp, .slice F S.fs.length cf], .agg #[.int .i64 1, .int .i64 i, .int .i64 d, .int .i64 n]] w fun e w' => ∃ J' cj' T' tcp' F' cf', e = .returned (.tuple #[.agg #[.int .i64 ((addR S i d n).z), .int .i64 ((addR S i d n).n), .int .i64 ((addR S i d n).b), .slice J' ((addR S i d n).js.length) cj', .slice T' ((addR S i d n).ts.length) tcp', .slice F' ((addR S i d n).fs.length) cf'], .int .i64 (pick (addB S i d n) 1 0)]) ∧
      w'.ownsRow w.heap.size 64 4 (.slice J' ((addR S i d n).js).length cj') ((addR S i d n).js).length (ints (flatJ ((addR S i d n).js))) ∧ w'.ownsRow w.heap.size 88 2 (.slice T' ((addR S i d n).ts).length tcp') ((addR S i d n).ts).length (ints (flatT ((addR S i d n).ts))) ∧ w'.ownsRow w.heap.size 3 1 (.slice F' ((addR S i d n).fs).length cf') ((addR S i d n).fs).length (ints ((addR S i d n).fs)) ∧ Below w.heap.size w w' := by
  have HOK := hid (fun J T F cj ct cf w ho b1 b2 => sSchedOkS S J T F cj ct cf w ho b1 b2)
  rw [hs] at HOK
  have HAC := hid (fun w => sActOk 1 i d n w)
  rw [ha] at HAC
  clear hs ha
  have HCN := hid (fun J T F cj ct cf w h => sSchedAddL S i d n J T F cj ct cf w h (by omega) (by omega) (by omega))
  obtain ⟨R, hR⟩ : ∃ R, addR S i d n = R := ⟨_, rfl⟩
  rw [hR] at HCN ⊢
  clear hR
  obtain ⟨cnt, hcnt⟩ : ∃ x, addB S i d n = x := ⟨_, rfl⟩
  rw [hcnt] at HCN ⊢
  clear hcnt
  obtain ⟨h1, h2, h3⟩ := h
  go_enter Tryz.func29, Tryz.ntmps29
  have b_0 := (Below.refl w.heap.size w)
  have s_0 := b_0.size
  have oj_in := own_in h1
  have oj_0 := h1
  clear h1
  have ot_in := own_in h2
  have ot_0 := h2
  clear h2
  have of__in := own_in h3
  have of__0 := h3
  clear h3
  go_wp2_with fail
  refine calls_forget3 (W := w) (b0 := w.heap.size) (t0 := 40) (c0 := #[.int .i64 S.z, .int .i64 S.n, .int .i64 S.b, .slice J S.js.length cj, .slice T S.ts.length tcp, .slice F S.fs.length cf]) (b1 := w.heap.size + 1) (t1 := 30) (c1 := #[.int .i64 1, .int .i64 i, .int .i64 d, .int .i64 n]) (b2 := w.heap.size + 2) (t2 := 40) (c2 := #[.int .i64 0, .int .i64 0, .int .i64 0, .slice none 0 0, .slice none 0 0, .slice none 0 0]) ?_ ?_ ?_ ?_ ?_
  (focus exact blkcBy)
  (focus exact blkcBy)
  (focus exact blkcBy)
  (focus (exact belBy))
  intro X1 x_n a_n r_n hX1
  have sX1 := hX1.size
  have x_lt := x_n.lt
  have a_lt := a_n.lt
  have r_lt := r_n.lt
  refine (HOK.out _ _ _ _ _ _ _ ⟨own_weak (own_below oj_0 hX1) (Nat.zero_le _), own_weak (own_below ot_0 hX1) (Nat.zero_le _), own_weak (own_below of__0 hX1) (Nat.zero_le _)⟩ (by omega) (by omega)).mono ?_
  rintro e w1 ⟨rfl, hb1⟩
  have s1 := hb1.size
  have hT1 := hX1.trans (hb1.mono sX1)
  have b_1 := b_0.trans (hT1.mono (by omega))
  have oj_1 := own_below oj_0 hT1
  have ot_1 := own_below ot_0 hT1
  have of__1 := own_below of__0 hT1
  have x_1 := Blk.past hb1 x_n
  have a_1 := Blk.past hb1 a_n
  have r_1 := Blk.past hb1 r_n
  clear oj_0 ot_0 of__0 b_0 x_n a_n r_n hX1 hT1 hb1
  have cell_x := x_1.cell
  have froz_x := x_1.frozen
  have lt_x := x_1.lt
  have cell_a := a_1.cell
  have froz_a := a_1.frozen
  have lt_a := a_1.lt
  have cell_r := r_1.cell
  have froz_r := r_1.frozen
  have lt_r := r_1.lt
  go_wp2_with fail
  refine calls_forget0 (W := w1) ?_ ?_
  (focus (exact belBy))
  intro X2 hX2
  have sX2 := hX2.size
  refine (HAC.out _).mono ?_
  rintro e w2 ⟨rfl, hb2⟩
  have s2 := hb2.size
  have hT2 := hX2.trans (hb2.mono sX2)
  have b_2 := b_1.trans (hT2.mono (by omega))
  have oj_2 := own_below oj_1 hT2
  have ot_2 := own_below ot_1 hT2
  have of__2 := own_below of__1 hT2
  have x_2 := Blk.past hT2 x_1
  have a_2 := Blk.past hT2 a_1
  have r_2 := Blk.past hT2 r_1
  clear oj_1 ot_1 of__1 x_1 a_1 r_1 b_1 cell_x froz_x lt_x cell_a froz_a lt_a cell_r froz_r lt_r hX2 hT2 hb2
  have cell_x := x_2.cell
  have froz_x := x_2.frozen
  have lt_x := x_2.lt
  have cell_a := a_2.cell
  have froz_a := a_2.frozen
  have lt_a := a_2.lt
  have cell_r := r_2.cell
  have froz_r := r_2.frozen
  have lt_r := r_2.lt
  go_wp2_with fail
  refine calls_forget0 (W := w2) ?_ ?_
  (focus (exact belBy))
  intro X3 hX3
  have sX3 := hX3.size
  refine (HCN.out _ _ _ _ _ _ _ ⟨own_weak (own_below oj_2 hX3) (Nat.zero_le _), own_weak (own_below ot_2 hX3) (Nat.zero_le _), own_weak (own_below of__2 hX3) (Nat.zero_le _)⟩).mono ?_
  rintro e w3 ⟨Nj, nj', Nt, nt', Nf, nf', rfl, nj_3, nt_3, nf_3, hb3⟩
  have s3 := hb3.size
  have hT3 := hX3.trans (hb3.mono sX3)
  have b_3 := b_2.trans (hT3.mono (by omega))
  have oj_3 := own_below oj_2 hT3
  have ot_3 := own_below ot_2 hT3
  have of__3 := own_below of__2 hT3
  have x_3 := Blk.past hT3 x_2
  have a_3 := Blk.past hT3 a_2
  have r_3 := Blk.past hT3 r_2
  have nj_in := own_in nj_3
  have nt_in := own_in nt_3
  have nf_in := own_in nf_3
  clear oj_2 ot_2 of__2 x_2 a_2 r_2 b_2 cell_x froz_x lt_x cell_a froz_a lt_a cell_r froz_r lt_r hX3 hT3 hb3
  have cell_x := x_3.cell
  have froz_x := x_3.frozen
  have lt_x := x_3.lt
  have cell_a := a_3.cell
  have froz_a := a_3.frozen
  have lt_a := a_3.lt
  have cell_r := r_3.cell
  have froz_r := r_3.frozen
  have lt_r := r_3.lt
  go_upto_region 6 with fail
  refine wp_forget1 (w0 := w3) (B := w3.heap.size) (b0 := w3.heap.size) (t0 := 40) (c0 := #[.int .i64 R.z, .int .i64 R.n, .int .i64 R.b, .slice Nj R.js.length nj', .slice Nt R.ts.length nt', .slice Nf R.fs.length nf']) ?_ ?_ ?_
  (focus exact blkcBy)
  (focus (exact belBy))
  intro w4 y_4 hX4
  have sX4 := hX4.size
  have y_lt := y_4.lt
  have b_4 := b_3.trans (hX4.mono (by omega))
  have oj_4 := own_below oj_3 hX4
  have ot_4 := own_below ot_3 hX4
  have of__4 := own_below of__3 hX4
  have nj_4 := own_below nj_3 hX4
  have nt_4 := own_below nt_3 hX4
  have nf_4 := own_below nf_3 hX4
  have x_4 := Blk.past hX4 x_3
  have a_4 := Blk.past hX4 a_3
  have r_4 := Blk.past hX4 r_3
  clear oj_3 ot_3 of__3 nj_3 nt_3 nf_3 x_3 a_3 r_3 b_3 cell_x froz_x lt_x cell_a froz_a lt_a cell_r froz_r lt_r hX4
  have cell_x := x_4.cell
  have froz_x := x_4.frozen
  have lt_x := x_4.lt
  have cell_a := a_4.cell
  have froz_a := a_4.frozen
  have lt_a := a_4.lt
  have cell_r := r_4.cell
  have froz_r := r_4.frozen
  have lt_r := r_4.lt
  have cell_y := y_4.cell
  have froz_y := y_4.frozen
  have lt_y := y_4.lt
  go_wp2_with fail
  go_region_with (first | (go_at_call 50; refine (s_bit _ _).mono ?_; rintro e w' ⟨rfl, rfl⟩))
  all_goals
    have HRJ2 := hid nj_4
    have HRT2 := hid nt_4
    have HRF2 := hid nf_4
    have HB2 := hid b_4
    have hXW : w.heap.size + 3 ≤ X3.heap.size := by omega
    clear nj_4 nt_4 nf_4 b_4
    go_wp2_with fail
    ((try simp only [Exit.inBlock, Exit.then]); apply bodyPost_ret0; focus ((try simp only [results, Tryz.results29]); (try go_simp); (try rfl)))
    refine ⟨Nj, nj', Nt, nt', Nf, nf', rfl, ?_, ?_, ?_, ?_⟩
    · (refine own_weak (base := X3.heap.size) ?_ (by omega); have h := HRJ2.out; exact ownBy)
    · (refine own_weak (base := X3.heap.size) ?_ (by omega); have h := HRT2.out; exact ownBy)
    · (refine own_weak (base := X3.heap.size) ?_ (by omega); have h := HRF2.out; exact ownBy)
    · (have hb := HB2.out; exact belBy)
set_option maxRecDepth 100000 in
set_option maxHeartbeats 6400000 in
theorem sDo2 (S : SV) (i d n : Int) (hs : schedOkB S = true) (ha : actOkB 2 i d n = true) (J T F : Option Addr) (cj tcp cf : Nat) (w : World) (h : w.ownsRow 0 64 4 (.slice J S.js.length cj) S.js.length (ints (flatJ S.js)) ∧ w.ownsRow 0 88 2 (.slice T S.ts.length tcp) S.ts.length (ints (flatT S.ts)) ∧ w.ownsRow 0 3 1 (.slice F S.fs.length cf) S.fs.length (ints S.fs)) (b1 : S.js.length ≤ 10000000) (b2 : S.ts.length ≤ 10000000) (b3 : S.fs.length ≤ 10000000) :
    Calls Tryz.prog 29 #[.agg #[.int .i64 S.z, .int .i64 S.n, .int .i64 S.b, .slice J S.js.length cj, .slice T S.ts.length tcp, .slice F S.fs.length cf], .agg #[.int .i64 2, .int .i64 i, .int .i64 d, .int .i64 n]] w fun e w' => ∃ J' cj' T' tcp' F' cf', e = .returned (.tuple #[.agg #[.int .i64 ((runS (runM n) S).z), .int .i64 ((runS (runM n) S).n), .int .i64 ((runS (runM n) S).b), .slice J' ((runS (runM n) S).js.length) cj', .slice T' ((runS (runM n) S).ts.length) tcp', .slice F' ((runS (runM n) S).fs.length) cf'], .int .i64 ((runN (runM n) S : Nat) : Int)]) ∧
      w'.ownsRow w.heap.size 64 4 (.slice J' ((runS (runM n) S).js).length cj') ((runS (runM n) S).js).length (ints (flatJ ((runS (runM n) S).js))) ∧ w'.ownsRow w.heap.size 88 2 (.slice T' ((runS (runM n) S).ts).length tcp') ((runS (runM n) S).ts).length (ints (flatT ((runS (runM n) S).ts))) ∧ w'.ownsRow w.heap.size 3 1 (.slice F' ((runS (runM n) S).fs).length cf') ((runS (runM n) S).fs).length (ints ((runS (runM n) S).fs)) ∧ Below w.heap.size w w' := by
  have HOK := hid (fun J T F cj ct cf w ho b1 b2 => sSchedOkS S J T F cj ct cf w ho b1 b2)
  rw [hs] at HOK
  have HAC := hid (fun w => sActOk 2 i d n w)
  rw [ha] at HAC
  clear hs ha
  have HCN := hid (fun J T F cj ct cf w h => sSchedRunL S n J T F cj ct cf w h (by omega) (by omega) (by omega))
  obtain ⟨R, hR⟩ : ∃ R, runS (runM n) S = R := ⟨_, rfl⟩
  rw [hR] at HCN ⊢
  clear hR
  obtain ⟨cnt, hcnt⟩ : ∃ x, ((runN (runM n) S : Nat) : Int) = x := ⟨_, rfl⟩
  rw [hcnt] at HCN ⊢
  clear hcnt
  obtain ⟨h1, h2, h3⟩ := h
  go_enter Tryz.func29, Tryz.ntmps29
  have b_0 := (Below.refl w.heap.size w)
  have s_0 := b_0.size
  have oj_in := own_in h1
  have oj_0 := h1
  clear h1
  have ot_in := own_in h2
  have ot_0 := h2
  clear h2
  have of__in := own_in h3
  have of__0 := h3
  clear h3
  go_wp2_with fail
  refine calls_forget3 (W := w) (b0 := w.heap.size) (t0 := 40) (c0 := #[.int .i64 S.z, .int .i64 S.n, .int .i64 S.b, .slice J S.js.length cj, .slice T S.ts.length tcp, .slice F S.fs.length cf]) (b1 := w.heap.size + 1) (t1 := 30) (c1 := #[.int .i64 2, .int .i64 i, .int .i64 d, .int .i64 n]) (b2 := w.heap.size + 2) (t2 := 40) (c2 := #[.int .i64 0, .int .i64 0, .int .i64 0, .slice none 0 0, .slice none 0 0, .slice none 0 0]) ?_ ?_ ?_ ?_ ?_
  (focus exact blkcBy)
  (focus exact blkcBy)
  (focus exact blkcBy)
  (focus (exact belBy))
  intro X1 x_n a_n r_n hX1
  have sX1 := hX1.size
  have x_lt := x_n.lt
  have a_lt := a_n.lt
  have r_lt := r_n.lt
  refine (HOK.out _ _ _ _ _ _ _ ⟨own_weak (own_below oj_0 hX1) (Nat.zero_le _), own_weak (own_below ot_0 hX1) (Nat.zero_le _), own_weak (own_below of__0 hX1) (Nat.zero_le _)⟩ (by omega) (by omega)).mono ?_
  rintro e w1 ⟨rfl, hb1⟩
  have s1 := hb1.size
  have hT1 := hX1.trans (hb1.mono sX1)
  have b_1 := b_0.trans (hT1.mono (by omega))
  have oj_1 := own_below oj_0 hT1
  have ot_1 := own_below ot_0 hT1
  have of__1 := own_below of__0 hT1
  have x_1 := Blk.past hb1 x_n
  have a_1 := Blk.past hb1 a_n
  have r_1 := Blk.past hb1 r_n
  clear oj_0 ot_0 of__0 b_0 x_n a_n r_n hX1 hT1 hb1
  have cell_x := x_1.cell
  have froz_x := x_1.frozen
  have lt_x := x_1.lt
  have cell_a := a_1.cell
  have froz_a := a_1.frozen
  have lt_a := a_1.lt
  have cell_r := r_1.cell
  have froz_r := r_1.frozen
  have lt_r := r_1.lt
  go_wp2_with fail
  refine calls_forget0 (W := w1) ?_ ?_
  (focus (exact belBy))
  intro X2 hX2
  have sX2 := hX2.size
  refine (HAC.out _).mono ?_
  rintro e w2 ⟨rfl, hb2⟩
  have s2 := hb2.size
  have hT2 := hX2.trans (hb2.mono sX2)
  have b_2 := b_1.trans (hT2.mono (by omega))
  have oj_2 := own_below oj_1 hT2
  have ot_2 := own_below ot_1 hT2
  have of__2 := own_below of__1 hT2
  have x_2 := Blk.past hT2 x_1
  have a_2 := Blk.past hT2 a_1
  have r_2 := Blk.past hT2 r_1
  clear oj_1 ot_1 of__1 x_1 a_1 r_1 b_1 cell_x froz_x lt_x cell_a froz_a lt_a cell_r froz_r lt_r hX2 hT2 hb2
  have cell_x := x_2.cell
  have froz_x := x_2.frozen
  have lt_x := x_2.lt
  have cell_a := a_2.cell
  have froz_a := a_2.frozen
  have lt_a := a_2.lt
  have cell_r := r_2.cell
  have froz_r := r_2.frozen
  have lt_r := r_2.lt
  go_wp2_with fail
  refine calls_forget0 (W := w2) ?_ ?_
  (focus (exact belBy))
  intro X3 hX3
  have sX3 := hX3.size
  refine (HCN.out _ _ _ _ _ _ _ ⟨own_weak (own_below oj_2 hX3) (Nat.zero_le _), own_weak (own_below ot_2 hX3) (Nat.zero_le _), own_weak (own_below of__2 hX3) (Nat.zero_le _)⟩).mono ?_
  rintro e w3 ⟨Nj, nj', Nt, nt', Nf, nf', rfl, nj_3, nt_3, nf_3, hb3⟩
  have s3 := hb3.size
  have hT3 := hX3.trans (hb3.mono sX3)
  have b_3 := b_2.trans (hT3.mono (by omega))
  have oj_3 := own_below oj_2 hT3
  have ot_3 := own_below ot_2 hT3
  have of__3 := own_below of__2 hT3
  have x_3 := Blk.past hT3 x_2
  have a_3 := Blk.past hT3 a_2
  have r_3 := Blk.past hT3 r_2
  have nj_in := own_in nj_3
  have nt_in := own_in nt_3
  have nf_in := own_in nf_3
  clear oj_2 ot_2 of__2 x_2 a_2 r_2 b_2 cell_x froz_x lt_x cell_a froz_a lt_a cell_r froz_r lt_r hX3 hT3 hb3
  have cell_x := x_3.cell
  have froz_x := x_3.frozen
  have lt_x := x_3.lt
  have cell_a := a_3.cell
  have froz_a := a_3.frozen
  have lt_a := a_3.lt
  have cell_r := r_3.cell
  have froz_r := r_3.frozen
  have lt_r := r_3.lt
  go_upto_region 9 with fail
  refine wp_forget1 (w0 := w3) (B := w3.heap.size) (b0 := w3.heap.size) (t0 := 40) (c0 := #[.int .i64 R.z, .int .i64 R.n, .int .i64 R.b, .slice Nj R.js.length nj', .slice Nt R.ts.length nt', .slice Nf R.fs.length nf']) ?_ ?_ ?_
  (focus exact blkcBy)
  (focus (exact belBy))
  intro w4 y_4 hX4
  have sX4 := hX4.size
  have y_lt := y_4.lt
  have b_4 := b_3.trans (hX4.mono (by omega))
  have oj_4 := own_below oj_3 hX4
  have ot_4 := own_below ot_3 hX4
  have of__4 := own_below of__3 hX4
  have nj_4 := own_below nj_3 hX4
  have nt_4 := own_below nt_3 hX4
  have nf_4 := own_below nf_3 hX4
  have x_4 := Blk.past hX4 x_3
  have a_4 := Blk.past hX4 a_3
  have r_4 := Blk.past hX4 r_3
  clear oj_3 ot_3 of__3 nj_3 nt_3 nf_3 x_3 a_3 r_3 b_3 cell_x froz_x lt_x cell_a froz_a lt_a cell_r froz_r lt_r hX4
  have cell_x := x_4.cell
  have froz_x := x_4.frozen
  have lt_x := x_4.lt
  have cell_a := a_4.cell
  have froz_a := a_4.frozen
  have lt_a := a_4.lt
  have cell_r := r_4.cell
  have froz_r := r_4.frozen
  have lt_r := r_4.lt
  have cell_y := y_4.cell
  have froz_y := y_4.frozen
  have lt_y := y_4.lt
  have HRJ2 := hid nj_4
  have HRT2 := hid nt_4
  have HRF2 := hid nf_4
  have HB2 := hid b_4
  have hXW : w.heap.size + 3 ≤ X3.heap.size := by omega
  clear nj_4 nt_4 nf_4 b_4
  go_wp2_with fail
  ((try simp only [Exit.inBlock, Exit.then]); apply bodyPost_ret0; focus ((try simp only [results, Tryz.results29]); (try go_simp); (try rfl)))
  refine ⟨Nj, nj', Nt, nt', Nf, nf', rfl, ?_, ?_, ?_, ?_⟩
  · (refine own_weak (base := X3.heap.size) ?_ (by omega); have h := HRJ2.out; exact ownBy)
  · (refine own_weak (base := X3.heap.size) ?_ (by omega); have h := HRT2.out; exact ownBy)
  · (refine own_weak (base := X3.heap.size) ?_ (by omega); have h := HRF2.out; exact ownBy)
  · (have hb := HB2.out; exact belBy)
set_option maxRecDepth 100000 in
set_option maxHeartbeats 6400000 in
theorem sDo4 (S : SV) (i d n : Int) (hs : schedOkB S = true) (ha : actOkB 4 i d n = true) (J T F : Option Addr) (cj tcp cf : Nat) (w : World) (h : w.ownsRow 0 64 4 (.slice J S.js.length cj) S.js.length (ints (flatJ S.js)) ∧ w.ownsRow 0 88 2 (.slice T S.ts.length tcp) S.ts.length (ints (flatT S.ts)) ∧ w.ownsRow 0 3 1 (.slice F S.fs.length cf) S.fs.length (ints S.fs)) (b1 : S.js.length ≤ 10000000) (b2 : S.ts.length ≤ 10000000) (b3 : S.fs.length ≤ 10000000) :
    Calls Tryz.prog 29 #[.agg #[.int .i64 S.z, .int .i64 S.n, .int .i64 S.b, .slice J S.js.length cj, .slice T S.ts.length tcp, .slice F S.fs.length cf], .agg #[.int .i64 4, .int .i64 i, .int .i64 d, .int .i64 n]] w fun e w' => ∃ J' cj' T' tcp' F' cf', e = .returned (.tuple #[.agg #[.int .i64 ((crashS S).z), .int .i64 ((crashS S).n), .int .i64 ((crashS S).b), .slice J' ((crashS S).js.length) cj', .slice T' ((crashS S).ts.length) tcp', .slice F' ((crashS S).fs.length) cf'], .int .i64 0]) ∧
      w'.ownsRow w.heap.size 64 4 (.slice J' ((crashS S).js).length cj') ((crashS S).js).length (ints (flatJ ((crashS S).js))) ∧ w'.ownsRow w.heap.size 88 2 (.slice T' ((crashS S).ts).length tcp') ((crashS S).ts).length (ints (flatT ((crashS S).ts))) ∧ w'.ownsRow w.heap.size 3 1 (.slice F' ((crashS S).fs).length cf') ((crashS S).fs).length (ints ((crashS S).fs)) ∧ Below w.heap.size w w' := by
  have HOK := hid (fun J T F cj ct cf w ho b1 b2 => sSchedOkS S J T F cj ct cf w ho b1 b2)
  rw [hs] at HOK
  have HAC := hid (fun w => sActOk 4 i d n w)
  rw [ha] at HAC
  clear hs ha
  have HCN := hid (fun J T F cj ct cf w h => sSchedCrashL S J T F cj ct cf w h (by omega) (by omega) (by omega))
  obtain ⟨R, hR⟩ : ∃ R, crashS S = R := ⟨_, rfl⟩
  rw [hR] at HCN ⊢
  clear hR
  obtain ⟨h1, h2, h3⟩ := h
  go_enter Tryz.func29, Tryz.ntmps29
  have b_0 := (Below.refl w.heap.size w)
  have s_0 := b_0.size
  have oj_in := own_in h1
  have oj_0 := h1
  clear h1
  have ot_in := own_in h2
  have ot_0 := h2
  clear h2
  have of__in := own_in h3
  have of__0 := h3
  clear h3
  go_wp2_with fail
  refine calls_forget3 (W := w) (b0 := w.heap.size) (t0 := 40) (c0 := #[.int .i64 S.z, .int .i64 S.n, .int .i64 S.b, .slice J S.js.length cj, .slice T S.ts.length tcp, .slice F S.fs.length cf]) (b1 := w.heap.size + 1) (t1 := 30) (c1 := #[.int .i64 4, .int .i64 i, .int .i64 d, .int .i64 n]) (b2 := w.heap.size + 2) (t2 := 40) (c2 := #[.int .i64 0, .int .i64 0, .int .i64 0, .slice none 0 0, .slice none 0 0, .slice none 0 0]) ?_ ?_ ?_ ?_ ?_
  (focus exact blkcBy)
  (focus exact blkcBy)
  (focus exact blkcBy)
  (focus (exact belBy))
  intro X1 x_n a_n r_n hX1
  have sX1 := hX1.size
  have x_lt := x_n.lt
  have a_lt := a_n.lt
  have r_lt := r_n.lt
  refine (HOK.out _ _ _ _ _ _ _ ⟨own_weak (own_below oj_0 hX1) (Nat.zero_le _), own_weak (own_below ot_0 hX1) (Nat.zero_le _), own_weak (own_below of__0 hX1) (Nat.zero_le _)⟩ (by omega) (by omega)).mono ?_
  rintro e w1 ⟨rfl, hb1⟩
  have s1 := hb1.size
  have hT1 := hX1.trans (hb1.mono sX1)
  have b_1 := b_0.trans (hT1.mono (by omega))
  have oj_1 := own_below oj_0 hT1
  have ot_1 := own_below ot_0 hT1
  have of__1 := own_below of__0 hT1
  have x_1 := Blk.past hb1 x_n
  have a_1 := Blk.past hb1 a_n
  have r_1 := Blk.past hb1 r_n
  clear oj_0 ot_0 of__0 b_0 x_n a_n r_n hX1 hT1 hb1
  have cell_x := x_1.cell
  have froz_x := x_1.frozen
  have lt_x := x_1.lt
  have cell_a := a_1.cell
  have froz_a := a_1.frozen
  have lt_a := a_1.lt
  have cell_r := r_1.cell
  have froz_r := r_1.frozen
  have lt_r := r_1.lt
  go_wp2_with fail
  refine calls_forget0 (W := w1) ?_ ?_
  (focus (exact belBy))
  intro X2 hX2
  have sX2 := hX2.size
  refine (HAC.out _).mono ?_
  rintro e w2 ⟨rfl, hb2⟩
  have s2 := hb2.size
  have hT2 := hX2.trans (hb2.mono sX2)
  have b_2 := b_1.trans (hT2.mono (by omega))
  have oj_2 := own_below oj_1 hT2
  have ot_2 := own_below ot_1 hT2
  have of__2 := own_below of__1 hT2
  have x_2 := Blk.past hT2 x_1
  have a_2 := Blk.past hT2 a_1
  have r_2 := Blk.past hT2 r_1
  clear oj_1 ot_1 of__1 x_1 a_1 r_1 b_1 cell_x froz_x lt_x cell_a froz_a lt_a cell_r froz_r lt_r hX2 hT2 hb2
  have cell_x := x_2.cell
  have froz_x := x_2.frozen
  have lt_x := x_2.lt
  have cell_a := a_2.cell
  have froz_a := a_2.frozen
  have lt_a := a_2.lt
  have cell_r := r_2.cell
  have froz_r := r_2.frozen
  have lt_r := r_2.lt
  go_wp2_with fail
  refine calls_forget0 (W := w2) ?_ ?_
  (focus (exact belBy))
  intro X3 hX3
  have sX3 := hX3.size
  refine (HCN.out _ _ _ _ _ _ _ ⟨own_weak (own_below oj_2 hX3) (Nat.zero_le _), own_weak (own_below ot_2 hX3) (Nat.zero_le _), own_weak (own_below of__2 hX3) (Nat.zero_le _)⟩).mono ?_
  rintro e w3 ⟨Nj, nj', Nt, nt', Nf, nf', rfl, nj_3, nt_3, nf_3, hb3⟩
  have s3 := hb3.size
  have hT3 := hX3.trans (hb3.mono sX3)
  have b_3 := b_2.trans (hT3.mono (by omega))
  have oj_3 := own_below oj_2 hT3
  have ot_3 := own_below ot_2 hT3
  have of__3 := own_below of__2 hT3
  have x_3 := Blk.past hT3 x_2
  have a_3 := Blk.past hT3 a_2
  have r_3 := Blk.past hT3 r_2
  have nj_in := own_in nj_3
  have nt_in := own_in nt_3
  have nf_in := own_in nf_3
  clear oj_2 ot_2 of__2 x_2 a_2 r_2 b_2 cell_x froz_x lt_x cell_a froz_a lt_a cell_r froz_r lt_r hX3 hT3 hb3
  have cell_x := x_3.cell
  have froz_x := x_3.frozen
  have lt_x := x_3.lt
  have cell_a := a_3.cell
  have froz_a := a_3.frozen
  have lt_a := a_3.lt
  have cell_r := r_3.cell
  have froz_r := r_3.frozen
  have lt_r := r_3.lt
  have HRJ2 := hid nj_3
  have HRT2 := hid nt_3
  have HRF2 := hid nf_3
  have HB2 := hid b_3
  have hXW : w.heap.size + 3 ≤ X3.heap.size := by omega
  clear nj_3 nt_3 nf_3 b_3
  go_wp2_with fail
  ((try simp only [Exit.inBlock, Exit.then]); apply bodyPost_ret0; focus ((try simp only [results, Tryz.results29]); (try go_simp); (try rfl)))
  refine ⟨Nj, nj', Nt, nt', Nf, nf', rfl, ?_, ?_, ?_, ?_⟩
  · (refine own_weak (base := X3.heap.size) ?_ (by omega); have h := HRJ2.out; exact ownBy)
  · (refine own_weak (base := X3.heap.size) ?_ (by omega); have h := HRT2.out; exact ownBy)
  · (refine own_weak (base := X3.heap.size) ?_ (by omega); have h := HRF2.out; exact ownBy)
  · (have hb := HB2.out; exact belBy)
set_option maxRecDepth 100000 in
set_option maxHeartbeats 6400000 in
theorem sDo3 (S : SV) (i d n : Int) (hs : schedOkB S = true) (ha : actOkB 3 i d n = true) (J T F : Option Addr) (cj tcp cf : Nat) (w : World) (h : w.ownsRow 0 64 4 (.slice J S.js.length cj) S.js.length (ints (flatJ S.js)) ∧ w.ownsRow 0 88 2 (.slice T S.ts.length tcp) S.ts.length (ints (flatT S.ts)) ∧ w.ownsRow 0 3 1 (.slice F S.fs.length cf) S.fs.length (ints S.fs)) (b1 : S.js.length ≤ 10000000) (b2 : S.ts.length ≤ 10000000) (b3 : S.fs.length ≤ 10000000) :
    Calls Tryz.prog 29 #[.agg #[.int .i64 S.z, .int .i64 S.n, .int .i64 S.b, .slice J S.js.length cj, .slice T S.ts.length tcp, .slice F S.fs.length cf], .agg #[.int .i64 3, .int .i64 i, .int .i64 d, .int .i64 n]] w fun e w' => ∃ J' cj' T' tcp' F' cf', e = .returned (.tuple #[.agg #[.int .i64 S.z, .int .i64 S.n, .int .i64 ((pick (resB S.z S.n S.b n) (S.b + n) S.b)), .slice J' S.js.length cj', .slice T' S.ts.length tcp', .slice F' S.fs.length cf'], .int .i64 (pick (resB S.z S.n S.b n) 1 0)]) ∧
      w'.ownsRow w.heap.size 64 4 (.slice J' S.js.length cj') S.js.length (ints (flatJ S.js)) ∧ w'.ownsRow w.heap.size 88 2 (.slice T' S.ts.length tcp') S.ts.length (ints (flatT S.ts)) ∧ w'.ownsRow w.heap.size 3 1 (.slice F' S.fs.length cf') S.fs.length (ints S.fs) ∧ Below w.heap.size w w' := by
  have HOK := hid (fun J T F cj ct cf w ho b1 b2 => sSchedOkS S J T F cj ct cf w ho b1 b2)
  rw [hs] at HOK
  have HAC := hid (fun w => sActOk 3 i d n w)
  rw [ha] at HAC
  clear hs ha
  obtain ⟨pb, hpb⟩ : ∃ pb, pick (resB S.z S.n S.b n) (S.b + n) S.b = pb := ⟨_, rfl⟩
  have HPR := hid (fun w => sPoolReserve S.z S.n S.b n w)
  rw [hpb] at HPR ⊢
  clear hpb
  obtain ⟨h1, h2, h3⟩ := h
  go_enter Tryz.func29, Tryz.ntmps29
  have b_0 := (Below.refl w.heap.size w)
  have s_0 := b_0.size
  have oj_in := own_in h1
  have oj_0 := h1
  clear h1
  have ot_in := own_in h2
  have ot_0 := h2
  clear h2
  have of__in := own_in h3
  have of__0 := h3
  clear h3
  go_wp2_with fail
  refine calls_forget3 (W := w) (b0 := w.heap.size) (t0 := 40) (c0 := #[.int .i64 S.z, .int .i64 S.n, .int .i64 S.b, .slice J S.js.length cj, .slice T S.ts.length tcp, .slice F S.fs.length cf]) (b1 := w.heap.size + 1) (t1 := 30) (c1 := #[.int .i64 3, .int .i64 i, .int .i64 d, .int .i64 n]) (b2 := w.heap.size + 2) (t2 := 40) (c2 := #[.int .i64 0, .int .i64 0, .int .i64 0, .slice none 0 0, .slice none 0 0, .slice none 0 0]) ?_ ?_ ?_ ?_ ?_
  (focus exact blkcBy)
  (focus exact blkcBy)
  (focus exact blkcBy)
  (focus (exact belBy))
  intro X1 x_n a_n r_n hX1
  have sX1 := hX1.size
  have x_lt := x_n.lt
  have a_lt := a_n.lt
  have r_lt := r_n.lt
  refine (HOK.out _ _ _ _ _ _ _ ⟨own_weak (own_below oj_0 hX1) (Nat.zero_le _), own_weak (own_below ot_0 hX1) (Nat.zero_le _), own_weak (own_below of__0 hX1) (Nat.zero_le _)⟩ (by omega) (by omega)).mono ?_
  rintro e w1 ⟨rfl, hb1⟩
  have s1 := hb1.size
  have hT1 := hX1.trans (hb1.mono sX1)
  have b_1 := b_0.trans (hT1.mono (by omega))
  have oj_1 := own_below oj_0 hT1
  have ot_1 := own_below ot_0 hT1
  have of__1 := own_below of__0 hT1
  have x_1 := Blk.past hb1 x_n
  have a_1 := Blk.past hb1 a_n
  have r_1 := Blk.past hb1 r_n
  clear oj_0 ot_0 of__0 b_0 x_n a_n r_n hX1 hT1 hb1
  have cell_x := x_1.cell
  have froz_x := x_1.frozen
  have lt_x := x_1.lt
  have cell_a := a_1.cell
  have froz_a := a_1.frozen
  have lt_a := a_1.lt
  have cell_r := r_1.cell
  have froz_r := r_1.frozen
  have lt_r := r_1.lt
  go_wp2_with fail
  refine calls_forget0 (W := w1) ?_ ?_
  (focus (exact belBy))
  intro X2 hX2
  have sX2 := hX2.size
  refine (HAC.out _).mono ?_
  rintro e w2 ⟨rfl, hb2⟩
  have s2 := hb2.size
  have hT2 := hX2.trans (hb2.mono sX2)
  have b_2 := b_1.trans (hT2.mono (by omega))
  have oj_2 := own_below oj_1 hT2
  have ot_2 := own_below ot_1 hT2
  have of__2 := own_below of__1 hT2
  have x_2 := Blk.past hT2 x_1
  have a_2 := Blk.past hT2 a_1
  have r_2 := Blk.past hT2 r_1
  clear oj_1 ot_1 of__1 x_1 a_1 r_1 b_1 cell_x froz_x lt_x cell_a froz_a lt_a cell_r froz_r lt_r hX2 hT2 hb2
  have cell_x := x_2.cell
  have froz_x := x_2.frozen
  have lt_x := x_2.lt
  have cell_a := a_2.cell
  have froz_a := a_2.frozen
  have lt_a := a_2.lt
  have cell_r := r_2.cell
  have froz_r := r_2.frozen
  have lt_r := r_2.lt
  go_wp2_with fail
  refine calls_forget0 (W := w2) ?_ ?_
  (focus (exact belBy))
  intro X3 hX3
  have sX3 := hX3.size
  refine (sCopyS S _ _ _ _ _ _ _ ⟨own_weak (own_below oj_2 hX3) (Nat.zero_le _), own_weak (own_below ot_2 hX3) (Nat.zero_le _), own_weak (own_below of__2 hX3) (Nat.zero_le _)⟩ (by omega) (by omega) (by omega)).mono ?_
  rintro e w3 ⟨Nj, nj', Nt, nt', Nf, nf', rfl, nj_3, nt_3, nf_3, hb3⟩
  have s3 := hb3.size
  have hT3 := hX3.trans (hb3.mono sX3)
  have b_3 := b_2.trans (hT3.mono (by omega))
  have oj_3 := own_below oj_2 hT3
  have ot_3 := own_below ot_2 hT3
  have of__3 := own_below of__2 hT3
  have x_3 := Blk.past hT3 x_2
  have a_3 := Blk.past hT3 a_2
  have r_3 := Blk.past hT3 r_2
  have nj_in := own_in nj_3
  have nt_in := own_in nt_3
  have nf_in := own_in nf_3
  clear oj_2 ot_2 of__2 x_2 a_2 r_2 b_2 cell_x froz_x lt_x cell_a froz_a lt_a cell_r froz_r lt_r hX3 hT3 hb3
  have cell_x := x_3.cell
  have froz_x := x_3.frozen
  have lt_x := x_3.lt
  have cell_a := a_3.cell
  have froz_a := a_3.frozen
  have lt_a := a_3.lt
  have cell_r := r_3.cell
  have froz_r := r_3.frozen
  have lt_r := r_3.lt
  go_upto_region 12 with fail
  go_wp2_with fail
  refine calls_forget1 (W := w3) (b0 := w3.heap.size) (t0 := 40) (c0 := #[.int .i64 S.z, .int .i64 S.n, .int .i64 S.b, .slice Nj S.js.length nj', .slice Nt S.ts.length nt', .slice Nf S.fs.length nf']) ?_ ?_ ?_
  (focus exact blkcBy)
  (focus (exact belBy))
  intro X4 y_n hX4
  have sX4 := hX4.size
  have y_lt := y_n.lt
  refine (HPR.out _).mono ?_
  rintro e w4 ⟨rfl, hb4⟩
  have s4 := hb4.size
  have hT4 := hX4.trans (hb4.mono sX4)
  have b_4 := b_3.trans (hT4.mono (by omega))
  have oj_4 := own_below oj_3 hT4
  have ot_4 := own_below ot_3 hT4
  have of__4 := own_below of__3 hT4
  have nj_4 := own_below nj_3 hT4
  have nt_4 := own_below nt_3 hT4
  have nf_4 := own_below nf_3 hT4
  have x_4 := Blk.past hT4 x_3
  have a_4 := Blk.past hT4 a_3
  have r_4 := Blk.past hT4 r_3
  have y_4 := Blk.past hb4 y_n
  clear oj_3 ot_3 of__3 nj_3 nt_3 nf_3 x_3 a_3 r_3 b_3 cell_x froz_x lt_x cell_a froz_a lt_a cell_r froz_r lt_r y_n hX4 hT4 hb4
  have cell_x := x_4.cell
  have froz_x := x_4.frozen
  have lt_x := x_4.lt
  have cell_a := a_4.cell
  have froz_a := a_4.frozen
  have lt_a := a_4.lt
  have cell_r := r_4.cell
  have froz_r := r_4.frozen
  have lt_r := r_4.lt
  have cell_y := y_4.cell
  have froz_y := y_4.frozen
  have lt_y := y_4.lt
  go_upto_region 14 with fail
  refine wp_touch2 (w0 := w4) (L := [w3.heap.size]) (b0 := w3.heap.size) (t0 := 40) (c0 := #[.int .i64 S.z, .int .i64 S.n, .int .i64 pb, .slice Nj S.js.length nj', .slice Nt S.ts.length nt', .slice Nf S.fs.length nf']) (b1 := w4.heap.size) (t1 := 35) (c1 := #[.int .i64 S.z, .int .i64 S.n, .int .i64 pb]) ?_ ?_ ?_ ?_
  (focus exact blkcBy)
  (focus exact blkcBy)
  (focus (exact tchBy))
  intro w5 y_5 z_5 hX5
  have sX5 := hX5.size
  have z_lt := z_5.lt
  have b_5 := hX5.below b_4 (by first | (simp; done) | (simp; omega))
  have oj_5 := own_touch' hX5 oj_4 (fun q hq => by have h1 := oj_in q hq; (try have e0 := own_ne_obj oj_4 y_4 (by decide) q hq); simp; omega)
  have ot_5 := own_touch' hX5 ot_4 (fun q hq => by have h1 := ot_in q hq; (try have e0 := own_ne_obj ot_4 y_4 (by decide) q hq); simp; omega)
  have of__5 := own_touch' hX5 of__4 (fun q hq => by have h1 := of__in q hq; (try have e0 := own_ne_obj of__4 y_4 (by decide) q hq); simp; omega)
  have nj_5 := own_touch' hX5 nj_4 (fun q hq => by have h1 := nj_in q hq; (try have e0 := own_ne_obj nj_4 y_4 (by decide) q hq); simp; omega)
  have nt_5 := own_touch' hX5 nt_4 (fun q hq => by have h1 := nt_in q hq; (try have e0 := own_ne_obj nt_4 y_4 (by decide) q hq); simp; omega)
  have nf_5 := own_touch' hX5 nf_4 (fun q hq => by have h1 := nf_in q hq; (try have e0 := own_ne_obj nf_4 y_4 (by decide) q hq); simp; omega)
  have x_5 := Blk.touch hX5 x_4 (by first | (simp; done) | (simp; omega))
  have a_5 := Blk.touch hX5 a_4 (by first | (simp; done) | (simp; omega))
  have r_5 := Blk.touch hX5 r_4 (by first | (simp; done) | (simp; omega))
  clear oj_4 ot_4 of__4 nj_4 nt_4 nf_4 x_4 a_4 r_4 y_4 b_4 cell_x froz_x lt_x cell_a froz_a lt_a cell_r froz_r lt_r cell_y froz_y lt_y hX5
  have cell_x := x_5.cell
  have froz_x := x_5.frozen
  have lt_x := x_5.lt
  have cell_a := a_5.cell
  have froz_a := a_5.frozen
  have lt_a := a_5.lt
  have cell_r := r_5.cell
  have froz_r := r_5.frozen
  have lt_r := r_5.lt
  have cell_y := y_5.cell
  have froz_y := y_5.frozen
  have lt_y := y_5.lt
  have cell_z := z_5.cell
  have froz_z := z_5.frozen
  have lt_z := z_5.lt
  go_wp2_with fail
  go_region_with (first | (go_at_call 50; refine (s_bit _ _).mono ?_; rintro e w' ⟨rfl, rfl⟩))
  all_goals
    have HRJ2 := hid nj_5
    have HRT2 := hid nt_5
    have HRF2 := hid nf_5
    have HB2 := hid b_5
    have hXW : w.heap.size + 3 ≤ X3.heap.size := by omega
    clear nj_5 nt_5 nf_5 b_5
    go_wp2_with fail
    ((try simp only [Exit.inBlock, Exit.then]); apply bodyPost_ret0; focus ((try simp only [results, Tryz.results29]); (try go_simp); (try rfl)))
    refine ⟨Nj, nj', Nt, nt', Nf, nf', rfl, ?_, ?_, ?_, ?_⟩
    · (refine own_weak (base := X3.heap.size) ?_ (by omega); have h := HRJ2.out; exact ownBy)
    · (refine own_weak (base := X3.heap.size) ?_ (by omega); have h := HRT2.out; exact ownBy)
    · (refine own_weak (base := X3.heap.size) ?_ (by omega); have h := HRF2.out; exact ownBy)
    · (have hb := HB2.out; exact belBy)
theorem sDoAct (S : SV) (k i d n : Int) (J T F : Option Addr) (cj tcp cf : Nat) (w : World) (h : w.ownsRow 0 64 4 (.slice J S.js.length cj) S.js.length (ints (flatJ S.js)) ∧ w.ownsRow 0 88 2 (.slice T S.ts.length tcp) S.ts.length (ints (flatT S.ts)) ∧ w.ownsRow 0 3 1 (.slice F S.fs.length cf) S.fs.length (ints S.fs)) (b1 : S.js.length ≤ 10000000) (b2 : S.ts.length ≤ 10000000) (b3 : S.fs.length ≤ 10000000) :
    Calls Tryz.prog 29 #[.agg #[.int .i64 S.z, .int .i64 S.n, .int .i64 S.b, .slice J S.js.length cj, .slice T S.ts.length tcp, .slice F S.fs.length cf], .agg #[.int .i64 k, .int .i64 i, .int .i64 d, .int .i64 n]] w fun e w' => ∃ J' cj' T' tcp' F' cf', e = .returned (.tuple #[.agg #[.int .i64 ((doS S k i d n).z), .int .i64 ((doS S k i d n).n), .int .i64 ((doS S k i d n).b), .slice J' ((doS S k i d n).js.length) cj', .slice T' ((doS S k i d n).ts.length) tcp', .slice F' ((doS S k i d n).fs.length) cf'], .int .i64 (doI S k i d n)]) ∧
      w'.ownsRow w.heap.size 64 4 (.slice J' ((doS S k i d n).js).length cj') ((doS S k i d n).js).length (ints (flatJ ((doS S k i d n).js))) ∧ w'.ownsRow w.heap.size 88 2 (.slice T' ((doS S k i d n).ts).length tcp') ((doS S k i d n).ts).length (ints (flatT ((doS S k i d n).ts))) ∧ w'.ownsRow w.heap.size 3 1 (.slice F' ((doS S k i d n).fs).length cf') ((doS S k i d n).fs).length (ints ((doS S k i d n).fs)) ∧ Below w.heap.size w w' := by
  unfold doS doI doB
  cases hs : schedOkB S
  · exact sDoNoS S k i d n hs J T F cj tcp cf w h b1 b2 b3
  cases ha : actOkB k i d n
  · exact sDoNoA S k i d n hs ha J T F cj tcp cf w h b1 b2 b3
  rcases actOk_kind ha with rfl | rfl | rfl | rfl
  · exact sDo1 S i d n hs ha J T F cj tcp cf w h b1 b2 b3
  · exact sDo2 S i d n hs ha J T F cj tcp cf w h b1 b2 b3
  · exact sDo3 S i d n hs ha J T F cj tcp cf w h b1 b2 b3
  · exact sDo4 S i d n hs ha J T F cj tcp cf w h b1 b2 b3
end Go.Proofs.YtjknadnknainbaaGreatDoor
