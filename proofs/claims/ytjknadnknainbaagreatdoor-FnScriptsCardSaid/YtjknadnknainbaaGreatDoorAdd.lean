/- SchedAdd, in the program and in the reference. -/
import Derived.Test.YtjknadnknainbaaGreatDoorMem
import Derived.Test.YtjknadnknainbaaGreatDoorCrash
namespace Go.Proofs.YtjknadnknainbaaGreatDoor
open Go.RowKit

theorem job_one (a b c d : Int) : ∀ u ∈ [Value.int .i64 a, .int .i64 b, .int .i64 c, .int .i64 d], u.oneCell' = true := by
  intro u hu
  simp at hu
  rcases hu with rfl | rfl | rfl | rfl <;> rfl
theorem flat_add (js : List Jb) (j : Jb) : ints (flatJ js) ++ [.int .i64 j.i, .int .i64 j.n, .int .i64 j.l, .int .i64 j.d] = ints (flatJ (js ++ [j])) := by
  rw [flatJ_append]
  simp [flatJ, ints]
noncomputable def addR (S : SV) (id need rounds : Int) : SV := if addB S id need rounds then addS S id need rounds else S
theorem lenSchedAdd (S : SV) (id need rounds : Int) : (addR S id need rounds).js.length ≤ S.js.length + 1 ∧ (addR S id need rounds).ts.length ≤ S.ts.length ∧ (addR S id need rounds).fs.length ≤ S.fs.length := by
  unfold addR addS
  split
  · simp
  · simp
set_option maxHeartbeats 3200000 in
theorem iSchedAddL (S : SV) (id need rounds : Int) (J T F : Option Addr) (cj ct cf : Nat) (w : World) (h : w.ownsRow 0 64 4 (.slice J S.js.length cj) S.js.length (ints (flatJ S.js)) ∧ w.ownsRow 0 88 2 (.slice T S.ts.length ct) S.ts.length (ints (flatT S.ts)) ∧ w.ownsRow 0 3 1 (.slice F S.fs.length cf) S.fs.length (ints S.fs)) (b1 : S.js.length ≤ 100000000) (b2 : S.ts.length ≤ 1000000000) (b3 : S.fs.length ≤ 1000000000) :
    Calls Tryz.prog 67 #[.agg #[.int .i64 S.z, .int .i64 S.n, .int .i64 S.b, .slice J S.js.length cj, .slice T S.ts.length ct, .slice F S.fs.length cf], .int .i64 id, .int .i64 need, .int .i64 rounds] w fun e w' => ∃ J' cj' T' ct' F' cf', e = .returned (.tuple #[.agg #[.int .i64 ((addR S id need rounds).z), .int .i64 ((addR S id need rounds).n), .int .i64 ((addR S id need rounds).b), .slice J' ((addR S id need rounds).js.length) cj', .slice T' ((addR S id need rounds).ts.length) ct', .slice F' ((addR S id need rounds).fs.length) cf'], .bool (addB S id need rounds)]) ∧
      w'.ownsRow w.heap.size 64 4 (.slice J' ((addR S id need rounds).js).length cj') ((addR S id need rounds).js).length (ints (flatJ ((addR S id need rounds).js))) ∧ w'.ownsRow w.heap.size 88 2 (.slice T' ((addR S id need rounds).ts).length ct') ((addR S id need rounds).ts).length (ints (flatT ((addR S id need rounds).ts))) ∧ w'.ownsRow w.heap.size 3 1 (.slice F' ((addR S id need rounds).fs).length cf') ((addR S id need rounds).fs).length (ints ((addR S id need rounds).fs)) ∧ Below w.heap.size w w' := by
  obtain ⟨h1, h2, h3⟩ := h
  have HO := hid (iSchedOkS S)
  have HC := hid (fun J T F cj ct cf w h b1 b2 b3 => iCopyS S J T F cj ct cf w h b1 b2 b3)
  have e1 : (addS S id need rounds).js.length = S.js.length + 1 := by simp [addS]
  have e2 : ints (flatJ (addS S id need rounds).js) = ints (flatJ S.js) ++ [.int .i64 id, .int .i64 need, .int .i64 rounds, .int .i64 0] := (flat_add S.js ⟨id, need, rounds, 0⟩).symm
  have hA := fun J T F cj ct cf w h b1 b2 => iSchedOkS (addS S id need rounds) J T F cj ct cf w h b1 b2
  have hCA := fun J T F cj ct cf w h b1 b2 b3 => iCopyS (addS S id need rounds) J T F cj ct cf w h b1 b2 b3
  rw [e1, e2] at hA hCA
  have HA := hid hA
  have HCA := hid hCA
  clear hA hCA
  have hR : addB S id need rounds = (schedOkB S && schedOkB (addS S id need rounds)) := rfl
  cases p : schedOkB S
  · skip
    rw [p, Bool.false_and] at hR
    have eR : addR S id need rounds = S := by unfold addR; rw [hR]; rfl
    rw [eR, hR]
    rw [p] at HO
    clear hR eR HA HCA e1 e2
    go_enter Tryz.func67, Tryz.ntmps67
    have b_0 := (Below.refl w.heap.size w)
    have s_0 := b_0.size
    have oj_in := own_in h1
    have oj_0 := h1
    clear h1
    have ot_in := own_in h2
    have ot_0 := h2
    clear h2
    have of__in := own_in h3
    have of__0 := h3
    clear h3
    go_wp2_with fail
    refine calls_forget2 (W := w) (b0 := w.heap.size) (t0 := 40) (c0 := #[.int .i64 S.z, .int .i64 S.n, .int .i64 S.b, .slice J S.js.length cj, .slice T S.ts.length ct, .slice F S.fs.length cf]) (b1 := w.heap.size + 1) (t1 := 40) (c1 := #[.int .i64 0, .int .i64 0, .int .i64 0, .slice none 0 0, .slice none 0 0, .slice none 0 0]) ?_ ?_ ?_ ?_
    (focus exact blkcBy)
    (focus exact blkcBy)
    (focus (exact belBy))
    intro X1 x_n r_n hX1
    have sX1 := hX1.size
    have x_lt := x_n.lt
    have r_lt := r_n.lt
    refine (HC.out _ _ _ _ _ _ _ ⟨(own_below oj_0 hX1), (own_below ot_0 hX1), (own_below of__0 hX1)⟩ (by omega) b2 b3).mono ?_
    rintro e w1 ⟨J', cj', T', ct', F', cf', rfl, rj_1, rt_1, rf_1, hb1⟩
    have s1 := hb1.size
    have hT1 := hX1.trans (hb1.mono sX1)
    have b_1 := b_0.trans (hT1.mono (by omega))
    have oj_1 := own_below oj_0 hT1
    have ot_1 := own_below ot_0 hT1
    have of__1 := own_below of__0 hT1
    have x_1 := Blk.past hb1 x_n
    have r_1 := Blk.past hb1 r_n
    have rj_in := own_in rj_1
    have rt_in := own_in rt_1
    have rf_in := own_in rf_1
    clear oj_0 ot_0 of__0 b_0 x_n r_n hX1 hT1 hb1
    have cell_x := x_1.cell
    have froz_x := x_1.frozen
    have lt_x := x_1.lt
    have cell_r := r_1.cell
    have froz_r := r_1.frozen
    have lt_r := r_1.lt
    go_upto_region 2 with fail
    refine wp_forget1 (w0 := w1) (B := w1.heap.size) (b0 := w1.heap.size) (t0 := 40) (c0 := #[.int .i64 S.z, .int .i64 S.n, .int .i64 S.b, .slice J' S.js.length cj', .slice T' S.ts.length ct', .slice F' S.fs.length cf']) ?_ ?_ ?_
    (focus exact blkcBy)
    (focus (exact belBy))
    intro w2 o_2 hX2
    have sX2 := hX2.size
    have o_lt := o_2.lt
    have b_2 := b_1.trans (hX2.mono (by omega))
    have oj_2 := own_below oj_1 hX2
    have ot_2 := own_below ot_1 hX2
    have of__2 := own_below of__1 hX2
    have rj_2 := own_below rj_1 hX2
    have rt_2 := own_below rt_1 hX2
    have rf_2 := own_below rf_1 hX2
    have x_2 := Blk.past hX2 x_1
    have r_2 := Blk.past hX2 r_1
    clear oj_1 ot_1 of__1 rj_1 rt_1 rf_1 x_1 r_1 b_1 cell_x froz_x lt_x cell_r froz_r lt_r hX2
    have cell_x := x_2.cell
    have froz_x := x_2.frozen
    have lt_x := x_2.lt
    have cell_r := r_2.cell
    have froz_r := r_2.frozen
    have lt_r := r_2.lt
    have cell_o := o_2.cell
    have froz_o := o_2.frozen
    have lt_o := o_2.lt
    go_wp2_with (at_builtin; refine wpList_appi rfl _ _ 36 rfl X1.heap.size 64 (.agg #[.int .i64 0, .int .i64 0, .int .i64 0, .int .i64 0]) 4 32 Tryz.underlying36 infoJob rfl (by decide) _ S.js.length _ rfl (rj_2.alloc _) ⟨w2.heap.size, 0, none⟩ 1 1 _ rfl rfl (many_new _ [.int .i64 id, .int .i64 need, .int .i64 rounds, .int .i64 0] _) (job_one _ _ _ _) (by omega) (by decide) (by simp; omega) ?_)
    intro A_rj c_rj w3 rj_3 hg3 li3
    have hg3 := grown_alloc hg3
    try simp only [World.size_alloc] at li3
    have s3 := hg3.size
    have b_3 := gr_below hg3 b_2 (by omega) (fun q hq => by have h1 := rj_in q hq; omega)
    have oj_3 := gr_own hg3 oj_2 (fun q p hq hp => by first | (have h1 := rj_in q hq; have h2 := oj_in p hp; omega) | exact own_ne rj_2 oj_2 (by decide) q p hq hp | exact ne_rj_oj q p hq hp | exact (ne_oj_rj p q hp hq).symm)
    have ot_3 := gr_own hg3 ot_2 (fun q p hq hp => by first | (have h1 := rj_in q hq; have h2 := ot_in p hp; omega) | exact own_ne rj_2 ot_2 (by decide) q p hq hp | exact ne_rj_ot q p hq hp | exact (ne_ot_rj p q hp hq).symm)
    have of__3 := gr_own hg3 of__2 (fun q p hq hp => by first | (have h1 := rj_in q hq; have h2 := of__in p hp; omega) | exact own_ne rj_2 of__2 (by decide) q p hq hp | exact ne_rj_of_ q p hq hp | exact (ne_of__rj p q hp hq).symm)
    have rt_3 := gr_own hg3 rt_2 (fun q p hq hp => by first | (have h1 := rj_in q hq; have h2 := rt_in p hp; omega) | exact own_ne rj_2 rt_2 (by decide) q p hq hp | exact ne_rj_rt q p hq hp | exact (ne_rt_rj p q hp hq).symm)
    have rf_3 := gr_own hg3 rf_2 (fun q p hq hp => by first | (have h1 := rj_in q hq; have h2 := rf_in p hp; omega) | exact own_ne rj_2 rf_2 (by decide) q p hq hp | exact ne_rj_rf q p hq hp | exact (ne_rf_rj p q hp hq).symm)
    have x_3 := gr_blk hg3 x_2 (fun q hq => by have h1 := rj_in q hq; omega)
    have r_3 := gr_blk hg3 r_2 (fun q hq => by have h1 := rj_in q hq; omega)
    have o_3 := gr_blk hg3 o_2 (fun q hq => by have h1 := rj_in q hq; omega)
    have rj_ix : ∀ q, (Value.slice A_rj (S.js.length + 1) c_rj).ownBlock = some q → (X1.heap.size ≤ q ∧ q < w1.heap.size) ∨ w2.heap.size ≤ q := (fun q hq => by have h3 := (own_in rj_3 q hq).2; rcases li3 q hq with h | h; (have h1 := rj_in q h; omega); omega)
    clear oj_2 ot_2 of__2 rj_2 rt_2 rf_2 x_2 r_2 o_2 b_2 cell_x froz_x lt_x cell_r froz_r lt_r cell_o froz_o lt_o hg3 li3 rj_in
    have rj_in := rj_ix
    clear rj_ix
    have cell_x := x_3.cell
    have froz_x := x_3.frozen
    have lt_x := x_3.lt
    have cell_r := r_3.cell
    have froz_r := r_3.frozen
    have lt_r := r_3.lt
    have cell_o := o_3.cell
    have froz_o := o_3.frozen
    have lt_o := o_3.lt
    go_upto_region 3 with fail
    refine wp_touch1 (w0 := w3) (L := [w1.heap.size]) (b0 := w1.heap.size) (t0 := 40) (c0 := #[.int .i64 S.z, .int .i64 S.n, .int .i64 S.b, .slice A_rj (S.js.length + 1) c_rj, .slice T' S.ts.length ct', .slice F' S.fs.length cf']) ?_ ?_ ?_
    (focus exact blkcBy)
    (focus (exact tchBy))
    intro w4 o_4 hX4
    have sX4 := hX4.size
    have b_4 := hX4.below b_3 (by first | (simp; done) | (simp; omega))
    have oj_4 := own_touch' hX4 oj_3 (fun q hq => by have h1 := oj_in q hq; (try have e0 := own_ne_obj oj_3 o_3 (by decide) q hq); simp; omega)
    have ot_4 := own_touch' hX4 ot_3 (fun q hq => by have h1 := ot_in q hq; (try have e0 := own_ne_obj ot_3 o_3 (by decide) q hq); simp; omega)
    have of__4 := own_touch' hX4 of__3 (fun q hq => by have h1 := of__in q hq; (try have e0 := own_ne_obj of__3 o_3 (by decide) q hq); simp; omega)
    have rj_4 := own_touch' hX4 rj_3 (fun q hq => by have h1 := rj_in q hq; (try have e0 := own_ne_obj rj_3 o_3 (by decide) q hq); simp; omega)
    have rt_4 := own_touch' hX4 rt_3 (fun q hq => by have h1 := rt_in q hq; (try have e0 := own_ne_obj rt_3 o_3 (by decide) q hq); simp; omega)
    have rf_4 := own_touch' hX4 rf_3 (fun q hq => by have h1 := rf_in q hq; (try have e0 := own_ne_obj rf_3 o_3 (by decide) q hq); simp; omega)
    have x_4 := Blk.touch hX4 x_3 (by first | (simp; done) | (simp; omega))
    have r_4 := Blk.touch hX4 r_3 (by first | (simp; done) | (simp; omega))
    clear oj_3 ot_3 of__3 rj_3 rt_3 rf_3 x_3 r_3 o_3 b_3 cell_x froz_x lt_x cell_r froz_r lt_r cell_o froz_o lt_o hX4
    have cell_x := x_4.cell
    have froz_x := x_4.frozen
    have lt_x := x_4.lt
    have cell_r := r_4.cell
    have froz_r := r_4.frozen
    have lt_r := r_4.lt
    have cell_o := o_4.cell
    have froz_o := o_4.frozen
    have lt_o := o_4.lt
    go_wp2_with fail
    refine calls_forget0 (W := w4) ?_ ?_
    (focus (exact belBy))
    intro X5 hX5
    have sX5 := hX5.size
    refine (HO.out _ _ _ _ _ _ _ ⟨(own_below oj_4 hX5), (own_below ot_4 hX5), (own_below of__4 hX5)⟩ (by omega) b2).mono ?_
    rintro e w5 ⟨rfl, hb5⟩
    have s5 := hb5.size
    have hT5 := hX5.trans (hb5.mono sX5)
    have b_5 := b_4.trans (hT5.mono (by omega))
    have oj_5 := own_below oj_4 hT5
    have ot_5 := own_below ot_4 hT5
    have of__5 := own_below of__4 hT5
    have rj_5 := own_below rj_4 hT5
    have rt_5 := own_below rt_4 hT5
    have rf_5 := own_below rf_4 hT5
    have x_5 := Blk.past hT5 x_4
    have r_5 := Blk.past hT5 r_4
    have o_5 := Blk.past hT5 o_4
    clear oj_4 ot_4 of__4 rj_4 rt_4 rf_4 x_4 r_4 o_4 b_4 cell_x froz_x lt_x cell_r froz_r lt_r cell_o froz_o lt_o hX5 hT5 hb5
    have cell_x := x_5.cell
    have froz_x := x_5.frozen
    have lt_x := x_5.lt
    have cell_r := r_5.cell
    have froz_r := r_5.frozen
    have lt_r := r_5.lt
    have cell_o := o_5.cell
    have froz_o := o_5.frozen
    have lt_o := o_5.lt
    go_wp2_with fail
    refine calls_forget0 (W := w5) ?_ ?_
    (focus (exact belBy))
    intro X6 hX6
    have sX6 := hX6.size
    refine (HC.out _ _ _ _ _ _ _ ⟨(own_below oj_5 hX6), (own_below ot_5 hX6), (own_below of__5 hX6)⟩ (by omega) b2 b3).mono ?_
    rintro e w6 ⟨K', dj', L', dt', M', df', rfl, kj_6, kt_6, kf_6, hb6⟩
    have s6 := hb6.size
    have hT6 := hX6.trans (hb6.mono sX6)
    have b_6 := b_5.trans (hT6.mono (by omega))
    have oj_6 := own_below oj_5 hT6
    have ot_6 := own_below ot_5 hT6
    have of__6 := own_below of__5 hT6
    have rj_6 := own_below rj_5 hT6
    have rt_6 := own_below rt_5 hT6
    have rf_6 := own_below rf_5 hT6
    have x_6 := Blk.past hT6 x_5
    have r_6 := Blk.past hT6 r_5
    have o_6 := Blk.past hT6 o_5
    have kj_in := own_in kj_6
    have kt_in := own_in kt_6
    have kf_in := own_in kf_6
    clear oj_5 ot_5 of__5 rj_5 rt_5 rf_5 x_5 r_5 o_5 b_5 cell_x froz_x lt_x cell_r froz_r lt_r cell_o froz_o lt_o hX6 hT6 hb6
    have cell_x := x_6.cell
    have froz_x := x_6.frozen
    have lt_x := x_6.lt
    have cell_r := r_6.cell
    have froz_r := r_6.frozen
    have lt_r := r_6.lt
    have cell_o := o_6.cell
    have froz_o := o_6.frozen
    have lt_o := o_6.lt
    have HRJ := hid kj_6
    have HRT := hid kt_6
    have HRF := hid kf_6
    have HB := hid b_6
    have hXS : w.heap.size ≤ X6.heap.size := by omega
    have hXR : w.heap.size + 1 < X6.heap.size := by omega
    clear kj_6 kt_6 kf_6 b_6
    go_wp2_with fail
    ((try simp only [Exit.inBlock, Exit.then]); apply bodyPost_ret0; focus ((try simp only [results, Tryz.results67]); (try go_simp); (try rfl)))
    refine ⟨K', dj', L', dt', M', df', rfl, ?_, ?_, ?_, ?_⟩
    · refine own_weak (base := X6.heap.size) ?_ hXS
      have h := HRJ.out
      repeat (with_reducible first | assumption | apply World.ownsRow.drew | apply own_drewN | apply World.ownsRow.alloc | refine own_set ?_ _ _ (by first | omega | (simp; omega) | (dsimp only; omega)))
      all_goals exact h
    · refine own_weak (base := X6.heap.size) ?_ hXS
      have h := HRT.out
      repeat (with_reducible first | assumption | apply World.ownsRow.drew | apply own_drewN | apply World.ownsRow.alloc | refine own_set ?_ _ _ (by first | omega | (simp; omega) | (dsimp only; omega)))
      all_goals exact h
    · refine own_weak (base := X6.heap.size) ?_ hXS
      have h := HRF.out
      repeat (with_reducible first | assumption | apply World.ownsRow.drew | apply own_drewN | apply World.ownsRow.alloc | refine own_set ?_ _ _ (by first | omega | (simp; omega) | (dsimp only; omega)))
      all_goals exact h
    · have hb := HB.out
      exact belBy
  cases q : schedOkB (addS S id need rounds)
  · skip
    rw [p, q, Bool.and_false] at hR
    have eR : addR S id need rounds = S := by unfold addR; rw [hR]; rfl
    rw [eR, hR]
    rw [p] at HO
    rw [q] at HA
    clear hR eR HCA e1 e2
    go_enter Tryz.func67, Tryz.ntmps67
    have b_0 := (Below.refl w.heap.size w)
    have s_0 := b_0.size
    have oj_in := own_in h1
    have oj_0 := h1
    clear h1
    have ot_in := own_in h2
    have ot_0 := h2
    clear h2
    have of__in := own_in h3
    have of__0 := h3
    clear h3
    go_wp2_with fail
    refine calls_forget2 (W := w) (b0 := w.heap.size) (t0 := 40) (c0 := #[.int .i64 S.z, .int .i64 S.n, .int .i64 S.b, .slice J S.js.length cj, .slice T S.ts.length ct, .slice F S.fs.length cf]) (b1 := w.heap.size + 1) (t1 := 40) (c1 := #[.int .i64 0, .int .i64 0, .int .i64 0, .slice none 0 0, .slice none 0 0, .slice none 0 0]) ?_ ?_ ?_ ?_
    (focus exact blkcBy)
    (focus exact blkcBy)
    (focus (exact belBy))
    intro X1 x_n r_n hX1
    have sX1 := hX1.size
    have x_lt := x_n.lt
    have r_lt := r_n.lt
    refine (HC.out _ _ _ _ _ _ _ ⟨(own_below oj_0 hX1), (own_below ot_0 hX1), (own_below of__0 hX1)⟩ (by omega) b2 b3).mono ?_
    rintro e w1 ⟨J', cj', T', ct', F', cf', rfl, rj_1, rt_1, rf_1, hb1⟩
    have s1 := hb1.size
    have hT1 := hX1.trans (hb1.mono sX1)
    have b_1 := b_0.trans (hT1.mono (by omega))
    have oj_1 := own_below oj_0 hT1
    have ot_1 := own_below ot_0 hT1
    have of__1 := own_below of__0 hT1
    have x_1 := Blk.past hb1 x_n
    have r_1 := Blk.past hb1 r_n
    have rj_in := own_in rj_1
    have rt_in := own_in rt_1
    have rf_in := own_in rf_1
    clear oj_0 ot_0 of__0 b_0 x_n r_n hX1 hT1 hb1
    have cell_x := x_1.cell
    have froz_x := x_1.frozen
    have lt_x := x_1.lt
    have cell_r := r_1.cell
    have froz_r := r_1.frozen
    have lt_r := r_1.lt
    go_upto_region 2 with fail
    refine wp_forget1 (w0 := w1) (B := w1.heap.size) (b0 := w1.heap.size) (t0 := 40) (c0 := #[.int .i64 S.z, .int .i64 S.n, .int .i64 S.b, .slice J' S.js.length cj', .slice T' S.ts.length ct', .slice F' S.fs.length cf']) ?_ ?_ ?_
    (focus exact blkcBy)
    (focus (exact belBy))
    intro w2 o_2 hX2
    have sX2 := hX2.size
    have o_lt := o_2.lt
    have b_2 := b_1.trans (hX2.mono (by omega))
    have oj_2 := own_below oj_1 hX2
    have ot_2 := own_below ot_1 hX2
    have of__2 := own_below of__1 hX2
    have rj_2 := own_below rj_1 hX2
    have rt_2 := own_below rt_1 hX2
    have rf_2 := own_below rf_1 hX2
    have x_2 := Blk.past hX2 x_1
    have r_2 := Blk.past hX2 r_1
    clear oj_1 ot_1 of__1 rj_1 rt_1 rf_1 x_1 r_1 b_1 cell_x froz_x lt_x cell_r froz_r lt_r hX2
    have cell_x := x_2.cell
    have froz_x := x_2.frozen
    have lt_x := x_2.lt
    have cell_r := r_2.cell
    have froz_r := r_2.frozen
    have lt_r := r_2.lt
    have cell_o := o_2.cell
    have froz_o := o_2.frozen
    have lt_o := o_2.lt
    go_wp2_with (at_builtin; refine wpList_appi rfl _ _ 36 rfl X1.heap.size 64 (.agg #[.int .i64 0, .int .i64 0, .int .i64 0, .int .i64 0]) 4 32 Tryz.underlying36 infoJob rfl (by decide) _ S.js.length _ rfl (rj_2.alloc _) ⟨w2.heap.size, 0, none⟩ 1 1 _ rfl rfl (many_new _ [.int .i64 id, .int .i64 need, .int .i64 rounds, .int .i64 0] _) (job_one _ _ _ _) (by omega) (by decide) (by simp; omega) ?_)
    intro A_rj c_rj w3 rj_3 hg3 li3
    have hg3 := grown_alloc hg3
    try simp only [World.size_alloc] at li3
    have s3 := hg3.size
    have b_3 := gr_below hg3 b_2 (by omega) (fun q hq => by have h1 := rj_in q hq; omega)
    have oj_3 := gr_own hg3 oj_2 (fun q p hq hp => by first | (have h1 := rj_in q hq; have h2 := oj_in p hp; omega) | exact own_ne rj_2 oj_2 (by decide) q p hq hp | exact ne_rj_oj q p hq hp | exact (ne_oj_rj p q hp hq).symm)
    have ot_3 := gr_own hg3 ot_2 (fun q p hq hp => by first | (have h1 := rj_in q hq; have h2 := ot_in p hp; omega) | exact own_ne rj_2 ot_2 (by decide) q p hq hp | exact ne_rj_ot q p hq hp | exact (ne_ot_rj p q hp hq).symm)
    have of__3 := gr_own hg3 of__2 (fun q p hq hp => by first | (have h1 := rj_in q hq; have h2 := of__in p hp; omega) | exact own_ne rj_2 of__2 (by decide) q p hq hp | exact ne_rj_of_ q p hq hp | exact (ne_of__rj p q hp hq).symm)
    have rt_3 := gr_own hg3 rt_2 (fun q p hq hp => by first | (have h1 := rj_in q hq; have h2 := rt_in p hp; omega) | exact own_ne rj_2 rt_2 (by decide) q p hq hp | exact ne_rj_rt q p hq hp | exact (ne_rt_rj p q hp hq).symm)
    have rf_3 := gr_own hg3 rf_2 (fun q p hq hp => by first | (have h1 := rj_in q hq; have h2 := rf_in p hp; omega) | exact own_ne rj_2 rf_2 (by decide) q p hq hp | exact ne_rj_rf q p hq hp | exact (ne_rf_rj p q hp hq).symm)
    have x_3 := gr_blk hg3 x_2 (fun q hq => by have h1 := rj_in q hq; omega)
    have r_3 := gr_blk hg3 r_2 (fun q hq => by have h1 := rj_in q hq; omega)
    have o_3 := gr_blk hg3 o_2 (fun q hq => by have h1 := rj_in q hq; omega)
    have rj_ix : ∀ q, (Value.slice A_rj (S.js.length + 1) c_rj).ownBlock = some q → (X1.heap.size ≤ q ∧ q < w1.heap.size) ∨ w2.heap.size ≤ q := (fun q hq => by have h3 := (own_in rj_3 q hq).2; rcases li3 q hq with h | h; (have h1 := rj_in q h; omega); omega)
    clear oj_2 ot_2 of__2 rj_2 rt_2 rf_2 x_2 r_2 o_2 b_2 cell_x froz_x lt_x cell_r froz_r lt_r cell_o froz_o lt_o hg3 li3 rj_in
    have rj_in := rj_ix
    clear rj_ix
    have cell_x := x_3.cell
    have froz_x := x_3.frozen
    have lt_x := x_3.lt
    have cell_r := r_3.cell
    have froz_r := r_3.frozen
    have lt_r := r_3.lt
    have cell_o := o_3.cell
    have froz_o := o_3.frozen
    have lt_o := o_3.lt
    go_upto_region 3 with fail
    refine wp_touch1 (w0 := w3) (L := [w1.heap.size]) (b0 := w1.heap.size) (t0 := 40) (c0 := #[.int .i64 S.z, .int .i64 S.n, .int .i64 S.b, .slice A_rj (S.js.length + 1) c_rj, .slice T' S.ts.length ct', .slice F' S.fs.length cf']) ?_ ?_ ?_
    (focus exact blkcBy)
    (focus (exact tchBy))
    intro w4 o_4 hX4
    have sX4 := hX4.size
    have b_4 := hX4.below b_3 (by first | (simp; done) | (simp; omega))
    have oj_4 := own_touch' hX4 oj_3 (fun q hq => by have h1 := oj_in q hq; (try have e0 := own_ne_obj oj_3 o_3 (by decide) q hq); simp; omega)
    have ot_4 := own_touch' hX4 ot_3 (fun q hq => by have h1 := ot_in q hq; (try have e0 := own_ne_obj ot_3 o_3 (by decide) q hq); simp; omega)
    have of__4 := own_touch' hX4 of__3 (fun q hq => by have h1 := of__in q hq; (try have e0 := own_ne_obj of__3 o_3 (by decide) q hq); simp; omega)
    have rj_4 := own_touch' hX4 rj_3 (fun q hq => by have h1 := rj_in q hq; (try have e0 := own_ne_obj rj_3 o_3 (by decide) q hq); simp; omega)
    have rt_4 := own_touch' hX4 rt_3 (fun q hq => by have h1 := rt_in q hq; (try have e0 := own_ne_obj rt_3 o_3 (by decide) q hq); simp; omega)
    have rf_4 := own_touch' hX4 rf_3 (fun q hq => by have h1 := rf_in q hq; (try have e0 := own_ne_obj rf_3 o_3 (by decide) q hq); simp; omega)
    have x_4 := Blk.touch hX4 x_3 (by first | (simp; done) | (simp; omega))
    have r_4 := Blk.touch hX4 r_3 (by first | (simp; done) | (simp; omega))
    clear oj_3 ot_3 of__3 rj_3 rt_3 rf_3 x_3 r_3 o_3 b_3 cell_x froz_x lt_x cell_r froz_r lt_r cell_o froz_o lt_o hX4
    have cell_x := x_4.cell
    have froz_x := x_4.frozen
    have lt_x := x_4.lt
    have cell_r := r_4.cell
    have froz_r := r_4.frozen
    have lt_r := r_4.lt
    have cell_o := o_4.cell
    have froz_o := o_4.frozen
    have lt_o := o_4.lt
    go_wp2_with fail
    refine calls_forget0 (W := w4) ?_ ?_
    (focus (exact belBy))
    intro X5 hX5
    have sX5 := hX5.size
    refine (HO.out _ _ _ _ _ _ _ ⟨(own_below oj_4 hX5), (own_below ot_4 hX5), (own_below of__4 hX5)⟩ (by omega) b2).mono ?_
    rintro e w5 ⟨rfl, hb5⟩
    have s5 := hb5.size
    have hT5 := hX5.trans (hb5.mono sX5)
    have b_5 := b_4.trans (hT5.mono (by omega))
    have oj_5 := own_below oj_4 hT5
    have ot_5 := own_below ot_4 hT5
    have of__5 := own_below of__4 hT5
    have rj_5 := own_below rj_4 hT5
    have rt_5 := own_below rt_4 hT5
    have rf_5 := own_below rf_4 hT5
    have x_5 := Blk.past hT5 x_4
    have r_5 := Blk.past hT5 r_4
    have o_5 := Blk.past hT5 o_4
    clear oj_4 ot_4 of__4 rj_4 rt_4 rf_4 x_4 r_4 o_4 b_4 cell_x froz_x lt_x cell_r froz_r lt_r cell_o froz_o lt_o hX5 hT5 hb5
    have cell_x := x_5.cell
    have froz_x := x_5.frozen
    have lt_x := x_5.lt
    have cell_r := r_5.cell
    have froz_r := r_5.frozen
    have lt_r := r_5.lt
    have cell_o := o_5.cell
    have froz_o := o_5.frozen
    have lt_o := o_5.lt
    go_wp2_with fail
    refine calls_forget0 (W := w5) ?_ ?_
    (focus (exact belBy))
    intro X6 hX6
    have sX6 := hX6.size
    refine (HA.out _ _ _ _ _ _ _ ⟨own_weak (own_below rj_5 hX6) (Nat.zero_le _), own_weak (own_below rt_5 hX6) (Nat.zero_le _), own_weak (own_below rf_5 hX6) (Nat.zero_le _)⟩ (by omega) b2).mono ?_
    rintro e w6 ⟨rfl, hb6⟩
    have s6 := hb6.size
    have hT6 := hX6.trans (hb6.mono sX6)
    have b_6 := b_5.trans (hT6.mono (by omega))
    have oj_6 := own_below oj_5 hT6
    have ot_6 := own_below ot_5 hT6
    have of__6 := own_below of__5 hT6
    have rj_6 := own_below rj_5 hT6
    have rt_6 := own_below rt_5 hT6
    have rf_6 := own_below rf_5 hT6
    have x_6 := Blk.past hT6 x_5
    have r_6 := Blk.past hT6 r_5
    have o_6 := Blk.past hT6 o_5
    clear oj_5 ot_5 of__5 rj_5 rt_5 rf_5 x_5 r_5 o_5 b_5 cell_x froz_x lt_x cell_r froz_r lt_r cell_o froz_o lt_o hX6 hT6 hb6
    have cell_x := x_6.cell
    have froz_x := x_6.frozen
    have lt_x := x_6.lt
    have cell_r := r_6.cell
    have froz_r := r_6.frozen
    have lt_r := r_6.lt
    have cell_o := o_6.cell
    have froz_o := o_6.frozen
    have lt_o := o_6.lt
    go_wp2_with fail
    refine calls_forget0 (W := w6) ?_ ?_
    (focus (exact belBy))
    intro X7 hX7
    have sX7 := hX7.size
    refine (HC.out _ _ _ _ _ _ _ ⟨(own_below oj_6 hX7), (own_below ot_6 hX7), (own_below of__6 hX7)⟩ (by omega) b2 b3).mono ?_
    rintro e w7 ⟨K', dj', L', dt', M', df', rfl, kj_7, kt_7, kf_7, hb7⟩
    have s7 := hb7.size
    have hT7 := hX7.trans (hb7.mono sX7)
    have b_7 := b_6.trans (hT7.mono (by omega))
    have oj_7 := own_below oj_6 hT7
    have ot_7 := own_below ot_6 hT7
    have of__7 := own_below of__6 hT7
    have rj_7 := own_below rj_6 hT7
    have rt_7 := own_below rt_6 hT7
    have rf_7 := own_below rf_6 hT7
    have x_7 := Blk.past hT7 x_6
    have r_7 := Blk.past hT7 r_6
    have o_7 := Blk.past hT7 o_6
    have kj_in := own_in kj_7
    have kt_in := own_in kt_7
    have kf_in := own_in kf_7
    clear oj_6 ot_6 of__6 rj_6 rt_6 rf_6 x_6 r_6 o_6 b_6 cell_x froz_x lt_x cell_r froz_r lt_r cell_o froz_o lt_o hX7 hT7 hb7
    have cell_x := x_7.cell
    have froz_x := x_7.frozen
    have lt_x := x_7.lt
    have cell_r := r_7.cell
    have froz_r := r_7.frozen
    have lt_r := r_7.lt
    have cell_o := o_7.cell
    have froz_o := o_7.frozen
    have lt_o := o_7.lt
    have HRJ := hid kj_7
    have HRT := hid kt_7
    have HRF := hid kf_7
    have HB := hid b_7
    have hXS : w.heap.size ≤ X7.heap.size := by omega
    have hXR : w.heap.size + 1 < X7.heap.size := by omega
    clear kj_7 kt_7 kf_7 b_7
    go_wp2_with fail
    ((try simp only [Exit.inBlock, Exit.then]); apply bodyPost_ret0; focus ((try simp only [results, Tryz.results67]); (try go_simp); (try rfl)))
    refine ⟨K', dj', L', dt', M', df', rfl, ?_, ?_, ?_, ?_⟩
    · refine own_weak (base := X7.heap.size) ?_ hXS
      have h := HRJ.out
      repeat (with_reducible first | assumption | apply World.ownsRow.drew | apply own_drewN | apply World.ownsRow.alloc | refine own_set ?_ _ _ (by first | omega | (simp; omega) | (dsimp only; omega)))
      all_goals exact h
    · refine own_weak (base := X7.heap.size) ?_ hXS
      have h := HRT.out
      repeat (with_reducible first | assumption | apply World.ownsRow.drew | apply own_drewN | apply World.ownsRow.alloc | refine own_set ?_ _ _ (by first | omega | (simp; omega) | (dsimp only; omega)))
      all_goals exact h
    · refine own_weak (base := X7.heap.size) ?_ hXS
      have h := HRF.out
      repeat (with_reducible first | assumption | apply World.ownsRow.drew | apply own_drewN | apply World.ownsRow.alloc | refine own_set ?_ _ _ (by first | omega | (simp; omega) | (dsimp only; omega)))
      all_goals exact h
    · have hb := HB.out
      exact belBy
  · skip
    rw [p, q, Bool.and_true] at hR
    have eR : addR S id need rounds = addS S id need rounds := by unfold addR; rw [hR]; rfl
    rw [eR, hR, e1, e2]
    rw [p] at HO
    rw [q] at HA
    clear hR eR e1 e2
    go_enter Tryz.func67, Tryz.ntmps67
    have b_0 := (Below.refl w.heap.size w)
    have s_0 := b_0.size
    have oj_in := own_in h1
    have oj_0 := h1
    clear h1
    have ot_in := own_in h2
    have ot_0 := h2
    clear h2
    have of__in := own_in h3
    have of__0 := h3
    clear h3
    go_wp2_with fail
    refine calls_forget2 (W := w) (b0 := w.heap.size) (t0 := 40) (c0 := #[.int .i64 S.z, .int .i64 S.n, .int .i64 S.b, .slice J S.js.length cj, .slice T S.ts.length ct, .slice F S.fs.length cf]) (b1 := w.heap.size + 1) (t1 := 40) (c1 := #[.int .i64 0, .int .i64 0, .int .i64 0, .slice none 0 0, .slice none 0 0, .slice none 0 0]) ?_ ?_ ?_ ?_
    (focus exact blkcBy)
    (focus exact blkcBy)
    (focus (exact belBy))
    intro X1 x_n r_n hX1
    have sX1 := hX1.size
    have x_lt := x_n.lt
    have r_lt := r_n.lt
    refine (HC.out _ _ _ _ _ _ _ ⟨(own_below oj_0 hX1), (own_below ot_0 hX1), (own_below of__0 hX1)⟩ (by omega) b2 b3).mono ?_
    rintro e w1 ⟨J', cj', T', ct', F', cf', rfl, rj_1, rt_1, rf_1, hb1⟩
    have s1 := hb1.size
    have hT1 := hX1.trans (hb1.mono sX1)
    have b_1 := b_0.trans (hT1.mono (by omega))
    have oj_1 := own_below oj_0 hT1
    have ot_1 := own_below ot_0 hT1
    have of__1 := own_below of__0 hT1
    have x_1 := Blk.past hb1 x_n
    have r_1 := Blk.past hb1 r_n
    have rj_in := own_in rj_1
    have rt_in := own_in rt_1
    have rf_in := own_in rf_1
    clear oj_0 ot_0 of__0 b_0 x_n r_n hX1 hT1 hb1
    have cell_x := x_1.cell
    have froz_x := x_1.frozen
    have lt_x := x_1.lt
    have cell_r := r_1.cell
    have froz_r := r_1.frozen
    have lt_r := r_1.lt
    go_upto_region 2 with fail
    refine wp_forget1 (w0 := w1) (B := w1.heap.size) (b0 := w1.heap.size) (t0 := 40) (c0 := #[.int .i64 S.z, .int .i64 S.n, .int .i64 S.b, .slice J' S.js.length cj', .slice T' S.ts.length ct', .slice F' S.fs.length cf']) ?_ ?_ ?_
    (focus exact blkcBy)
    (focus (exact belBy))
    intro w2 o_2 hX2
    have sX2 := hX2.size
    have o_lt := o_2.lt
    have b_2 := b_1.trans (hX2.mono (by omega))
    have oj_2 := own_below oj_1 hX2
    have ot_2 := own_below ot_1 hX2
    have of__2 := own_below of__1 hX2
    have rj_2 := own_below rj_1 hX2
    have rt_2 := own_below rt_1 hX2
    have rf_2 := own_below rf_1 hX2
    have x_2 := Blk.past hX2 x_1
    have r_2 := Blk.past hX2 r_1
    clear oj_1 ot_1 of__1 rj_1 rt_1 rf_1 x_1 r_1 b_1 cell_x froz_x lt_x cell_r froz_r lt_r hX2
    have cell_x := x_2.cell
    have froz_x := x_2.frozen
    have lt_x := x_2.lt
    have cell_r := r_2.cell
    have froz_r := r_2.frozen
    have lt_r := r_2.lt
    have cell_o := o_2.cell
    have froz_o := o_2.frozen
    have lt_o := o_2.lt
    go_wp2_with (at_builtin; refine wpList_appi rfl _ _ 36 rfl X1.heap.size 64 (.agg #[.int .i64 0, .int .i64 0, .int .i64 0, .int .i64 0]) 4 32 Tryz.underlying36 infoJob rfl (by decide) _ S.js.length _ rfl (rj_2.alloc _) ⟨w2.heap.size, 0, none⟩ 1 1 _ rfl rfl (many_new _ [.int .i64 id, .int .i64 need, .int .i64 rounds, .int .i64 0] _) (job_one _ _ _ _) (by omega) (by decide) (by simp; omega) ?_)
    intro A_rj c_rj w3 rj_3 hg3 li3
    have hg3 := grown_alloc hg3
    try simp only [World.size_alloc] at li3
    have s3 := hg3.size
    have b_3 := gr_below hg3 b_2 (by omega) (fun q hq => by have h1 := rj_in q hq; omega)
    have oj_3 := gr_own hg3 oj_2 (fun q p hq hp => by first | (have h1 := rj_in q hq; have h2 := oj_in p hp; omega) | exact own_ne rj_2 oj_2 (by decide) q p hq hp | exact ne_rj_oj q p hq hp | exact (ne_oj_rj p q hp hq).symm)
    have ot_3 := gr_own hg3 ot_2 (fun q p hq hp => by first | (have h1 := rj_in q hq; have h2 := ot_in p hp; omega) | exact own_ne rj_2 ot_2 (by decide) q p hq hp | exact ne_rj_ot q p hq hp | exact (ne_ot_rj p q hp hq).symm)
    have of__3 := gr_own hg3 of__2 (fun q p hq hp => by first | (have h1 := rj_in q hq; have h2 := of__in p hp; omega) | exact own_ne rj_2 of__2 (by decide) q p hq hp | exact ne_rj_of_ q p hq hp | exact (ne_of__rj p q hp hq).symm)
    have rt_3 := gr_own hg3 rt_2 (fun q p hq hp => by first | (have h1 := rj_in q hq; have h2 := rt_in p hp; omega) | exact own_ne rj_2 rt_2 (by decide) q p hq hp | exact ne_rj_rt q p hq hp | exact (ne_rt_rj p q hp hq).symm)
    have rf_3 := gr_own hg3 rf_2 (fun q p hq hp => by first | (have h1 := rj_in q hq; have h2 := rf_in p hp; omega) | exact own_ne rj_2 rf_2 (by decide) q p hq hp | exact ne_rj_rf q p hq hp | exact (ne_rf_rj p q hp hq).symm)
    have x_3 := gr_blk hg3 x_2 (fun q hq => by have h1 := rj_in q hq; omega)
    have r_3 := gr_blk hg3 r_2 (fun q hq => by have h1 := rj_in q hq; omega)
    have o_3 := gr_blk hg3 o_2 (fun q hq => by have h1 := rj_in q hq; omega)
    have rj_ix : ∀ q, (Value.slice A_rj (S.js.length + 1) c_rj).ownBlock = some q → (X1.heap.size ≤ q ∧ q < w1.heap.size) ∨ w2.heap.size ≤ q := (fun q hq => by have h3 := (own_in rj_3 q hq).2; rcases li3 q hq with h | h; (have h1 := rj_in q h; omega); omega)
    clear oj_2 ot_2 of__2 rj_2 rt_2 rf_2 x_2 r_2 o_2 b_2 cell_x froz_x lt_x cell_r froz_r lt_r cell_o froz_o lt_o hg3 li3 rj_in
    have rj_in := rj_ix
    clear rj_ix
    have cell_x := x_3.cell
    have froz_x := x_3.frozen
    have lt_x := x_3.lt
    have cell_r := r_3.cell
    have froz_r := r_3.frozen
    have lt_r := r_3.lt
    have cell_o := o_3.cell
    have froz_o := o_3.frozen
    have lt_o := o_3.lt
    go_upto_region 3 with fail
    refine wp_touch1 (w0 := w3) (L := [w1.heap.size]) (b0 := w1.heap.size) (t0 := 40) (c0 := #[.int .i64 S.z, .int .i64 S.n, .int .i64 S.b, .slice A_rj (S.js.length + 1) c_rj, .slice T' S.ts.length ct', .slice F' S.fs.length cf']) ?_ ?_ ?_
    (focus exact blkcBy)
    (focus (exact tchBy))
    intro w4 o_4 hX4
    have sX4 := hX4.size
    have b_4 := hX4.below b_3 (by first | (simp; done) | (simp; omega))
    have oj_4 := own_touch' hX4 oj_3 (fun q hq => by have h1 := oj_in q hq; (try have e0 := own_ne_obj oj_3 o_3 (by decide) q hq); simp; omega)
    have ot_4 := own_touch' hX4 ot_3 (fun q hq => by have h1 := ot_in q hq; (try have e0 := own_ne_obj ot_3 o_3 (by decide) q hq); simp; omega)
    have of__4 := own_touch' hX4 of__3 (fun q hq => by have h1 := of__in q hq; (try have e0 := own_ne_obj of__3 o_3 (by decide) q hq); simp; omega)
    have rj_4 := own_touch' hX4 rj_3 (fun q hq => by have h1 := rj_in q hq; (try have e0 := own_ne_obj rj_3 o_3 (by decide) q hq); simp; omega)
    have rt_4 := own_touch' hX4 rt_3 (fun q hq => by have h1 := rt_in q hq; (try have e0 := own_ne_obj rt_3 o_3 (by decide) q hq); simp; omega)
    have rf_4 := own_touch' hX4 rf_3 (fun q hq => by have h1 := rf_in q hq; (try have e0 := own_ne_obj rf_3 o_3 (by decide) q hq); simp; omega)
    have x_4 := Blk.touch hX4 x_3 (by first | (simp; done) | (simp; omega))
    have r_4 := Blk.touch hX4 r_3 (by first | (simp; done) | (simp; omega))
    clear oj_3 ot_3 of__3 rj_3 rt_3 rf_3 x_3 r_3 o_3 b_3 cell_x froz_x lt_x cell_r froz_r lt_r cell_o froz_o lt_o hX4
    have cell_x := x_4.cell
    have froz_x := x_4.frozen
    have lt_x := x_4.lt
    have cell_r := r_4.cell
    have froz_r := r_4.frozen
    have lt_r := r_4.lt
    have cell_o := o_4.cell
    have froz_o := o_4.frozen
    have lt_o := o_4.lt
    go_wp2_with fail
    refine calls_forget0 (W := w4) ?_ ?_
    (focus (exact belBy))
    intro X5 hX5
    have sX5 := hX5.size
    refine (HO.out _ _ _ _ _ _ _ ⟨(own_below oj_4 hX5), (own_below ot_4 hX5), (own_below of__4 hX5)⟩ (by omega) b2).mono ?_
    rintro e w5 ⟨rfl, hb5⟩
    have s5 := hb5.size
    have hT5 := hX5.trans (hb5.mono sX5)
    have b_5 := b_4.trans (hT5.mono (by omega))
    have oj_5 := own_below oj_4 hT5
    have ot_5 := own_below ot_4 hT5
    have of__5 := own_below of__4 hT5
    have rj_5 := own_below rj_4 hT5
    have rt_5 := own_below rt_4 hT5
    have rf_5 := own_below rf_4 hT5
    have x_5 := Blk.past hT5 x_4
    have r_5 := Blk.past hT5 r_4
    have o_5 := Blk.past hT5 o_4
    clear oj_4 ot_4 of__4 rj_4 rt_4 rf_4 x_4 r_4 o_4 b_4 cell_x froz_x lt_x cell_r froz_r lt_r cell_o froz_o lt_o hX5 hT5 hb5
    have cell_x := x_5.cell
    have froz_x := x_5.frozen
    have lt_x := x_5.lt
    have cell_r := r_5.cell
    have froz_r := r_5.frozen
    have lt_r := r_5.lt
    have cell_o := o_5.cell
    have froz_o := o_5.frozen
    have lt_o := o_5.lt
    go_wp2_with fail
    refine calls_forget0 (W := w5) ?_ ?_
    (focus (exact belBy))
    intro X6 hX6
    have sX6 := hX6.size
    refine (HA.out _ _ _ _ _ _ _ ⟨own_weak (own_below rj_5 hX6) (Nat.zero_le _), own_weak (own_below rt_5 hX6) (Nat.zero_le _), own_weak (own_below rf_5 hX6) (Nat.zero_le _)⟩ (by omega) b2).mono ?_
    rintro e w6 ⟨rfl, hb6⟩
    have s6 := hb6.size
    have hT6 := hX6.trans (hb6.mono sX6)
    have b_6 := b_5.trans (hT6.mono (by omega))
    have oj_6 := own_below oj_5 hT6
    have ot_6 := own_below ot_5 hT6
    have of__6 := own_below of__5 hT6
    have rj_6 := own_below rj_5 hT6
    have rt_6 := own_below rt_5 hT6
    have rf_6 := own_below rf_5 hT6
    have x_6 := Blk.past hT6 x_5
    have r_6 := Blk.past hT6 r_5
    have o_6 := Blk.past hT6 o_5
    clear oj_5 ot_5 of__5 rj_5 rt_5 rf_5 x_5 r_5 o_5 b_5 cell_x froz_x lt_x cell_r froz_r lt_r cell_o froz_o lt_o hX6 hT6 hb6
    have cell_x := x_6.cell
    have froz_x := x_6.frozen
    have lt_x := x_6.lt
    have cell_r := r_6.cell
    have froz_r := r_6.frozen
    have lt_r := r_6.lt
    have cell_o := o_6.cell
    have froz_o := o_6.frozen
    have lt_o := o_6.lt
    have HRJ := hid rj_6
    have HRT := hid rt_6
    have HRF := hid rf_6
    have HB := hid b_6
    have hXS : w.heap.size ≤ X1.heap.size := by omega
    have hXR : w.heap.size + 1 < X1.heap.size := by omega
    clear rj_6 rt_6 rf_6 b_6
    go_wp2_with fail
    ((try simp only [Exit.inBlock, Exit.then]); apply bodyPost_ret0; focus ((try simp only [results, Tryz.results67]); (try go_simp); (try rfl)))
    refine ⟨A_rj, c_rj, T', ct', F', cf', rfl, ?_, ?_, ?_, ?_⟩
    · refine own_weak (base := X1.heap.size) ?_ hXS
      have h := HRJ.out
      repeat (with_reducible first | assumption | apply World.ownsRow.drew | apply own_drewN | apply World.ownsRow.alloc | refine own_set ?_ _ _ (by first | omega | (simp; omega) | (dsimp only; omega)))
      all_goals exact h
    · refine own_weak (base := X1.heap.size) ?_ hXS
      have h := HRT.out
      repeat (with_reducible first | assumption | apply World.ownsRow.drew | apply own_drewN | apply World.ownsRow.alloc | refine own_set ?_ _ _ (by first | omega | (simp; omega) | (dsimp only; omega)))
      all_goals exact h
    · refine own_weak (base := X1.heap.size) ?_ hXS
      have h := HRF.out
      repeat (with_reducible first | assumption | apply World.ownsRow.drew | apply own_drewN | apply World.ownsRow.alloc | refine own_set ?_ _ _ (by first | omega | (simp; omega) | (dsimp only; omega)))
      all_goals exact h
    · have hb := HB.out
      exact belBy
set_option maxHeartbeats 3200000 in
theorem sSchedAddL (S : SV) (id need rounds : Int) (J T F : Option Addr) (cj ct cf : Nat) (w : World) (h : w.ownsRow 0 64 4 (.slice J S.js.length cj) S.js.length (ints (flatJ S.js)) ∧ w.ownsRow 0 88 2 (.slice T S.ts.length ct) S.ts.length (ints (flatT S.ts)) ∧ w.ownsRow 0 3 1 (.slice F S.fs.length cf) S.fs.length (ints S.fs)) (b1 : S.js.length ≤ 100000000) (b2 : S.ts.length ≤ 1000000000) (b3 : S.fs.length ≤ 1000000000) :
    Calls Tryz.prog 49 #[.agg #[.int .i64 S.z, .int .i64 S.n, .int .i64 S.b, .slice J S.js.length cj, .slice T S.ts.length ct, .slice F S.fs.length cf], .int .i64 id, .int .i64 need, .int .i64 rounds] w fun e w' => ∃ J' cj' T' ct' F' cf', e = .returned (.tuple #[.agg #[.int .i64 ((addR S id need rounds).z), .int .i64 ((addR S id need rounds).n), .int .i64 ((addR S id need rounds).b), .slice J' ((addR S id need rounds).js.length) cj', .slice T' ((addR S id need rounds).ts.length) ct', .slice F' ((addR S id need rounds).fs.length) cf'], .bool (addB S id need rounds)]) ∧
      w'.ownsRow w.heap.size 64 4 (.slice J' ((addR S id need rounds).js).length cj') ((addR S id need rounds).js).length (ints (flatJ ((addR S id need rounds).js))) ∧ w'.ownsRow w.heap.size 88 2 (.slice T' ((addR S id need rounds).ts).length ct') ((addR S id need rounds).ts).length (ints (flatT ((addR S id need rounds).ts))) ∧ w'.ownsRow w.heap.size 3 1 (.slice F' ((addR S id need rounds).fs).length cf') ((addR S id need rounds).fs).length (ints ((addR S id need rounds).fs)) ∧ Below w.heap.size w w' := by
  obtain ⟨h1, h2, h3⟩ := h
  have HO := hid (sSchedOkS S)
  have HC := hid (fun J T F cj ct cf w h b1 b2 b3 => sCopyS S J T F cj ct cf w h b1 b2 b3)
  have e1 : (addS S id need rounds).js.length = S.js.length + 1 := by simp [addS]
  have e2 : ints (flatJ (addS S id need rounds).js) = ints (flatJ S.js) ++ [.int .i64 id, .int .i64 need, .int .i64 rounds, .int .i64 0] := (flat_add S.js ⟨id, need, rounds, 0⟩).symm
  have hA := fun J T F cj ct cf w h b1 b2 => sSchedOkS (addS S id need rounds) J T F cj ct cf w h b1 b2
  have hCA := fun J T F cj ct cf w h b1 b2 b3 => sCopyS (addS S id need rounds) J T F cj ct cf w h b1 b2 b3
  rw [e1, e2] at hA hCA
  have HA := hid hA
  have HCA := hid hCA
  clear hA hCA
  have hR : addB S id need rounds = (schedOkB S && schedOkB (addS S id need rounds)) := rfl
  cases p : schedOkB S
  · skip
    rw [p, Bool.false_and] at hR
    have eR : addR S id need rounds = S := by unfold addR; rw [hR]; rfl
    rw [eR, hR]
    rw [p] at HO
    clear hR eR HA HCA e1 e2
    go_enter Tryz.func49, Tryz.ntmps49
    have b_0 := (Below.refl w.heap.size w)
    have s_0 := b_0.size
    have oj_in := own_in h1
    have oj_0 := h1
    clear h1
    have ot_in := own_in h2
    have ot_0 := h2
    clear h2
    have of__in := own_in h3
    have of__0 := h3
    clear h3
    go_wp2_with fail
    refine calls_forget2 (W := w) (b0 := w.heap.size) (t0 := 40) (c0 := #[.int .i64 S.z, .int .i64 S.n, .int .i64 S.b, .slice J S.js.length cj, .slice T S.ts.length ct, .slice F S.fs.length cf]) (b1 := w.heap.size + 1) (t1 := 40) (c1 := #[.int .i64 0, .int .i64 0, .int .i64 0, .slice none 0 0, .slice none 0 0, .slice none 0 0]) ?_ ?_ ?_ ?_
    (focus exact blkcBy)
    (focus exact blkcBy)
    (focus (exact belBy))
    intro X1 x_n r_n hX1
    have sX1 := hX1.size
    have x_lt := x_n.lt
    have r_lt := r_n.lt
    refine (HC.out _ _ _ _ _ _ _ ⟨(own_below oj_0 hX1), (own_below ot_0 hX1), (own_below of__0 hX1)⟩ (by omega) b2 b3).mono ?_
    rintro e w1 ⟨J', cj', T', ct', F', cf', rfl, rj_1, rt_1, rf_1, hb1⟩
    have s1 := hb1.size
    have hT1 := hX1.trans (hb1.mono sX1)
    have b_1 := b_0.trans (hT1.mono (by omega))
    have oj_1 := own_below oj_0 hT1
    have ot_1 := own_below ot_0 hT1
    have of__1 := own_below of__0 hT1
    have x_1 := Blk.past hb1 x_n
    have r_1 := Blk.past hb1 r_n
    have rj_in := own_in rj_1
    have rt_in := own_in rt_1
    have rf_in := own_in rf_1
    clear oj_0 ot_0 of__0 b_0 x_n r_n hX1 hT1 hb1
    have cell_x := x_1.cell
    have froz_x := x_1.frozen
    have lt_x := x_1.lt
    have cell_r := r_1.cell
    have froz_r := r_1.frozen
    have lt_r := r_1.lt
    go_upto_region 2 with fail
    refine wp_forget1 (w0 := w1) (B := w1.heap.size) (b0 := w1.heap.size) (t0 := 40) (c0 := #[.int .i64 S.z, .int .i64 S.n, .int .i64 S.b, .slice J' S.js.length cj', .slice T' S.ts.length ct', .slice F' S.fs.length cf']) ?_ ?_ ?_
    (focus exact blkcBy)
    (focus (exact belBy))
    intro w2 o_2 hX2
    have sX2 := hX2.size
    have o_lt := o_2.lt
    have b_2 := b_1.trans (hX2.mono (by omega))
    have oj_2 := own_below oj_1 hX2
    have ot_2 := own_below ot_1 hX2
    have of__2 := own_below of__1 hX2
    have rj_2 := own_below rj_1 hX2
    have rt_2 := own_below rt_1 hX2
    have rf_2 := own_below rf_1 hX2
    have x_2 := Blk.past hX2 x_1
    have r_2 := Blk.past hX2 r_1
    clear oj_1 ot_1 of__1 rj_1 rt_1 rf_1 x_1 r_1 b_1 cell_x froz_x lt_x cell_r froz_r lt_r hX2
    have cell_x := x_2.cell
    have froz_x := x_2.frozen
    have lt_x := x_2.lt
    have cell_r := r_2.cell
    have froz_r := r_2.frozen
    have lt_r := r_2.lt
    have cell_o := o_2.cell
    have froz_o := o_2.frozen
    have lt_o := o_2.lt
    go_wp2_with (at_builtin; refine wpList_appi rfl _ _ 36 rfl X1.heap.size 64 (.agg #[.int .i64 0, .int .i64 0, .int .i64 0, .int .i64 0]) 4 32 Tryz.underlying36 infoJob rfl (by decide) _ S.js.length _ rfl (rj_2.alloc _) ⟨w2.heap.size, 0, none⟩ 1 1 _ rfl rfl (many_new _ [.int .i64 id, .int .i64 need, .int .i64 rounds, .int .i64 0] _) (job_one _ _ _ _) (by omega) (by decide) (by simp; omega) ?_)
    intro A_rj c_rj w3 rj_3 hg3 li3
    have hg3 := grown_alloc hg3
    try simp only [World.size_alloc] at li3
    have s3 := hg3.size
    have b_3 := gr_below hg3 b_2 (by omega) (fun q hq => by have h1 := rj_in q hq; omega)
    have oj_3 := gr_own hg3 oj_2 (fun q p hq hp => by first | (have h1 := rj_in q hq; have h2 := oj_in p hp; omega) | exact own_ne rj_2 oj_2 (by decide) q p hq hp | exact ne_rj_oj q p hq hp | exact (ne_oj_rj p q hp hq).symm)
    have ot_3 := gr_own hg3 ot_2 (fun q p hq hp => by first | (have h1 := rj_in q hq; have h2 := ot_in p hp; omega) | exact own_ne rj_2 ot_2 (by decide) q p hq hp | exact ne_rj_ot q p hq hp | exact (ne_ot_rj p q hp hq).symm)
    have of__3 := gr_own hg3 of__2 (fun q p hq hp => by first | (have h1 := rj_in q hq; have h2 := of__in p hp; omega) | exact own_ne rj_2 of__2 (by decide) q p hq hp | exact ne_rj_of_ q p hq hp | exact (ne_of__rj p q hp hq).symm)
    have rt_3 := gr_own hg3 rt_2 (fun q p hq hp => by first | (have h1 := rj_in q hq; have h2 := rt_in p hp; omega) | exact own_ne rj_2 rt_2 (by decide) q p hq hp | exact ne_rj_rt q p hq hp | exact (ne_rt_rj p q hp hq).symm)
    have rf_3 := gr_own hg3 rf_2 (fun q p hq hp => by first | (have h1 := rj_in q hq; have h2 := rf_in p hp; omega) | exact own_ne rj_2 rf_2 (by decide) q p hq hp | exact ne_rj_rf q p hq hp | exact (ne_rf_rj p q hp hq).symm)
    have x_3 := gr_blk hg3 x_2 (fun q hq => by have h1 := rj_in q hq; omega)
    have r_3 := gr_blk hg3 r_2 (fun q hq => by have h1 := rj_in q hq; omega)
    have o_3 := gr_blk hg3 o_2 (fun q hq => by have h1 := rj_in q hq; omega)
    have rj_ix : ∀ q, (Value.slice A_rj (S.js.length + 1) c_rj).ownBlock = some q → (X1.heap.size ≤ q ∧ q < w1.heap.size) ∨ w2.heap.size ≤ q := (fun q hq => by have h3 := (own_in rj_3 q hq).2; rcases li3 q hq with h | h; (have h1 := rj_in q h; omega); omega)
    clear oj_2 ot_2 of__2 rj_2 rt_2 rf_2 x_2 r_2 o_2 b_2 cell_x froz_x lt_x cell_r froz_r lt_r cell_o froz_o lt_o hg3 li3 rj_in
    have rj_in := rj_ix
    clear rj_ix
    have cell_x := x_3.cell
    have froz_x := x_3.frozen
    have lt_x := x_3.lt
    have cell_r := r_3.cell
    have froz_r := r_3.frozen
    have lt_r := r_3.lt
    have cell_o := o_3.cell
    have froz_o := o_3.frozen
    have lt_o := o_3.lt
    go_upto_region 3 with fail
    refine wp_touch1 (w0 := w3) (L := [w1.heap.size]) (b0 := w1.heap.size) (t0 := 40) (c0 := #[.int .i64 S.z, .int .i64 S.n, .int .i64 S.b, .slice A_rj (S.js.length + 1) c_rj, .slice T' S.ts.length ct', .slice F' S.fs.length cf']) ?_ ?_ ?_
    (focus exact blkcBy)
    (focus (exact tchBy))
    intro w4 o_4 hX4
    have sX4 := hX4.size
    have b_4 := hX4.below b_3 (by first | (simp; done) | (simp; omega))
    have oj_4 := own_touch' hX4 oj_3 (fun q hq => by have h1 := oj_in q hq; (try have e0 := own_ne_obj oj_3 o_3 (by decide) q hq); simp; omega)
    have ot_4 := own_touch' hX4 ot_3 (fun q hq => by have h1 := ot_in q hq; (try have e0 := own_ne_obj ot_3 o_3 (by decide) q hq); simp; omega)
    have of__4 := own_touch' hX4 of__3 (fun q hq => by have h1 := of__in q hq; (try have e0 := own_ne_obj of__3 o_3 (by decide) q hq); simp; omega)
    have rj_4 := own_touch' hX4 rj_3 (fun q hq => by have h1 := rj_in q hq; (try have e0 := own_ne_obj rj_3 o_3 (by decide) q hq); simp; omega)
    have rt_4 := own_touch' hX4 rt_3 (fun q hq => by have h1 := rt_in q hq; (try have e0 := own_ne_obj rt_3 o_3 (by decide) q hq); simp; omega)
    have rf_4 := own_touch' hX4 rf_3 (fun q hq => by have h1 := rf_in q hq; (try have e0 := own_ne_obj rf_3 o_3 (by decide) q hq); simp; omega)
    have x_4 := Blk.touch hX4 x_3 (by first | (simp; done) | (simp; omega))
    have r_4 := Blk.touch hX4 r_3 (by first | (simp; done) | (simp; omega))
    clear oj_3 ot_3 of__3 rj_3 rt_3 rf_3 x_3 r_3 o_3 b_3 cell_x froz_x lt_x cell_r froz_r lt_r cell_o froz_o lt_o hX4
    have cell_x := x_4.cell
    have froz_x := x_4.frozen
    have lt_x := x_4.lt
    have cell_r := r_4.cell
    have froz_r := r_4.frozen
    have lt_r := r_4.lt
    have cell_o := o_4.cell
    have froz_o := o_4.frozen
    have lt_o := o_4.lt
    go_wp2_with fail
    refine calls_forget0 (W := w4) ?_ ?_
    (focus (exact belBy))
    intro X5 hX5
    have sX5 := hX5.size
    refine (HO.out _ _ _ _ _ _ _ ⟨(own_below oj_4 hX5), (own_below ot_4 hX5), (own_below of__4 hX5)⟩ (by omega) b2).mono ?_
    rintro e w5 ⟨rfl, hb5⟩
    have s5 := hb5.size
    have hT5 := hX5.trans (hb5.mono sX5)
    have b_5 := b_4.trans (hT5.mono (by omega))
    have oj_5 := own_below oj_4 hT5
    have ot_5 := own_below ot_4 hT5
    have of__5 := own_below of__4 hT5
    have rj_5 := own_below rj_4 hT5
    have rt_5 := own_below rt_4 hT5
    have rf_5 := own_below rf_4 hT5
    have x_5 := Blk.past hT5 x_4
    have r_5 := Blk.past hT5 r_4
    have o_5 := Blk.past hT5 o_4
    clear oj_4 ot_4 of__4 rj_4 rt_4 rf_4 x_4 r_4 o_4 b_4 cell_x froz_x lt_x cell_r froz_r lt_r cell_o froz_o lt_o hX5 hT5 hb5
    have cell_x := x_5.cell
    have froz_x := x_5.frozen
    have lt_x := x_5.lt
    have cell_r := r_5.cell
    have froz_r := r_5.frozen
    have lt_r := r_5.lt
    have cell_o := o_5.cell
    have froz_o := o_5.frozen
    have lt_o := o_5.lt
    go_wp2_with fail
    refine calls_forget0 (W := w5) ?_ ?_
    (focus (exact belBy))
    intro X6 hX6
    have sX6 := hX6.size
    refine (HC.out _ _ _ _ _ _ _ ⟨(own_below oj_5 hX6), (own_below ot_5 hX6), (own_below of__5 hX6)⟩ (by omega) b2 b3).mono ?_
    rintro e w6 ⟨K', dj', L', dt', M', df', rfl, kj_6, kt_6, kf_6, hb6⟩
    have s6 := hb6.size
    have hT6 := hX6.trans (hb6.mono sX6)
    have b_6 := b_5.trans (hT6.mono (by omega))
    have oj_6 := own_below oj_5 hT6
    have ot_6 := own_below ot_5 hT6
    have of__6 := own_below of__5 hT6
    have rj_6 := own_below rj_5 hT6
    have rt_6 := own_below rt_5 hT6
    have rf_6 := own_below rf_5 hT6
    have x_6 := Blk.past hT6 x_5
    have r_6 := Blk.past hT6 r_5
    have o_6 := Blk.past hT6 o_5
    have kj_in := own_in kj_6
    have kt_in := own_in kt_6
    have kf_in := own_in kf_6
    clear oj_5 ot_5 of__5 rj_5 rt_5 rf_5 x_5 r_5 o_5 b_5 cell_x froz_x lt_x cell_r froz_r lt_r cell_o froz_o lt_o hX6 hT6 hb6
    have cell_x := x_6.cell
    have froz_x := x_6.frozen
    have lt_x := x_6.lt
    have cell_r := r_6.cell
    have froz_r := r_6.frozen
    have lt_r := r_6.lt
    have cell_o := o_6.cell
    have froz_o := o_6.frozen
    have lt_o := o_6.lt
    have HRJ := hid kj_6
    have HRT := hid kt_6
    have HRF := hid kf_6
    have HB := hid b_6
    have hXS : w.heap.size ≤ X6.heap.size := by omega
    have hXR : w.heap.size + 1 < X6.heap.size := by omega
    clear kj_6 kt_6 kf_6 b_6
    go_wp2_with fail
    ((try simp only [Exit.inBlock, Exit.then]); apply bodyPost_ret0; focus ((try simp only [results, Tryz.results49]); (try go_simp); (try rfl)))
    refine ⟨K', dj', L', dt', M', df', rfl, ?_, ?_, ?_, ?_⟩
    · refine own_weak (base := X6.heap.size) ?_ hXS
      have h := HRJ.out
      repeat (with_reducible first | assumption | apply World.ownsRow.drew | apply own_drewN | apply World.ownsRow.alloc | refine own_set ?_ _ _ (by first | omega | (simp; omega) | (dsimp only; omega)))
      all_goals exact h
    · refine own_weak (base := X6.heap.size) ?_ hXS
      have h := HRT.out
      repeat (with_reducible first | assumption | apply World.ownsRow.drew | apply own_drewN | apply World.ownsRow.alloc | refine own_set ?_ _ _ (by first | omega | (simp; omega) | (dsimp only; omega)))
      all_goals exact h
    · refine own_weak (base := X6.heap.size) ?_ hXS
      have h := HRF.out
      repeat (with_reducible first | assumption | apply World.ownsRow.drew | apply own_drewN | apply World.ownsRow.alloc | refine own_set ?_ _ _ (by first | omega | (simp; omega) | (dsimp only; omega)))
      all_goals exact h
    · have hb := HB.out
      exact belBy
  cases q : schedOkB (addS S id need rounds)
  · skip
    rw [p, q, Bool.and_false] at hR
    have eR : addR S id need rounds = S := by unfold addR; rw [hR]; rfl
    rw [eR, hR]
    rw [p] at HO
    rw [q] at HA
    clear hR eR HCA e1 e2
    go_enter Tryz.func49, Tryz.ntmps49
    have b_0 := (Below.refl w.heap.size w)
    have s_0 := b_0.size
    have oj_in := own_in h1
    have oj_0 := h1
    clear h1
    have ot_in := own_in h2
    have ot_0 := h2
    clear h2
    have of__in := own_in h3
    have of__0 := h3
    clear h3
    go_wp2_with fail
    refine calls_forget2 (W := w) (b0 := w.heap.size) (t0 := 40) (c0 := #[.int .i64 S.z, .int .i64 S.n, .int .i64 S.b, .slice J S.js.length cj, .slice T S.ts.length ct, .slice F S.fs.length cf]) (b1 := w.heap.size + 1) (t1 := 40) (c1 := #[.int .i64 0, .int .i64 0, .int .i64 0, .slice none 0 0, .slice none 0 0, .slice none 0 0]) ?_ ?_ ?_ ?_
    (focus exact blkcBy)
    (focus exact blkcBy)
    (focus (exact belBy))
    intro X1 x_n r_n hX1
    have sX1 := hX1.size
    have x_lt := x_n.lt
    have r_lt := r_n.lt
    refine (HC.out _ _ _ _ _ _ _ ⟨(own_below oj_0 hX1), (own_below ot_0 hX1), (own_below of__0 hX1)⟩ (by omega) b2 b3).mono ?_
    rintro e w1 ⟨J', cj', T', ct', F', cf', rfl, rj_1, rt_1, rf_1, hb1⟩
    have s1 := hb1.size
    have hT1 := hX1.trans (hb1.mono sX1)
    have b_1 := b_0.trans (hT1.mono (by omega))
    have oj_1 := own_below oj_0 hT1
    have ot_1 := own_below ot_0 hT1
    have of__1 := own_below of__0 hT1
    have x_1 := Blk.past hb1 x_n
    have r_1 := Blk.past hb1 r_n
    have rj_in := own_in rj_1
    have rt_in := own_in rt_1
    have rf_in := own_in rf_1
    clear oj_0 ot_0 of__0 b_0 x_n r_n hX1 hT1 hb1
    have cell_x := x_1.cell
    have froz_x := x_1.frozen
    have lt_x := x_1.lt
    have cell_r := r_1.cell
    have froz_r := r_1.frozen
    have lt_r := r_1.lt
    go_upto_region 2 with fail
    refine wp_forget1 (w0 := w1) (B := w1.heap.size) (b0 := w1.heap.size) (t0 := 40) (c0 := #[.int .i64 S.z, .int .i64 S.n, .int .i64 S.b, .slice J' S.js.length cj', .slice T' S.ts.length ct', .slice F' S.fs.length cf']) ?_ ?_ ?_
    (focus exact blkcBy)
    (focus (exact belBy))
    intro w2 o_2 hX2
    have sX2 := hX2.size
    have o_lt := o_2.lt
    have b_2 := b_1.trans (hX2.mono (by omega))
    have oj_2 := own_below oj_1 hX2
    have ot_2 := own_below ot_1 hX2
    have of__2 := own_below of__1 hX2
    have rj_2 := own_below rj_1 hX2
    have rt_2 := own_below rt_1 hX2
    have rf_2 := own_below rf_1 hX2
    have x_2 := Blk.past hX2 x_1
    have r_2 := Blk.past hX2 r_1
    clear oj_1 ot_1 of__1 rj_1 rt_1 rf_1 x_1 r_1 b_1 cell_x froz_x lt_x cell_r froz_r lt_r hX2
    have cell_x := x_2.cell
    have froz_x := x_2.frozen
    have lt_x := x_2.lt
    have cell_r := r_2.cell
    have froz_r := r_2.frozen
    have lt_r := r_2.lt
    have cell_o := o_2.cell
    have froz_o := o_2.frozen
    have lt_o := o_2.lt
    go_wp2_with (at_builtin; refine wpList_appi rfl _ _ 36 rfl X1.heap.size 64 (.agg #[.int .i64 0, .int .i64 0, .int .i64 0, .int .i64 0]) 4 32 Tryz.underlying36 infoJob rfl (by decide) _ S.js.length _ rfl (rj_2.alloc _) ⟨w2.heap.size, 0, none⟩ 1 1 _ rfl rfl (many_new _ [.int .i64 id, .int .i64 need, .int .i64 rounds, .int .i64 0] _) (job_one _ _ _ _) (by omega) (by decide) (by simp; omega) ?_)
    intro A_rj c_rj w3 rj_3 hg3 li3
    have hg3 := grown_alloc hg3
    try simp only [World.size_alloc] at li3
    have s3 := hg3.size
    have b_3 := gr_below hg3 b_2 (by omega) (fun q hq => by have h1 := rj_in q hq; omega)
    have oj_3 := gr_own hg3 oj_2 (fun q p hq hp => by first | (have h1 := rj_in q hq; have h2 := oj_in p hp; omega) | exact own_ne rj_2 oj_2 (by decide) q p hq hp | exact ne_rj_oj q p hq hp | exact (ne_oj_rj p q hp hq).symm)
    have ot_3 := gr_own hg3 ot_2 (fun q p hq hp => by first | (have h1 := rj_in q hq; have h2 := ot_in p hp; omega) | exact own_ne rj_2 ot_2 (by decide) q p hq hp | exact ne_rj_ot q p hq hp | exact (ne_ot_rj p q hp hq).symm)
    have of__3 := gr_own hg3 of__2 (fun q p hq hp => by first | (have h1 := rj_in q hq; have h2 := of__in p hp; omega) | exact own_ne rj_2 of__2 (by decide) q p hq hp | exact ne_rj_of_ q p hq hp | exact (ne_of__rj p q hp hq).symm)
    have rt_3 := gr_own hg3 rt_2 (fun q p hq hp => by first | (have h1 := rj_in q hq; have h2 := rt_in p hp; omega) | exact own_ne rj_2 rt_2 (by decide) q p hq hp | exact ne_rj_rt q p hq hp | exact (ne_rt_rj p q hp hq).symm)
    have rf_3 := gr_own hg3 rf_2 (fun q p hq hp => by first | (have h1 := rj_in q hq; have h2 := rf_in p hp; omega) | exact own_ne rj_2 rf_2 (by decide) q p hq hp | exact ne_rj_rf q p hq hp | exact (ne_rf_rj p q hp hq).symm)
    have x_3 := gr_blk hg3 x_2 (fun q hq => by have h1 := rj_in q hq; omega)
    have r_3 := gr_blk hg3 r_2 (fun q hq => by have h1 := rj_in q hq; omega)
    have o_3 := gr_blk hg3 o_2 (fun q hq => by have h1 := rj_in q hq; omega)
    have rj_ix : ∀ q, (Value.slice A_rj (S.js.length + 1) c_rj).ownBlock = some q → (X1.heap.size ≤ q ∧ q < w1.heap.size) ∨ w2.heap.size ≤ q := (fun q hq => by have h3 := (own_in rj_3 q hq).2; rcases li3 q hq with h | h; (have h1 := rj_in q h; omega); omega)
    clear oj_2 ot_2 of__2 rj_2 rt_2 rf_2 x_2 r_2 o_2 b_2 cell_x froz_x lt_x cell_r froz_r lt_r cell_o froz_o lt_o hg3 li3 rj_in
    have rj_in := rj_ix
    clear rj_ix
    have cell_x := x_3.cell
    have froz_x := x_3.frozen
    have lt_x := x_3.lt
    have cell_r := r_3.cell
    have froz_r := r_3.frozen
    have lt_r := r_3.lt
    have cell_o := o_3.cell
    have froz_o := o_3.frozen
    have lt_o := o_3.lt
    go_upto_region 3 with fail
    refine wp_touch1 (w0 := w3) (L := [w1.heap.size]) (b0 := w1.heap.size) (t0 := 40) (c0 := #[.int .i64 S.z, .int .i64 S.n, .int .i64 S.b, .slice A_rj (S.js.length + 1) c_rj, .slice T' S.ts.length ct', .slice F' S.fs.length cf']) ?_ ?_ ?_
    (focus exact blkcBy)
    (focus (exact tchBy))
    intro w4 o_4 hX4
    have sX4 := hX4.size
    have b_4 := hX4.below b_3 (by first | (simp; done) | (simp; omega))
    have oj_4 := own_touch' hX4 oj_3 (fun q hq => by have h1 := oj_in q hq; (try have e0 := own_ne_obj oj_3 o_3 (by decide) q hq); simp; omega)
    have ot_4 := own_touch' hX4 ot_3 (fun q hq => by have h1 := ot_in q hq; (try have e0 := own_ne_obj ot_3 o_3 (by decide) q hq); simp; omega)
    have of__4 := own_touch' hX4 of__3 (fun q hq => by have h1 := of__in q hq; (try have e0 := own_ne_obj of__3 o_3 (by decide) q hq); simp; omega)
    have rj_4 := own_touch' hX4 rj_3 (fun q hq => by have h1 := rj_in q hq; (try have e0 := own_ne_obj rj_3 o_3 (by decide) q hq); simp; omega)
    have rt_4 := own_touch' hX4 rt_3 (fun q hq => by have h1 := rt_in q hq; (try have e0 := own_ne_obj rt_3 o_3 (by decide) q hq); simp; omega)
    have rf_4 := own_touch' hX4 rf_3 (fun q hq => by have h1 := rf_in q hq; (try have e0 := own_ne_obj rf_3 o_3 (by decide) q hq); simp; omega)
    have x_4 := Blk.touch hX4 x_3 (by first | (simp; done) | (simp; omega))
    have r_4 := Blk.touch hX4 r_3 (by first | (simp; done) | (simp; omega))
    clear oj_3 ot_3 of__3 rj_3 rt_3 rf_3 x_3 r_3 o_3 b_3 cell_x froz_x lt_x cell_r froz_r lt_r cell_o froz_o lt_o hX4
    have cell_x := x_4.cell
    have froz_x := x_4.frozen
    have lt_x := x_4.lt
    have cell_r := r_4.cell
    have froz_r := r_4.frozen
    have lt_r := r_4.lt
    have cell_o := o_4.cell
    have froz_o := o_4.frozen
    have lt_o := o_4.lt
    go_wp2_with fail
    refine calls_forget0 (W := w4) ?_ ?_
    (focus (exact belBy))
    intro X5 hX5
    have sX5 := hX5.size
    refine (HO.out _ _ _ _ _ _ _ ⟨(own_below oj_4 hX5), (own_below ot_4 hX5), (own_below of__4 hX5)⟩ (by omega) b2).mono ?_
    rintro e w5 ⟨rfl, hb5⟩
    have s5 := hb5.size
    have hT5 := hX5.trans (hb5.mono sX5)
    have b_5 := b_4.trans (hT5.mono (by omega))
    have oj_5 := own_below oj_4 hT5
    have ot_5 := own_below ot_4 hT5
    have of__5 := own_below of__4 hT5
    have rj_5 := own_below rj_4 hT5
    have rt_5 := own_below rt_4 hT5
    have rf_5 := own_below rf_4 hT5
    have x_5 := Blk.past hT5 x_4
    have r_5 := Blk.past hT5 r_4
    have o_5 := Blk.past hT5 o_4
    clear oj_4 ot_4 of__4 rj_4 rt_4 rf_4 x_4 r_4 o_4 b_4 cell_x froz_x lt_x cell_r froz_r lt_r cell_o froz_o lt_o hX5 hT5 hb5
    have cell_x := x_5.cell
    have froz_x := x_5.frozen
    have lt_x := x_5.lt
    have cell_r := r_5.cell
    have froz_r := r_5.frozen
    have lt_r := r_5.lt
    have cell_o := o_5.cell
    have froz_o := o_5.frozen
    have lt_o := o_5.lt
    go_wp2_with fail
    refine calls_forget0 (W := w5) ?_ ?_
    (focus (exact belBy))
    intro X6 hX6
    have sX6 := hX6.size
    refine (HA.out _ _ _ _ _ _ _ ⟨own_weak (own_below rj_5 hX6) (Nat.zero_le _), own_weak (own_below rt_5 hX6) (Nat.zero_le _), own_weak (own_below rf_5 hX6) (Nat.zero_le _)⟩ (by omega) b2).mono ?_
    rintro e w6 ⟨rfl, hb6⟩
    have s6 := hb6.size
    have hT6 := hX6.trans (hb6.mono sX6)
    have b_6 := b_5.trans (hT6.mono (by omega))
    have oj_6 := own_below oj_5 hT6
    have ot_6 := own_below ot_5 hT6
    have of__6 := own_below of__5 hT6
    have rj_6 := own_below rj_5 hT6
    have rt_6 := own_below rt_5 hT6
    have rf_6 := own_below rf_5 hT6
    have x_6 := Blk.past hT6 x_5
    have r_6 := Blk.past hT6 r_5
    have o_6 := Blk.past hT6 o_5
    clear oj_5 ot_5 of__5 rj_5 rt_5 rf_5 x_5 r_5 o_5 b_5 cell_x froz_x lt_x cell_r froz_r lt_r cell_o froz_o lt_o hX6 hT6 hb6
    have cell_x := x_6.cell
    have froz_x := x_6.frozen
    have lt_x := x_6.lt
    have cell_r := r_6.cell
    have froz_r := r_6.frozen
    have lt_r := r_6.lt
    have cell_o := o_6.cell
    have froz_o := o_6.frozen
    have lt_o := o_6.lt
    go_wp2_with fail
    refine calls_forget0 (W := w6) ?_ ?_
    (focus (exact belBy))
    intro X7 hX7
    have sX7 := hX7.size
    refine (HC.out _ _ _ _ _ _ _ ⟨(own_below oj_6 hX7), (own_below ot_6 hX7), (own_below of__6 hX7)⟩ (by omega) b2 b3).mono ?_
    rintro e w7 ⟨K', dj', L', dt', M', df', rfl, kj_7, kt_7, kf_7, hb7⟩
    have s7 := hb7.size
    have hT7 := hX7.trans (hb7.mono sX7)
    have b_7 := b_6.trans (hT7.mono (by omega))
    have oj_7 := own_below oj_6 hT7
    have ot_7 := own_below ot_6 hT7
    have of__7 := own_below of__6 hT7
    have rj_7 := own_below rj_6 hT7
    have rt_7 := own_below rt_6 hT7
    have rf_7 := own_below rf_6 hT7
    have x_7 := Blk.past hT7 x_6
    have r_7 := Blk.past hT7 r_6
    have o_7 := Blk.past hT7 o_6
    have kj_in := own_in kj_7
    have kt_in := own_in kt_7
    have kf_in := own_in kf_7
    clear oj_6 ot_6 of__6 rj_6 rt_6 rf_6 x_6 r_6 o_6 b_6 cell_x froz_x lt_x cell_r froz_r lt_r cell_o froz_o lt_o hX7 hT7 hb7
    have cell_x := x_7.cell
    have froz_x := x_7.frozen
    have lt_x := x_7.lt
    have cell_r := r_7.cell
    have froz_r := r_7.frozen
    have lt_r := r_7.lt
    have cell_o := o_7.cell
    have froz_o := o_7.frozen
    have lt_o := o_7.lt
    have HRJ := hid kj_7
    have HRT := hid kt_7
    have HRF := hid kf_7
    have HB := hid b_7
    have hXS : w.heap.size ≤ X7.heap.size := by omega
    have hXR : w.heap.size + 1 < X7.heap.size := by omega
    clear kj_7 kt_7 kf_7 b_7
    go_wp2_with fail
    ((try simp only [Exit.inBlock, Exit.then]); apply bodyPost_ret0; focus ((try simp only [results, Tryz.results49]); (try go_simp); (try rfl)))
    refine ⟨K', dj', L', dt', M', df', rfl, ?_, ?_, ?_, ?_⟩
    · refine own_weak (base := X7.heap.size) ?_ hXS
      have h := HRJ.out
      repeat (with_reducible first | assumption | apply World.ownsRow.drew | apply own_drewN | apply World.ownsRow.alloc | refine own_set ?_ _ _ (by first | omega | (simp; omega) | (dsimp only; omega)))
      all_goals exact h
    · refine own_weak (base := X7.heap.size) ?_ hXS
      have h := HRT.out
      repeat (with_reducible first | assumption | apply World.ownsRow.drew | apply own_drewN | apply World.ownsRow.alloc | refine own_set ?_ _ _ (by first | omega | (simp; omega) | (dsimp only; omega)))
      all_goals exact h
    · refine own_weak (base := X7.heap.size) ?_ hXS
      have h := HRF.out
      repeat (with_reducible first | assumption | apply World.ownsRow.drew | apply own_drewN | apply World.ownsRow.alloc | refine own_set ?_ _ _ (by first | omega | (simp; omega) | (dsimp only; omega)))
      all_goals exact h
    · have hb := HB.out
      exact belBy
  · skip
    rw [p, q, Bool.and_true] at hR
    have eR : addR S id need rounds = addS S id need rounds := by unfold addR; rw [hR]; rfl
    rw [eR, hR, e1, e2]
    rw [p] at HO
    rw [q] at HA
    clear hR eR e1 e2
    go_enter Tryz.func49, Tryz.ntmps49
    have b_0 := (Below.refl w.heap.size w)
    have s_0 := b_0.size
    have oj_in := own_in h1
    have oj_0 := h1
    clear h1
    have ot_in := own_in h2
    have ot_0 := h2
    clear h2
    have of__in := own_in h3
    have of__0 := h3
    clear h3
    go_wp2_with fail
    refine calls_forget2 (W := w) (b0 := w.heap.size) (t0 := 40) (c0 := #[.int .i64 S.z, .int .i64 S.n, .int .i64 S.b, .slice J S.js.length cj, .slice T S.ts.length ct, .slice F S.fs.length cf]) (b1 := w.heap.size + 1) (t1 := 40) (c1 := #[.int .i64 0, .int .i64 0, .int .i64 0, .slice none 0 0, .slice none 0 0, .slice none 0 0]) ?_ ?_ ?_ ?_
    (focus exact blkcBy)
    (focus exact blkcBy)
    (focus (exact belBy))
    intro X1 x_n r_n hX1
    have sX1 := hX1.size
    have x_lt := x_n.lt
    have r_lt := r_n.lt
    refine (HC.out _ _ _ _ _ _ _ ⟨(own_below oj_0 hX1), (own_below ot_0 hX1), (own_below of__0 hX1)⟩ (by omega) b2 b3).mono ?_
    rintro e w1 ⟨J', cj', T', ct', F', cf', rfl, rj_1, rt_1, rf_1, hb1⟩
    have s1 := hb1.size
    have hT1 := hX1.trans (hb1.mono sX1)
    have b_1 := b_0.trans (hT1.mono (by omega))
    have oj_1 := own_below oj_0 hT1
    have ot_1 := own_below ot_0 hT1
    have of__1 := own_below of__0 hT1
    have x_1 := Blk.past hb1 x_n
    have r_1 := Blk.past hb1 r_n
    have rj_in := own_in rj_1
    have rt_in := own_in rt_1
    have rf_in := own_in rf_1
    clear oj_0 ot_0 of__0 b_0 x_n r_n hX1 hT1 hb1
    have cell_x := x_1.cell
    have froz_x := x_1.frozen
    have lt_x := x_1.lt
    have cell_r := r_1.cell
    have froz_r := r_1.frozen
    have lt_r := r_1.lt
    go_upto_region 2 with fail
    refine wp_forget1 (w0 := w1) (B := w1.heap.size) (b0 := w1.heap.size) (t0 := 40) (c0 := #[.int .i64 S.z, .int .i64 S.n, .int .i64 S.b, .slice J' S.js.length cj', .slice T' S.ts.length ct', .slice F' S.fs.length cf']) ?_ ?_ ?_
    (focus exact blkcBy)
    (focus (exact belBy))
    intro w2 o_2 hX2
    have sX2 := hX2.size
    have o_lt := o_2.lt
    have b_2 := b_1.trans (hX2.mono (by omega))
    have oj_2 := own_below oj_1 hX2
    have ot_2 := own_below ot_1 hX2
    have of__2 := own_below of__1 hX2
    have rj_2 := own_below rj_1 hX2
    have rt_2 := own_below rt_1 hX2
    have rf_2 := own_below rf_1 hX2
    have x_2 := Blk.past hX2 x_1
    have r_2 := Blk.past hX2 r_1
    clear oj_1 ot_1 of__1 rj_1 rt_1 rf_1 x_1 r_1 b_1 cell_x froz_x lt_x cell_r froz_r lt_r hX2
    have cell_x := x_2.cell
    have froz_x := x_2.frozen
    have lt_x := x_2.lt
    have cell_r := r_2.cell
    have froz_r := r_2.frozen
    have lt_r := r_2.lt
    have cell_o := o_2.cell
    have froz_o := o_2.frozen
    have lt_o := o_2.lt
    go_wp2_with (at_builtin; refine wpList_appi rfl _ _ 36 rfl X1.heap.size 64 (.agg #[.int .i64 0, .int .i64 0, .int .i64 0, .int .i64 0]) 4 32 Tryz.underlying36 infoJob rfl (by decide) _ S.js.length _ rfl (rj_2.alloc _) ⟨w2.heap.size, 0, none⟩ 1 1 _ rfl rfl (many_new _ [.int .i64 id, .int .i64 need, .int .i64 rounds, .int .i64 0] _) (job_one _ _ _ _) (by omega) (by decide) (by simp; omega) ?_)
    intro A_rj c_rj w3 rj_3 hg3 li3
    have hg3 := grown_alloc hg3
    try simp only [World.size_alloc] at li3
    have s3 := hg3.size
    have b_3 := gr_below hg3 b_2 (by omega) (fun q hq => by have h1 := rj_in q hq; omega)
    have oj_3 := gr_own hg3 oj_2 (fun q p hq hp => by first | (have h1 := rj_in q hq; have h2 := oj_in p hp; omega) | exact own_ne rj_2 oj_2 (by decide) q p hq hp | exact ne_rj_oj q p hq hp | exact (ne_oj_rj p q hp hq).symm)
    have ot_3 := gr_own hg3 ot_2 (fun q p hq hp => by first | (have h1 := rj_in q hq; have h2 := ot_in p hp; omega) | exact own_ne rj_2 ot_2 (by decide) q p hq hp | exact ne_rj_ot q p hq hp | exact (ne_ot_rj p q hp hq).symm)
    have of__3 := gr_own hg3 of__2 (fun q p hq hp => by first | (have h1 := rj_in q hq; have h2 := of__in p hp; omega) | exact own_ne rj_2 of__2 (by decide) q p hq hp | exact ne_rj_of_ q p hq hp | exact (ne_of__rj p q hp hq).symm)
    have rt_3 := gr_own hg3 rt_2 (fun q p hq hp => by first | (have h1 := rj_in q hq; have h2 := rt_in p hp; omega) | exact own_ne rj_2 rt_2 (by decide) q p hq hp | exact ne_rj_rt q p hq hp | exact (ne_rt_rj p q hp hq).symm)
    have rf_3 := gr_own hg3 rf_2 (fun q p hq hp => by first | (have h1 := rj_in q hq; have h2 := rf_in p hp; omega) | exact own_ne rj_2 rf_2 (by decide) q p hq hp | exact ne_rj_rf q p hq hp | exact (ne_rf_rj p q hp hq).symm)
    have x_3 := gr_blk hg3 x_2 (fun q hq => by have h1 := rj_in q hq; omega)
    have r_3 := gr_blk hg3 r_2 (fun q hq => by have h1 := rj_in q hq; omega)
    have o_3 := gr_blk hg3 o_2 (fun q hq => by have h1 := rj_in q hq; omega)
    have rj_ix : ∀ q, (Value.slice A_rj (S.js.length + 1) c_rj).ownBlock = some q → (X1.heap.size ≤ q ∧ q < w1.heap.size) ∨ w2.heap.size ≤ q := (fun q hq => by have h3 := (own_in rj_3 q hq).2; rcases li3 q hq with h | h; (have h1 := rj_in q h; omega); omega)
    clear oj_2 ot_2 of__2 rj_2 rt_2 rf_2 x_2 r_2 o_2 b_2 cell_x froz_x lt_x cell_r froz_r lt_r cell_o froz_o lt_o hg3 li3 rj_in
    have rj_in := rj_ix
    clear rj_ix
    have cell_x := x_3.cell
    have froz_x := x_3.frozen
    have lt_x := x_3.lt
    have cell_r := r_3.cell
    have froz_r := r_3.frozen
    have lt_r := r_3.lt
    have cell_o := o_3.cell
    have froz_o := o_3.frozen
    have lt_o := o_3.lt
    go_upto_region 3 with fail
    refine wp_touch1 (w0 := w3) (L := [w1.heap.size]) (b0 := w1.heap.size) (t0 := 40) (c0 := #[.int .i64 S.z, .int .i64 S.n, .int .i64 S.b, .slice A_rj (S.js.length + 1) c_rj, .slice T' S.ts.length ct', .slice F' S.fs.length cf']) ?_ ?_ ?_
    (focus exact blkcBy)
    (focus (exact tchBy))
    intro w4 o_4 hX4
    have sX4 := hX4.size
    have b_4 := hX4.below b_3 (by first | (simp; done) | (simp; omega))
    have oj_4 := own_touch' hX4 oj_3 (fun q hq => by have h1 := oj_in q hq; (try have e0 := own_ne_obj oj_3 o_3 (by decide) q hq); simp; omega)
    have ot_4 := own_touch' hX4 ot_3 (fun q hq => by have h1 := ot_in q hq; (try have e0 := own_ne_obj ot_3 o_3 (by decide) q hq); simp; omega)
    have of__4 := own_touch' hX4 of__3 (fun q hq => by have h1 := of__in q hq; (try have e0 := own_ne_obj of__3 o_3 (by decide) q hq); simp; omega)
    have rj_4 := own_touch' hX4 rj_3 (fun q hq => by have h1 := rj_in q hq; (try have e0 := own_ne_obj rj_3 o_3 (by decide) q hq); simp; omega)
    have rt_4 := own_touch' hX4 rt_3 (fun q hq => by have h1 := rt_in q hq; (try have e0 := own_ne_obj rt_3 o_3 (by decide) q hq); simp; omega)
    have rf_4 := own_touch' hX4 rf_3 (fun q hq => by have h1 := rf_in q hq; (try have e0 := own_ne_obj rf_3 o_3 (by decide) q hq); simp; omega)
    have x_4 := Blk.touch hX4 x_3 (by first | (simp; done) | (simp; omega))
    have r_4 := Blk.touch hX4 r_3 (by first | (simp; done) | (simp; omega))
    clear oj_3 ot_3 of__3 rj_3 rt_3 rf_3 x_3 r_3 o_3 b_3 cell_x froz_x lt_x cell_r froz_r lt_r cell_o froz_o lt_o hX4
    have cell_x := x_4.cell
    have froz_x := x_4.frozen
    have lt_x := x_4.lt
    have cell_r := r_4.cell
    have froz_r := r_4.frozen
    have lt_r := r_4.lt
    have cell_o := o_4.cell
    have froz_o := o_4.frozen
    have lt_o := o_4.lt
    go_wp2_with fail
    refine calls_forget0 (W := w4) ?_ ?_
    (focus (exact belBy))
    intro X5 hX5
    have sX5 := hX5.size
    refine (HO.out _ _ _ _ _ _ _ ⟨(own_below oj_4 hX5), (own_below ot_4 hX5), (own_below of__4 hX5)⟩ (by omega) b2).mono ?_
    rintro e w5 ⟨rfl, hb5⟩
    have s5 := hb5.size
    have hT5 := hX5.trans (hb5.mono sX5)
    have b_5 := b_4.trans (hT5.mono (by omega))
    have oj_5 := own_below oj_4 hT5
    have ot_5 := own_below ot_4 hT5
    have of__5 := own_below of__4 hT5
    have rj_5 := own_below rj_4 hT5
    have rt_5 := own_below rt_4 hT5
    have rf_5 := own_below rf_4 hT5
    have x_5 := Blk.past hT5 x_4
    have r_5 := Blk.past hT5 r_4
    have o_5 := Blk.past hT5 o_4
    clear oj_4 ot_4 of__4 rj_4 rt_4 rf_4 x_4 r_4 o_4 b_4 cell_x froz_x lt_x cell_r froz_r lt_r cell_o froz_o lt_o hX5 hT5 hb5
    have cell_x := x_5.cell
    have froz_x := x_5.frozen
    have lt_x := x_5.lt
    have cell_r := r_5.cell
    have froz_r := r_5.frozen
    have lt_r := r_5.lt
    have cell_o := o_5.cell
    have froz_o := o_5.frozen
    have lt_o := o_5.lt
    go_wp2_with fail
    refine calls_forget0 (W := w5) ?_ ?_
    (focus (exact belBy))
    intro X6 hX6
    have sX6 := hX6.size
    refine (HA.out _ _ _ _ _ _ _ ⟨own_weak (own_below rj_5 hX6) (Nat.zero_le _), own_weak (own_below rt_5 hX6) (Nat.zero_le _), own_weak (own_below rf_5 hX6) (Nat.zero_le _)⟩ (by omega) b2).mono ?_
    rintro e w6 ⟨rfl, hb6⟩
    have s6 := hb6.size
    have hT6 := hX6.trans (hb6.mono sX6)
    have b_6 := b_5.trans (hT6.mono (by omega))
    have oj_6 := own_below oj_5 hT6
    have ot_6 := own_below ot_5 hT6
    have of__6 := own_below of__5 hT6
    have rj_6 := own_below rj_5 hT6
    have rt_6 := own_below rt_5 hT6
    have rf_6 := own_below rf_5 hT6
    have x_6 := Blk.past hT6 x_5
    have r_6 := Blk.past hT6 r_5
    have o_6 := Blk.past hT6 o_5
    clear oj_5 ot_5 of__5 rj_5 rt_5 rf_5 x_5 r_5 o_5 b_5 cell_x froz_x lt_x cell_r froz_r lt_r cell_o froz_o lt_o hX6 hT6 hb6
    have cell_x := x_6.cell
    have froz_x := x_6.frozen
    have lt_x := x_6.lt
    have cell_r := r_6.cell
    have froz_r := r_6.frozen
    have lt_r := r_6.lt
    have cell_o := o_6.cell
    have froz_o := o_6.frozen
    have lt_o := o_6.lt
    go_wp2_with fail
    refine calls_forget0 (W := w6) ?_ ?_
    (focus (exact belBy))
    intro X7 hX7
    have sX7 := hX7.size
    refine (HCA.out _ _ _ _ _ _ _ ⟨own_weak (own_below rj_6 hX7) (Nat.zero_le _), own_weak (own_below rt_6 hX7) (Nat.zero_le _), own_weak (own_below rf_6 hX7) (Nat.zero_le _)⟩ (by omega) b2 b3).mono ?_
    rintro e w7 ⟨K', dj', L', dt', M', df', rfl, kj_7, kt_7, kf_7, hb7⟩
    have s7 := hb7.size
    have hT7 := hX7.trans (hb7.mono sX7)
    have b_7 := b_6.trans (hT7.mono (by omega))
    have oj_7 := own_below oj_6 hT7
    have ot_7 := own_below ot_6 hT7
    have of__7 := own_below of__6 hT7
    have rj_7 := own_below rj_6 hT7
    have rt_7 := own_below rt_6 hT7
    have rf_7 := own_below rf_6 hT7
    have x_7 := Blk.past hT7 x_6
    have r_7 := Blk.past hT7 r_6
    have o_7 := Blk.past hT7 o_6
    have kj_in := own_in kj_7
    have kt_in := own_in kt_7
    have kf_in := own_in kf_7
    clear oj_6 ot_6 of__6 rj_6 rt_6 rf_6 x_6 r_6 o_6 b_6 cell_x froz_x lt_x cell_r froz_r lt_r cell_o froz_o lt_o hX7 hT7 hb7
    have cell_x := x_7.cell
    have froz_x := x_7.frozen
    have lt_x := x_7.lt
    have cell_r := r_7.cell
    have froz_r := r_7.frozen
    have lt_r := r_7.lt
    have cell_o := o_7.cell
    have froz_o := o_7.frozen
    have lt_o := o_7.lt
    have HRJ := hid kj_7
    have HRT := hid kt_7
    have HRF := hid kf_7
    have HB := hid b_7
    have hXS : w.heap.size ≤ X7.heap.size := by omega
    have hXR : w.heap.size + 1 < X7.heap.size := by omega
    clear kj_7 kt_7 kf_7 b_7
    go_wp2_with fail
    ((try simp only [Exit.inBlock, Exit.then]); apply bodyPost_ret0; focus ((try simp only [results, Tryz.results49]); (try go_simp); (try rfl)))
    refine ⟨K', dj', L', dt', M', df', rfl, ?_, ?_, ?_, ?_⟩
    · refine own_weak (base := X7.heap.size) ?_ hXS
      have h := HRJ.out
      repeat (with_reducible first | assumption | apply World.ownsRow.drew | apply own_drewN | apply World.ownsRow.alloc | refine own_set ?_ _ _ (by first | omega | (simp; omega) | (dsimp only; omega)))
      all_goals exact h
    · refine own_weak (base := X7.heap.size) ?_ hXS
      have h := HRT.out
      repeat (with_reducible first | assumption | apply World.ownsRow.drew | apply own_drewN | apply World.ownsRow.alloc | refine own_set ?_ _ _ (by first | omega | (simp; omega) | (dsimp only; omega)))
      all_goals exact h
    · refine own_weak (base := X7.heap.size) ?_ hXS
      have h := HRF.out
      repeat (with_reducible first | assumption | apply World.ownsRow.drew | apply own_drewN | apply World.ownsRow.alloc | refine own_set ?_ _ _ (by first | omega | (simp; omega) | (dsimp only; omega)))
      all_goals exact h
    · have hb := HB.out
      exact belBy
end Go.Proofs.YtjknadnknainbaaGreatDoor
