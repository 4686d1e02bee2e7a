import Derived.Test.YtjknadnknainbaaGreatDoorMem
import Derived.Test.YtjknadnknainbaaGreatDoorSchedTxt
import Derived.Test.YtjknadnknainbaaGreatDoorSchedOk2
import Derived.Test.YtjknadnknainbaaGreatDoorSchedS
/- FormatSched, in the program. -/
namespace Go.Proofs.YtjknadnknainbaaGreatDoor
open Go.RowKit

theorem iFormatIntW (n : Int) (w : World) (h : in64 n) (ht : Tab w) :
    Calls Tryz.prog 26 #[.int .i64 n] w fun e w' => e = .returned (.string ⟨(Lib.itoa n).toArray⟩) ∧ Below w.heap.size w w' := iFormatInt n w h.1 h.2 ht
theorem iSchedOkF (S : SV) (J T F : Option Addr) (cj ct cf : Nat) (w : World) (h : w.ownsRow 0 64 4 (.slice J S.js.length cj) S.js.length (ints (flatJ S.js)) ∧ w.ownsRow 0 88 2 (.slice T S.ts.length ct) S.ts.length (ints (flatT S.ts)) ∧ w.ownsRow 0 3 1 (.slice F S.fs.length cf) S.fs.length (ints S.fs)) (b1 : S.js.length ≤ 1000000000) (b2 : S.ts.length ≤ 1000000000) :
    Calls Tryz.prog 46 #[.agg #[.int .i64 S.z, .int .i64 S.n, .int .i64 S.b, .slice J S.js.length cj, .slice T S.ts.length ct, .slice F S.fs.length cf]] w fun e w' => e = .returned (.bool (schedOkB S)) ∧ Below w.heap.size w w' :=
  iSchedOk S J T F cj ct S.fs.length cf w (Cells.of_own h.1) (Cells.of_own h.2.1) (own_cap' h.2.1) b1 b2
set_option linter.unusedVariables false in
set_option maxRecDepth 100000 in
set_option maxHeartbeats 6400000 in
theorem iFmtYes (S : SV) (hs : schedOkB S = true) (J T F : Option Addr) (cj ct cf : Nat) (w : World) (h : w.ownsRow 0 64 4 (.slice J S.js.length cj) S.js.length (ints (flatJ S.js)) ∧ w.ownsRow 0 88 2 (.slice T S.ts.length ct) S.ts.length (ints (flatT S.ts)) ∧ w.ownsRow 0 3 1 (.slice F S.fs.length cf) S.fs.length (ints S.fs)) (b3 : S.fs.length ≤ 2000000) (hfr : ∀ x ∈ S.fs, in64 x) (ht : Tab w) :
    Calls Tryz.prog 27 #[.agg #[.int .i64 S.z, .int .i64 S.n, .int .i64 S.b, .slice J S.js.length cj, .slice T S.ts.length ct, .slice F S.fs.length cf]] w fun e w' => ∃ A c, e = .returned (.slice A (S.js.length + 3) c) ∧ w'.ownsRow w.heap.size 9 1 (.slice A (S.js.length + 3) c) (S.js.length + 3) (strs (schedTxt S)) ∧ Below w.heap.size w w' := by
  obtain ⟨⟨p1, p2, p3, p4, p5⟩, l16, ⟨t1000, _⟩, ⟨jin, _⟩, _⟩ := schedOkB_iff.1 hs |>.imp_left poolOk_iff.1
  have HOK := hid (fun J T F cj ct cf w h => iSchedOkF S J T F cj ct cf w h (by omega) (by omega))
  rw [hs] at HOK
  have HTX := hid (schedTxt_yes hs)
  have HT := hid ht
  have HFR := hid hfr
  have HJI := hid jin
  clear hs ht hfr jin
  obtain ⟨h1, h2, h3⟩ := h
  have HJ := hid h1
  have HF := hid h3
  go_enter Tryz.func27, Tryz.ntmps27
  have b_0 := (Below.refl w.heap.size w)
  have s_0 := b_0.size
  have oj_in := own_in h1
  have oj_0 := h1
  clear h1
  have ot_in := own_in h2
  have ot_0 := h2
  clear h2
  have of__in := own_in h3
  have of__0 := h3
  clear h3
  go_wp2_with fail
  refine calls_forget1 (W := w) (b0 := w.heap.size) (t0 := 40) (c0 := #[.int .i64 S.z, .int .i64 S.n, .int .i64 S.b, .slice J S.js.length cj, .slice T S.ts.length ct, .slice F S.fs.length cf]) ?_ ?_ ?_
  (focus exact blkcBy)
  (focus (exact belBy))
  intro X1 x_n hX1
  have sX1 := hX1.size
  have x_lt := x_n.lt
  refine (HOK.out _ _ _ _ _ _ _ ⟨own_weak (own_below oj_0 hX1) (Nat.zero_le _), own_weak (own_below ot_0 hX1) (Nat.zero_le _), own_weak (own_below of__0 hX1) (Nat.zero_le _)⟩).mono ?_
  rintro e w1 ⟨rfl, hb1⟩
  have s1 := hb1.size
  have hT1 := hX1.trans (hb1.mono sX1)
  have b_1 := b_0.trans (hT1.mono (by omega))
  have oj_1 := own_below oj_0 hT1
  have ot_1 := own_below ot_0 hT1
  have of__1 := own_below of__0 hT1
  have x_1 := Blk.past hb1 x_n
  clear oj_0 ot_0 of__0 b_0 x_n hX1 hT1 hb1
  have cell_x := x_1.cell
  have froz_x := x_1.frozen
  have lt_x := x_1.lt
  have HX := hid x_1
  have HB := hid b_1
  clear oj_1 ot_1 of__1 b_1 cell_x froz_x
  have li0 := Lib.itoa_length_le S.n (by omega) (by omega)
  have li1 := Lib.itoa_length_le S.b (by omega) (by omega)
  have li2 := Lib.itoa_length_le S.z (by omega) (by omega)
  go_wp2_with fail
  refine wp_grow_tail (W := w1) (spec := specAt [(3, .con (.string ⟨(Lib.itoa S.n).toArray⟩)), (9, .con (.string ⟨(Lib.itoa S.b).toArray⟩)), (15, .con (.string ⟨(Lib.itoa S.z).toArray⟩)), (17, .any (RowOf w1.heap.size 9 1 1 [txt (linePool S.z S.n S.b)]))]) 18 (by kernel_rfl) (by kernel_rfl) (Onward.mk' ((Below.refl _ _).drew)) (specAt_stab ?_) ?_
  · intro p hp F hF
    simp only [List.mem_cons, List.not_mem_nil, or_false] at hp
    rcases hp with rfl | rfl | rfl | rfl
    all_goals first | (cases hF; done) | (injection hF with hF; subst hF; exact RowOf.stable)
  refine gList_quietK 3 ⟨rfl, rfl, rfl, rfl, rfl, rfl, trivial⟩ (by decide) ?_
  have q0 := fun (x : Later w1) (o : Nat) => (x_1.below x.below x_1.lt).cell o
  delta Onward
  dsimp only [List.take, List.drop]
  repeat (go_big_quiet_step (fail))
  refine wpQuiet_nil ?_
  refine gList_con (.string ⟨(Lib.itoa S.n).toArray⟩) rfl rfl (fun w' hC _ => ?_) ?_
  · obtain ⟨⟨w', hb⟩, rfl⟩ := hC
    exact grow_con (by simp [go_sem]) (iFormatIntW S.n _ ⟨by omega, by omega⟩ (HT.out.step (HB.out.trans (hb.mono HB.out.size)) HT.out))
  refine gList_quietK 5 ⟨rfl, rfl, rfl, rfl, rfl, rfl, rfl, rfl, rfl, rfl, trivial⟩ (by decide) ?_
  simp only [Act.put, List.setIfInBounds_toArray, List.set_cons_succ, List.set_cons_zero]
  dsimp only [List.take, List.drop]
  repeat (go_big_quiet_step (fail))
  refine wpQuiet_nil ?_
  refine gList_con (.string ⟨(Lib.itoa S.b).toArray⟩) rfl rfl (fun w' hC _ => ?_) ?_
  · obtain ⟨⟨w', hb⟩, rfl⟩ := hC
    exact grow_con (by simp [go_sem]) (iFormatIntW S.b _ ⟨by omega, by omega⟩ (HT.out.step (HB.out.trans (hb.mono HB.out.size)) HT.out))
  refine gList_quietK 5 ⟨rfl, rfl, rfl, rfl, rfl, rfl, rfl, rfl, rfl, rfl, trivial⟩ (by decide) ?_
  simp only [Act.put, List.setIfInBounds_toArray, List.set_cons_succ, List.set_cons_zero]
  dsimp only [List.take, List.drop]
  repeat (go_big_quiet_step (fail))
  refine wpQuiet_nil ?_
  refine gList_con (.string ⟨(Lib.itoa S.z).toArray⟩) rfl rfl (fun w' hC _ => ?_) ?_
  · obtain ⟨⟨w', hb⟩, rfl⟩ := hC
    exact grow_con (by simp [go_sem]) (iFormatIntW S.z _ ⟨by omega, by omega⟩ (HT.out.step (HB.out.trans (hb.mono HB.out.size)) HT.out))
  refine gList_quietK 1 ⟨rfl, rfl, trivial⟩ (by decide) ?_
  simp only [Act.put, List.setIfInBounds_toArray, List.set_cons_succ, List.set_cons_zero]
  dsimp only [List.take, List.drop]
  repeat (go_big_quiet_step (fail))
  refine wpQuiet_nil ?_
  refine gList_any (RowOf w1.heap.size 9 1 1 [txt (linePool S.z S.n S.b)]) rfl rfl (fun w' hC hd => ?_) (fun vr => ?_)
  · obtain ⟨⟨w', hb⟩, rfl⟩ := hC
    refine grow_lit1 rfl ?_ (fun w => litStr _ w) hb.size
    simp only [Act.eval]
    exact congrArg Value.string (by simp only [str_add]; rfl)
  unfold gList
  intro w' hW hfs
  have hlast : RowOf w1.heap.size 9 1 1 [txt (linePool S.z S.n S.b)] vr w' := hfs 17
  obtain ⟨⟨w2, hb⟩, rfl⟩ := hW
  obtain ⟨Ao, co, rfl, ho⟩ := hlast
  have s2 := hb.size
  have HO := hid (show World.ownsRow _ w1.heap.size 9 1 (.slice Ao (1 + 0) co) (1 + 0) (strs (linesTo S 0)) from ho)
  have HB2 := hid (HB.out.trans (hb.mono HB.out.size))
  have HX2 := hid (Blk.past hb HX.out)
  clear q0 hfs hb ho x_1
  dsimp only [List.drop]
  simp only [Act.put, List.setIfInBounds_toArray, List.set_cons_succ, List.set_cons_zero]
  have cell_x := HX2.out.cell
  have froz_x := HX2.out.frozen
  have lt_x2 := HX2.out.lt
  go_wp2_with fail
  go_loopw [3, 5, 33] (fun o p i wr => ∃ (k : Nat) (A : Option Addr) (c : Nat), k ≤ S.js.length ∧ i = .int .i64 k ∧ o = .slice A (1 + k) c ∧ wr.ownsRow w1.heap.size 9 1 (.slice A (1 + k) c) (1 + k) (strs (linesTo S k)) ∧ Blk wr w.heap.size 40 #[.int .i64 S.z, .int .i64 S.n, .int .i64 S.b, .slice J S.js.length cj, .slice T S.ts.length ct, .slice F S.fs.length cf] ∧ Below w.heap.size w wr) (fun _ _ i _ => S.js.length - (intOf i).toNat)
  case atStart => exact ⟨0, Ao, co, Nat.zero_le _, rfl, rfl, by have h := HO.out; exact ownBy, by have h := HX2.out; exact blkcBy, by have h := HB2.out; exact belBy⟩
  case round =>
    clear cell_x froz_x lt_x2
    obtain ⟨k, A1, c1, hk, rfl, rfl, hown, hx, hb⟩ := hrel
    have zw := hb.size
    have zb : w1.heap.size ≤ wr.heap.size := by obtain ⟨_, _, h1, h2, _⟩ := own_at hown (by omega); omega
    by_cases hlt : k < S.js.length
    · obtain ⟨j, hj⟩ : ∃ j, S.js[k]? = some j := ⟨_, List.getElem?_eq_getElem hlt⟩
      have hlt' : (k : Int) < (S.js.length : Int) := by omega
      obtain ⟨r1, r2, r3⟩ := jb_range (HJI.out j (List.mem_of_getElem? hj))
      have li0 := Lib.itoa_length_le j.i (by omega) (by omega)
      have li1 := Lib.itoa_length_le j.d (by omega) (by omega)
      have li2 := Lib.itoa_length_le j.l (by omega) (by omega)
      obtain ⟨g, rfl, _, hg1, _⟩ := own_at HJ.out (by omega)
      have hjo := own_below HJ.out hb
      have d0 := (hjo.cellAt (k * 4) (by omega)).trans (ints_get (flatJ_at hj 0 j.i rfl))
      have d1 := (hjo.cellAt (k * 4 + 1) (by omega)).trans (ints_get (flatJ_at hj 1 j.n rfl))
      have d2 := (hjo.cellAt (k * 4 + 2) (by omega)).trans (ints_get (flatJ_at hj 2 j.l rfl))
      have d3 := (hjo.cellAt (k * 4 + 3) (by omega)).trans (ints_get (flatJ_at hj 3 j.d rfl))
      have HLS := hid (linesTo_succ hj)
      clear hj hjo
      have b_30 := hb
      have s_30 := b_30.size
      have o_in := own_in hown
      have o_30 := hown
      clear hown
      have x_30 := hx
      clear hx
      have x_lt := x_30.lt
      have cell_x := x_30.cell
      have froz_x := x_30.frozen
      have lt_x := x_30.lt
      go_upto_region 7 with fail
      refine wp_forget1 (w0 := wr) (B := wr.heap.size) (b0 := wr.heap.size) (t0 := 64) (c0 := #[.int .i64 j.i, .int .i64 j.n, .int .i64 j.l, .int .i64 j.d]) ?_ ?_ ?_
      (focus exact blkcBy)
      (focus (exact belBy))
      intro w31 bj_31 hX31
      have sX31 := hX31.size
      have bj_lt := bj_31.lt
      have b_31 := b_30.trans (hX31.mono (by omega))
      have o_31 := own_below o_30 hX31
      have x_31 := Blk.past hX31 x_30
      clear o_30 x_30 b_30 cell_x froz_x lt_x hX31
      have cell_x := x_31.cell
      have froz_x := x_31.frozen
      have lt_x := x_31.lt
      have cell_bj := bj_31.cell
      have froz_bj := bj_31.frozen
      have lt_bj := bj_31.lt
      have HO31 := hid o_31
      have HX31 := hid x_31
      have HB31 := hid b_31
      clear o_31 x_31 b_31 cell_x froz_x cell_bj froz_bj d0 d1 d2 d3
      refine wp_grow_tails (W := w31) (spec := specAt [(3, .con (.string ⟨(Lib.itoa j.i).toArray⟩)), (8, .con (.string ⟨(Lib.itoa j.d).toArray⟩)), (13, .con (.string ⟨(Lib.itoa j.l).toArray⟩)), (15, .any (RowOf w31.heap.size 9 1 1 [txt (lineJob j)]))]) 16 (by kernel_rfl) (by kernel_rfl) (Onward.mk' ((Below.refl _ _).drew)) (specAt_stab ?_) ?_
      · intro p hp F hF
        simp only [List.mem_cons, List.not_mem_nil, or_false] at hp
        rcases hp with rfl | rfl | rfl | rfl
        all_goals first | (cases hF; done) | (injection hF with hF; subst hF; exact RowOf.stable)
      refine gList_quietK 3 ⟨rfl, rfl, rfl, rfl, rfl, rfl, trivial⟩ (by decide) ?_
      have q0 := fun (x : Later w31) (o : Nat) => (bj_31.below x.below bj_31.lt).cell o
      delta Onward
      dsimp only [List.take, List.drop]
      repeat (go_big_quiet_step (fail))
      refine wpQuiet_nil ?_
      refine gList_con (.string ⟨(Lib.itoa j.i).toArray⟩) rfl rfl (fun w' hC _ => ?_) ?_
      · obtain ⟨⟨w', hb⟩, rfl⟩ := hC
        exact grow_con (by simp [go_sem]) (iFormatIntW j.i _ ⟨by omega, by omega⟩ (HT.out.step (HB31.out.trans (hb.mono HB31.out.size)) HT.out))
      refine gList_quietK 4 ⟨rfl, rfl, rfl, rfl, rfl, rfl, rfl, rfl, trivial⟩ (by decide) ?_
      simp only [Act.put, List.setIfInBounds_toArray, List.set_cons_succ, List.set_cons_zero]
      dsimp only [List.take, List.drop]
      repeat (go_big_quiet_step (fail))
      refine wpQuiet_nil ?_
      refine gList_con (.string ⟨(Lib.itoa j.d).toArray⟩) rfl rfl (fun w' hC _ => ?_) ?_
      · obtain ⟨⟨w', hb⟩, rfl⟩ := hC
        exact grow_con (by simp [go_sem]) (iFormatIntW j.d _ ⟨by omega, by omega⟩ (HT.out.step (HB31.out.trans (hb.mono HB31.out.size)) HT.out))
      refine gList_quietK 4 ⟨rfl, rfl, rfl, rfl, rfl, rfl, rfl, rfl, trivial⟩ (by decide) ?_
      simp only [Act.put, List.setIfInBounds_toArray, List.set_cons_succ, List.set_cons_zero]
      dsimp only [List.take, List.drop]
      repeat (go_big_quiet_step (fail))
      refine wpQuiet_nil ?_
      refine gList_con (.string ⟨(Lib.itoa j.l).toArray⟩) rfl rfl (fun w' hC _ => ?_) ?_
      · obtain ⟨⟨w', hb⟩, rfl⟩ := hC
        exact grow_con (by simp [go_sem]) (iFormatIntW j.l _ ⟨by omega, by omega⟩ (HT.out.step (HB31.out.trans (hb.mono HB31.out.size)) HT.out))
      refine gList_quietK 1 ⟨rfl, rfl, trivial⟩ (by decide) ?_
      simp only [Act.put, List.setIfInBounds_toArray, List.set_cons_succ, List.set_cons_zero]
      dsimp only [List.take, List.drop]
      repeat (go_big_quiet_step (fail))
      refine wpQuiet_nil ?_
      refine gList_any (RowOf w31.heap.size 9 1 1 [txt (lineJob j)]) rfl rfl (fun w' hC hd => ?_) (fun vr => ?_)
      · obtain ⟨⟨w', hb⟩, rfl⟩ := hC
        refine grow_lit1 rfl ?_ (fun w => litStr _ w) hb.size
        simp only [Act.eval]
        exact congrArg Value.string (by simp only [str_add]; rfl)
      unfold gList
      intro w' hW hfs
      have hlast : RowOf w31.heap.size 9 1 1 [txt (lineJob j)] vr w' := hfs 15
      obtain ⟨⟨w32, hb⟩, rfl⟩ := hW
      obtain ⟨A7, c7, rfl, h7⟩ := hlast
      obtain ⟨g7, rfl, _, _, _⟩ := own_at h7 (by omega)
      have s32 := hb.size
      have H7 := hid (row_news h7)
      have HO32 := hid (own_below HO31.out hb)
      have HX32 := hid (Blk.past hb HX31.out)
      have HB32 := hid (HB31.out.trans (hb.mono HB31.out.size))
      clear q0 hfs hb h7 bj_31
      dsimp only [List.drop]
      simp only [Act.put, List.setIfInBounds_toArray, List.set_cons_succ, List.set_cons_zero]
      go_wp2_with (at_builtin; go_loud (refine wpList_appi rfl _ _ 31 rfl (w1.heap.size) 9 (.string ⟨#[]⟩) 1 16 Tryz.underlying31 infoStr rfl (by decide) _ (1 + k) _ rfl HO32.out ⟨g7, 0, none⟩ 1 c7 [txt (lineJob j)] rfl rfl H7.out (txt_one _) (by omega) (by decide) (by omega) ?_))
      intro A33 c33 w33 ho33 hg33 li33
      have s33 := hg33.size
      have hlo33 : ∀ q, (Value.slice A1 (1 + k) c1).ownBlock = some q → w1.heap.size ≤ q := fun q hq => (own_in HO32.out q hq).1
      have HX33 := hid (gr_blk hg33 HX32.out (fun q hq => by have h1 := hlo33 q hq; omega))
      have HB33 := hid (gr_below hg33 HB32.out (by omega) (fun q hq => by have h1 := hlo33 q hq; omega))
      rw [← strs_snoc, ← HLS.out] at ho33
      have HO33 := hid ho33
      clear hg33 li33 ho33 hlo33
      go_wp2
      go_roundw
      case rel => exact ⟨k + 1, A33, c33, by omega, by go_num, rfl, HO33.out, HX33.out, HB33.out⟩
      case measure => simp [intOf]; omega
    · obtain rfl : k = S.js.length := by omega
      have HO3 := hid hown
      have HX3 := hid hx
      have HB3 := hid hb
      clear hown hx hb
      have cell_x := HX3.out.cell
      have froz_x := HX3.out.frozen
      have lt_x3 := HX3.out.lt
      go_wp2_with fail
      go_loopw [6, 8, 58] (fun f p i wq => ∃ (m : Nat) (L : List UInt8), m ≤ S.fs.length ∧ i = .int .i64 m ∧ f = .string ⟨L.toArray⟩ ∧ L = failTo S.fs m ∧ wq.ownsRow w1.heap.size 9 1 (.slice A1 (1 + S.js.length) c1) (1 + S.js.length) (strs (linesTo S S.js.length)) ∧ Blk wq w.heap.size 40 #[.int .i64 S.z, .int .i64 S.n, .int .i64 S.b, .slice J S.js.length cj, .slice T S.ts.length ct, .slice F S.fs.length cf] ∧ Below w.heap.size w wq) (fun _ _ i _ => S.fs.length - (intOf i).toNat)
      case atStart => exact ⟨0, failTo S.fs 0, Nat.zero_le _, rfl, rfl, rfl, by have h := HO3.out; exact ownBy, by have h := HX3.out; exact blkcBy, by have h := HB3.out; exact belBy⟩
      case round =>
        clear cell_x froz_x lt_x3
        obtain ⟨m, L, hm, rfl, rfl, hL, hown, hx, hb⟩ := hrel
        have zq := hb.size
        have zr : w1.heap.size ≤ wr.heap.size := by obtain ⟨_, _, h1, h2, _⟩ := own_at hown (by omega); omega
        have hll : L.length ≤ 100000000 := by rw [hL]; have := failTo_length HFR.out m; omega
        have HL := hid hL
        clear hL
        by_cases hlt : m < S.fs.length
        · obtain ⟨y, hy⟩ : ∃ y, S.fs[m]? = some y := ⟨_, List.getElem?_eq_getElem hlt⟩
          have hlt' : (m : Int) < (S.fs.length : Int) := by omega
          have hyr := HFR.out y (List.mem_of_getElem? hy)
          have HYR := hid hyr
          have liy := Lib.itoa_length_le y hyr.1 hyr.2
          obtain ⟨gf, rfl, _, hgf1, _⟩ := own_at HF.out (by omega)
          have d0 := ((own_below HF.out hb).cellAt m (by omega)).trans (ints_get hy)
          have HFS := hid (failTo_succ hy)
          clear hy hyr
          have b_50 := hb
          have s_50 := b_50.size
          have o_in := own_in hown
          have o_50 := hown
          clear hown
          have x_50 := hx
          clear hx
          have x_lt := x_50.lt
          have cell_x := x_50.cell
          have froz_x := x_50.frozen
          have lt_x := x_50.lt
          have q_50 := d0
          clear d0
          have lt_q : gf < wr.heap.size := by omega
          go_wp2_with fail
          refine calls_forget0 (W := wr) ?_ ?_
          (focus (exact belBy))
          intro X51 hX51
          have sX51 := hX51.size
          refine (iFormatIntW y _ HYR.out (HT.out.step (b_50.trans (hX51.mono (by omega))) HT.out)).mono ?_
          rintro e w51 ⟨rfl, hb51⟩
          have s51 := hb51.size
          have hT51 := hX51.trans (hb51.mono sX51)
          have b_51 := b_50.trans (hT51.mono (by omega))
          have o_51 := own_below o_50 hT51
          have x_51 := Blk.past hT51 x_50
          have q_51 := cell_kept q_50 hT51 (by dsimp only; omega)
          clear o_50 x_50 q_50 b_50 cell_x froz_x lt_x lt_q hX51 hT51 hb51
          have cell_x := x_51.cell
          have froz_x := x_51.frozen
          have lt_x := x_51.lt
          have lt_q : gf < w51.heap.size := (by omega)
          have HO51 := hid o_51
          have HX51 := hid x_51
          have HB51 := hid b_51
          clear o_51 x_51 b_51 q_51
          go_wp2
          go_roundw
          case rel => exact ⟨m + 1, L ++ [32] ++ Lib.itoa y, by omega, by go_num, congrArg Value.string (by simp only [← str_add]), by rw [HL.out, ← HFS.out], HO51.out, HX51.out, HB51.out⟩
          case measure => simp [intOf]; omega
        · obtain rfl : m = S.fs.length := by omega
          have lit := Lib.itoa_length_le (S.ts.length : Int) (by omega) (by omega)
          have b_70 := hb
          have s_70 := b_70.size
          have o_in := own_in hown
          have o_70 := hown
          clear hown
          have x_70 := hx
          clear hx
          have x_lt := x_70.lt
          have cell_x := x_70.cell
          have froz_x := x_70.frozen
          have lt_x := x_70.lt
          go_wp2_with fail
          refine calls_forget0 (W := wr) ?_ ?_
          (focus (exact belBy))
          intro X71 hX71
          have sX71 := hX71.size
          refine (iFormatIntW (S.ts.length : Int) _ ⟨by omega, by omega⟩ (HT.out.step (b_70.trans (hX71.mono (by omega))) HT.out)).mono ?_
          rintro e w71 ⟨rfl, hb71⟩
          have s71 := hb71.size
          have hT71 := hX71.trans (hb71.mono sX71)
          have b_71 := b_70.trans (hT71.mono (by omega))
          have o_71 := own_below o_70 hT71
          have x_71 := Blk.past hT71 x_70
          clear o_70 x_70 b_70 cell_x froz_x lt_x hX71 hT71 hb71
          have cell_x := x_71.cell
          have froz_x := x_71.frozen
          have lt_x := x_71.lt
          have HO71 := hid o_71
          have HX71 := hid x_71
          have HB71 := hid b_71
          clear o_71 x_71 b_71 cell_x froz_x
          go_wp2_with (at_builtin; go_loud (refine wpList_appi rfl _ _ 31 rfl w1.heap.size 9 (.string ⟨#[]⟩) 1 16 Tryz.underlying31 infoStr rfl (by decide) _ (1 + S.js.length) _ rfl (HO71.out.alloc _) ⟨w71.heap.size, 0, none⟩ 2 2 _ rfl rfl (many_new _ [_, _] _) (str_two _ _) (by omega) (by decide) (by simp; omega) ?_))
          intro A73 c73 w73 ho73 hg73 li73
          have hg := grown_alloc hg73
          have hlo : ∀ q, (Value.slice A1 (1 + S.js.length) c1).ownBlock = some q → w1.heap.size ≤ q := fun q hq => (own_in HO71.out q hq).1
          have HB73 := hid (gr_below hg HB71.out (by omega) (fun q hq => by have h1 := hlo q hq; omega))
          have HO73 := hid ho73
          clear hg hg73 li73 ho73 hlo
          go_wp2
          go_ret
          refine ⟨A73, c73, ?_, ?_, HB73.out⟩
          · exact congrArg (fun n => Ending.returned (.slice A73 n c73)) (by omega)
          · rw [HTX.out, show S.js.length + 3 = 1 + S.js.length + 2 by omega]
            refine own_weak (base := w1.heap.size) ?_ (by omega)
            have h := HO73.out
            rw [str_add] at h
            rw [strs_snoc, strs_snoc, List.append_assoc]
            rw [HL.out] at h
            exact h
end Go.Proofs.YtjknadnknainbaaGreatDoor
/- FormatSched, in the reference. -/
namespace Go.Proofs.YtjknadnknainbaaGreatDoor
open Go.RowKit

theorem sFormatIntW (n : Int) (w : World) (h : in64 n) (_ht : Tab w) :
    Calls Tryz.prog 10 #[.int .i64 n] w fun e w' => e = .returned (.string ⟨(Lib.itoa n).toArray⟩) ∧ Below w.heap.size w w' := sFormatInt n w h.1 h.2
theorem sSchedOkF (S : SV) (J T F : Option Addr) (cj ct cf : Nat) (w : World) (h : w.ownsRow 0 64 4 (.slice J S.js.length cj) S.js.length (ints (flatJ S.js)) ∧ w.ownsRow 0 88 2 (.slice T S.ts.length ct) S.ts.length (ints (flatT S.ts)) ∧ w.ownsRow 0 3 1 (.slice F S.fs.length cf) S.fs.length (ints S.fs)) (b1 : S.js.length ≤ 1000000000) (b2 : S.ts.length ≤ 1000000000) :
    Calls Tryz.prog 31 #[.agg #[.int .i64 S.z, .int .i64 S.n, .int .i64 S.b, .slice J S.js.length cj, .slice T S.ts.length ct, .slice F S.fs.length cf]] w fun e w' => e = .returned (.bool (schedOkB S)) ∧ Below w.heap.size w w' :=
  sSchedOk S J T F cj ct S.fs.length cf w (Cells.of_own h.1) (Cells.of_own h.2.1) b1 b2
theorem str_one (a : ByteArray) : ∀ u ∈ [Value.string a], u.oneCell' = true := by
  intro u hu
  simp at hu
  subst hu
  rfl
set_option linter.unusedVariables false in
set_option maxRecDepth 100000 in
set_option maxHeartbeats 6400000 in
theorem sFmtYes (S : SV) (hs : schedOkB S = true) (J T F : Option Addr) (cj ct cf : Nat) (w : World) (h : w.ownsRow 0 64 4 (.slice J S.js.length cj) S.js.length (ints (flatJ S.js)) ∧ w.ownsRow 0 88 2 (.slice T S.ts.length ct) S.ts.length (ints (flatT S.ts)) ∧ w.ownsRow 0 3 1 (.slice F S.fs.length cf) S.fs.length (ints S.fs)) (b3 : S.fs.length ≤ 2000000) (hfr : ∀ x ∈ S.fs, in64 x) (ht : Tab w) :
    Calls Tryz.prog 12 #[.agg #[.int .i64 S.z, .int .i64 S.n, .int .i64 S.b, .slice J S.js.length cj, .slice T S.ts.length ct, .slice F S.fs.length cf]] w fun e w' => ∃ A c, e = .returned (.slice A (S.js.length + 3) c) ∧ w'.ownsRow w.heap.size 9 1 (.slice A (S.js.length + 3) c) (S.js.length + 3) (strs (schedTxt S)) ∧ Below w.heap.size w w' := by
  obtain ⟨⟨p1, p2, p3, p4, p5⟩, l16, ⟨t1000, _⟩, ⟨jin, _⟩, _⟩ := schedOkB_iff.1 hs |>.imp_left poolOk_iff.1
  have HOK := hid (fun J T F cj ct cf w h => sSchedOkF S J T F cj ct cf w h (by omega) (by omega))
  rw [hs] at HOK
  have HTX := hid (schedTxt_yes hs)
  have HT := hid ht
  have HFR := hid hfr
  have HJI := hid jin
  clear hs ht hfr jin
  obtain ⟨h1, h2, h3⟩ := h
  have HJ := hid h1
  have HF := hid h3
  go_enter Tryz.func12, Tryz.ntmps12
  go_upto_region 2 with fail
  obtain ⟨W1, hW1⟩ : ∃ W1, W1 = (w.alloc (.cells #[.int .i64 S.z, .int .i64 S.n, .int .i64 S.b, .slice J S.js.length cj, .slice T S.ts.length ct, .slice F S.fs.length cf] 40)).alloc (.cells #[] 9) := ⟨_, rfl⟩
  have ho : W1.ownsRow (w.heap.size + 1) 9 1 (.slice (some ⟨w.heap.size + 1, 0, none⟩) 0 0) 0 (strs []) := by rw [hW1]; exact own_lit (size := 1) #[] 0 (by simp) (by simp) (Nat.zero_le _) rfl
  have hx : Blk W1 w.heap.size 40 #[.int .i64 S.z, .int .i64 S.n, .int .i64 S.b, .slice J S.js.length cj, .slice T S.ts.length ct, .slice F S.fs.length cf] := by rw [hW1]; exact blkcBy
  have hb1 : Below w.heap.size w W1 := by rw [hW1]; exact belBy
  have hz1 : w.heap.size + 2 = W1.heap.size := by rw [hW1]; simp
  rw [← hW1]
  clear hW1
  have h1' := own_below h1 hb1
  have h2' := own_below h2 hb1
  have h3' := own_below h3 hb1
  have b_0 := hb1
  have s_0 := b_0.size
  have oj_in := own_in h1'
  have oj_0 := h1'
  clear h1'
  have ot_in := own_in h2'
  have ot_0 := h2'
  clear h2'
  have of__in := own_in h3'
  have of__0 := h3'
  clear h3'
  have o_in := own_in ho
  have o_0 := ho
  clear ho
  have x_0 := hx
  clear hx
  have x_lt := x_0.lt
  have cell_x := x_0.cell
  have froz_x := x_0.frozen
  have lt_x := x_0.lt
  go_wp2_with fail
  refine calls_forget0 (W := W1) ?_ ?_
  (focus (exact belBy))
  intro X1 hX1
  have sX1 := hX1.size
  refine (HOK.out _ _ _ _ _ _ _ ⟨own_weak (own_below oj_0 hX1) (Nat.zero_le _), own_weak (own_below ot_0 hX1) (Nat.zero_le _), own_weak (own_below of__0 hX1) (Nat.zero_le _)⟩).mono ?_
  rintro e w1 ⟨rfl, hb1⟩
  have s1 := hb1.size
  have hT1 := hX1.trans (hb1.mono sX1)
  have b_1 := b_0.trans (hT1.mono (by omega))
  have oj_1 := own_below oj_0 hT1
  have ot_1 := own_below ot_0 hT1
  have of__1 := own_below of__0 hT1
  have o_1 := own_below o_0 hT1
  have x_1 := Blk.past hT1 x_0
  clear oj_0 ot_0 of__0 o_0 x_0 b_0 cell_x froz_x lt_x hX1 hT1 hb1
  have cell_x := x_1.cell
  have froz_x := x_1.frozen
  have lt_x := x_1.lt
  have HX := hid x_1
  have HB := hid b_1
  have HO1 := hid o_1
  clear oj_1 ot_1 of__1 o_1 b_1 cell_x froz_x
  have li0 := Lib.itoa_length_le S.n (by omega) (by omega)
  have li1 := Lib.itoa_length_le S.b (by omega) (by omega)
  have li2 := Lib.itoa_length_le S.z (by omega) (by omega)
  go_wp2_with fail
  refine wp_grow_tails (W := w1) (spec := specAt [(4, .con (.string ⟨(Lib.itoa S.n).toArray⟩)), (10, .con (.string ⟨(Lib.itoa S.b).toArray⟩)), (16, .con (.string ⟨(Lib.itoa S.z).toArray⟩)), (18, .any (RowOf w1.heap.size 9 1 1 [txt (linePool S.z S.n S.b)]))]) 19 (by kernel_rfl) (by kernel_rfl) (Onward.mk' ((Below.refl _ _).drew)) (specAt_stab ?_) ?_
  · intro p hp F hF
    simp only [List.mem_cons, List.not_mem_nil, or_false] at hp
    rcases hp with rfl | rfl | rfl | rfl
    all_goals first | (cases hF; done) | (injection hF with hF; subst hF; exact RowOf.stable)
  refine gList_quietK 4 ⟨rfl, rfl, rfl, rfl, rfl, rfl, rfl, rfl, trivial⟩ (by decide) ?_
  have q0 := fun (x : Later w1) (o : Nat) => (x_1.below x.below x_1.lt).cell o
  delta Onward
  dsimp only [List.take, List.drop]
  repeat (go_big_quiet_step (fail))
  refine wpQuiet_nil ?_
  refine gList_con (.string ⟨(Lib.itoa S.n).toArray⟩) rfl rfl (fun w' hC _ => ?_) ?_
  · obtain ⟨⟨w', hb⟩, rfl⟩ := hC
    exact grow_con (by simp [go_sem]) (sFormatIntW S.n _ ⟨by omega, by omega⟩ (HT.out.step (HB.out.trans (hb.mono HB.out.size)) HT.out))
  refine gList_quietK 5 ⟨rfl, rfl, rfl, rfl, rfl, rfl, rfl, rfl, rfl, rfl, trivial⟩ (by decide) ?_
  simp only [Act.put, List.setIfInBounds_toArray, List.set_cons_succ, List.set_cons_zero]
  dsimp only [List.take, List.drop]
  repeat (go_big_quiet_step (fail))
  refine wpQuiet_nil ?_
  refine gList_con (.string ⟨(Lib.itoa S.b).toArray⟩) rfl rfl (fun w' hC _ => ?_) ?_
  · obtain ⟨⟨w', hb⟩, rfl⟩ := hC
    exact grow_con (by simp [go_sem]) (sFormatIntW S.b _ ⟨by omega, by omega⟩ (HT.out.step (HB.out.trans (hb.mono HB.out.size)) HT.out))
  refine gList_quietK 5 ⟨rfl, rfl, rfl, rfl, rfl, rfl, rfl, rfl, rfl, rfl, trivial⟩ (by decide) ?_
  simp only [Act.put, List.setIfInBounds_toArray, List.set_cons_succ, List.set_cons_zero]
  dsimp only [List.take, List.drop]
  repeat (go_big_quiet_step (fail))
  refine wpQuiet_nil ?_
  refine gList_con (.string ⟨(Lib.itoa S.z).toArray⟩) rfl rfl (fun w' hC _ => ?_) ?_
  · obtain ⟨⟨w', hb⟩, rfl⟩ := hC
    exact grow_con (by simp [go_sem]) (sFormatIntW S.z _ ⟨by omega, by omega⟩ (HT.out.step (HB.out.trans (hb.mono HB.out.size)) HT.out))
  refine gList_quietK 1 ⟨rfl, rfl, trivial⟩ (by decide) ?_
  simp only [Act.put, List.setIfInBounds_toArray, List.set_cons_succ, List.set_cons_zero]
  dsimp only [List.take, List.drop]
  repeat (go_big_quiet_step (fail))
  refine wpQuiet_nil ?_
  refine gList_any (RowOf w1.heap.size 9 1 1 [txt (linePool S.z S.n S.b)]) rfl rfl (fun w' hC hd => ?_) (fun vr => ?_)
  · obtain ⟨⟨w', hb⟩, rfl⟩ := hC
    refine grow_lit1 rfl ?_ (fun w => litStr _ w) hb.size
    simp only [Act.eval]
    exact congrArg Value.string (by simp only [str_add]; rfl)
  unfold gList
  intro w' hW hfs
  have hlast : RowOf w1.heap.size 9 1 1 [txt (linePool S.z S.n S.b)] vr w' := hfs 18
  obtain ⟨⟨w2, hb⟩, rfl⟩ := hW
  obtain ⟨A7, c7, rfl, h7⟩ := hlast
  obtain ⟨g7, rfl, _, _, _⟩ := own_at h7 (by omega)
  have s2 := hb.size
  have H7 := hid (row_news h7)
  have HO12 := hid (own_below HO1.out hb)
  have HB12 := hid (HB.out.trans (hb.mono HB.out.size))
  have HX12 := hid (Blk.past hb HX.out)
  clear q0 hfs hb h7 x_1
  dsimp only [List.drop]
  simp only [Act.put, List.setIfInBounds_toArray, List.set_cons_succ, List.set_cons_zero]
  go_wp2_with (at_builtin; go_loud (refine wpList_appi rfl _ _ 31 rfl (w.heap.size + 1) 9 (.string ⟨#[]⟩) 1 16 Tryz.underlying31 infoStr rfl (by decide) _ 0 _ rfl HO12.out ⟨g7, 0, none⟩ 1 c7 [txt (linePool S.z S.n S.b)] rfl rfl H7.out (txt_one _) (by omega) (by decide) (by omega) ?_))
  intro A2 c2 w2 ho2 hg2 li2
  have s2 := hg2.size
  have hlo2 : ∀ q, (Value.slice (some ⟨w.heap.size + 1, 0, none⟩) 0 0).ownBlock = some q → (w.heap.size + 1) ≤ q := fun q hq => (own_in HO12.out q hq).1
  have HX2 := hid (gr_blk hg2 HX12.out (fun q hq => by have h1 := hlo2 q hq; omega))
  have HB2 := hid (gr_below hg2 HB12.out (by omega) (fun q hq => by have h1 := hlo2 q hq; omega))
  have HO2 := hid ho2
  clear hg2 li2 ho2 hlo2
  have HO := hid (show World.ownsRow _ (w.heap.size + 1) 9 1 (.slice A2 (1 + 0) c2) (1 + 0) (strs (linesTo S 0)) from HO2.out)
  have cell_x := HX2.out.cell
  have froz_x := HX2.out.frozen
  have lt_x2 := HX2.out.lt
  go_wp2_with fail
  go_loopw [3, 4, 5] (fun o i p wr => ∃ (k : Nat) (A : Option Addr) (c : Nat), k ≤ S.js.length ∧ i = .int .i64 k ∧ o = .slice A (1 + k) c ∧ wr.ownsRow (w.heap.size + 1) 9 1 (.slice A (1 + k) c) (1 + k) (strs (linesTo S k)) ∧ Blk wr w.heap.size 40 #[.int .i64 S.z, .int .i64 S.n, .int .i64 S.b, .slice J S.js.length cj, .slice T S.ts.length ct, .slice F S.fs.length cf] ∧ Below w.heap.size w wr) (fun _ i _ _ => S.js.length - (intOf i).toNat)
  case atStart => exact ⟨0, A2, c2, Nat.zero_le _, rfl, rfl, by have h := HO.out; exact ownBy, by have h := HX2.out; exact blkcBy, by have h := HB2.out; exact belBy⟩
  case round =>
    clear cell_x froz_x lt_x2
    obtain ⟨k, A1, c1, hk, rfl, rfl, hown, hx, hb⟩ := hrel
    have zw := hb.size
    have zb : (w.heap.size + 1) ≤ wr.heap.size := by obtain ⟨_, _, h1, h2, _⟩ := own_at hown (by omega); omega
    by_cases hlt : k < S.js.length
    · obtain ⟨j, hj⟩ : ∃ j, S.js[k]? = some j := ⟨_, List.getElem?_eq_getElem hlt⟩
      have hlt' : (k : Int) < (S.js.length : Int) := by omega
      obtain ⟨r1, r2, r3⟩ := jb_range (HJI.out j (List.mem_of_getElem? hj))
      have li0 := Lib.itoa_length_le j.i (by omega) (by omega)
      have li1 := Lib.itoa_length_le j.d (by omega) (by omega)
      have li2 := Lib.itoa_length_le j.l (by omega) (by omega)
      obtain ⟨g, rfl, _, hg1, _⟩ := own_at HJ.out (by omega)
      have hjo := own_below HJ.out hb
      have d0 := (hjo.cellAt (k * 4) (by omega)).trans (ints_get (flatJ_at hj 0 j.i rfl))
      have d1 := (hjo.cellAt (k * 4 + 1) (by omega)).trans (ints_get (flatJ_at hj 1 j.n rfl))
      have d2 := (hjo.cellAt (k * 4 + 2) (by omega)).trans (ints_get (flatJ_at hj 2 j.l rfl))
      have d3 := (hjo.cellAt (k * 4 + 3) (by omega)).trans (ints_get (flatJ_at hj 3 j.d rfl))
      have HLS := hid (linesTo_succ hj)
      clear hj hjo
      have b_30 := hb
      have s_30 := b_30.size
      have o_in := own_in hown
      have o_30 := hown
      clear hown
      have x_30 := hx
      clear hx
      have x_lt := x_30.lt
      have cell_x := x_30.cell
      have froz_x := x_30.frozen
      have lt_x := x_30.lt
      go_upto_region 9 with fail
      refine wp_forget1 (w0 := wr) (B := wr.heap.size) (b0 := wr.heap.size) (t0 := 64) (c0 := #[.int .i64 j.i, .int .i64 j.n, .int .i64 j.l, .int .i64 j.d]) ?_ ?_ ?_
      (focus exact blkcBy)
      (focus (exact belBy))
      intro w31 bj_31 hX31
      have sX31 := hX31.size
      have bj_lt := bj_31.lt
      have b_31 := b_30.trans (hX31.mono (by omega))
      have o_31 := own_below o_30 hX31
      have x_31 := Blk.past hX31 x_30
      clear o_30 x_30 b_30 cell_x froz_x lt_x hX31
      have cell_x := x_31.cell
      have froz_x := x_31.frozen
      have lt_x := x_31.lt
      have cell_bj := bj_31.cell
      have froz_bj := bj_31.frozen
      have lt_bj := bj_31.lt
      have HO31 := hid o_31
      have HX31 := hid x_31
      have HB31 := hid b_31
      clear o_31 x_31 b_31 cell_x froz_x cell_bj froz_bj d0 d1 d2 d3
      refine wp_grow_tails (W := w31) (spec := specAt [(3, .con (.string ⟨(Lib.itoa j.i).toArray⟩)), (8, .con (.string ⟨(Lib.itoa j.d).toArray⟩)), (13, .con (.string ⟨(Lib.itoa j.l).toArray⟩)), (15, .any (RowOf w31.heap.size 9 1 1 [txt (lineJob j)]))]) 16 (by kernel_rfl) (by kernel_rfl) (Onward.mk' ((Below.refl _ _).drew)) (specAt_stab ?_) ?_
      · intro p hp F hF
        simp only [List.mem_cons, List.not_mem_nil, or_false] at hp
        rcases hp with rfl | rfl | rfl | rfl
        all_goals first | (cases hF; done) | (injection hF with hF; subst hF; exact RowOf.stable)
      refine gList_quietK 3 ⟨rfl, rfl, rfl, rfl, rfl, rfl, trivial⟩ (by decide) ?_
      have q0 := fun (x : Later w31) (o : Nat) => (bj_31.below x.below bj_31.lt).cell o
      delta Onward
      dsimp only [List.take, List.drop]
      repeat (go_big_quiet_step (fail))
      refine wpQuiet_nil ?_
      refine gList_con (.string ⟨(Lib.itoa j.i).toArray⟩) rfl rfl (fun w' hC _ => ?_) ?_
      · obtain ⟨⟨w', hb⟩, rfl⟩ := hC
        exact grow_con (by simp [go_sem]) (sFormatIntW j.i _ ⟨by omega, by omega⟩ (HT.out.step (HB31.out.trans (hb.mono HB31.out.size)) HT.out))
      refine gList_quietK 4 ⟨rfl, rfl, rfl, rfl, rfl, rfl, rfl, rfl, trivial⟩ (by decide) ?_
      simp only [Act.put, List.setIfInBounds_toArray, List.set_cons_succ, List.set_cons_zero]
      dsimp only [List.take, List.drop]
      repeat (go_big_quiet_step (fail))
      refine wpQuiet_nil ?_
      refine gList_con (.string ⟨(Lib.itoa j.d).toArray⟩) rfl rfl (fun w' hC _ => ?_) ?_
      · obtain ⟨⟨w', hb⟩, rfl⟩ := hC
        exact grow_con (by simp [go_sem]) (sFormatIntW j.d _ ⟨by omega, by omega⟩ (HT.out.step (HB31.out.trans (hb.mono HB31.out.size)) HT.out))
      refine gList_quietK 4 ⟨rfl, rfl, rfl, rfl, rfl, rfl, rfl, rfl, trivial⟩ (by decide) ?_
      simp only [Act.put, List.setIfInBounds_toArray, List.set_cons_succ, List.set_cons_zero]
      dsimp only [List.take, List.drop]
      repeat (go_big_quiet_step (fail))
      refine wpQuiet_nil ?_
      refine gList_con (.string ⟨(Lib.itoa j.l).toArray⟩) rfl rfl (fun w' hC _ => ?_) ?_
      · obtain ⟨⟨w', hb⟩, rfl⟩ := hC
        exact grow_con (by simp [go_sem]) (sFormatIntW j.l _ ⟨by omega, by omega⟩ (HT.out.step (HB31.out.trans (hb.mono HB31.out.size)) HT.out))
      refine gList_quietK 1 ⟨rfl, rfl, trivial⟩ (by decide) ?_
      simp only [Act.put, List.setIfInBounds_toArray, List.set_cons_succ, List.set_cons_zero]
      dsimp only [List.take, List.drop]
      repeat (go_big_quiet_step (fail))
      refine wpQuiet_nil ?_
      refine gList_any (RowOf w31.heap.size 9 1 1 [txt (lineJob j)]) rfl rfl (fun w' hC hd => ?_) (fun vr => ?_)
      · obtain ⟨⟨w', hb⟩, rfl⟩ := hC
        refine grow_lit1 rfl ?_ (fun w => litStr _ w) hb.size
        simp only [Act.eval]
        exact congrArg Value.string (by simp only [str_add]; rfl)
      unfold gList
      intro w' hW hfs
      have hlast : RowOf w31.heap.size 9 1 1 [txt (lineJob j)] vr w' := hfs 15
      obtain ⟨⟨w32, hb⟩, rfl⟩ := hW
      obtain ⟨A7, c7, rfl, h7⟩ := hlast
      obtain ⟨g7, rfl, _, _, _⟩ := own_at h7 (by omega)
      have s32 := hb.size
      have H7 := hid (row_news h7)
      have HO32 := hid (own_below HO31.out hb)
      have HX32 := hid (Blk.past hb HX31.out)
      have HB32 := hid (HB31.out.trans (hb.mono HB31.out.size))
      clear q0 hfs hb h7 bj_31
      dsimp only [List.drop]
      simp only [Act.put, List.setIfInBounds_toArray, List.set_cons_succ, List.set_cons_zero]
      go_wp2_with (at_builtin; go_loud (refine wpList_appi rfl _ _ 31 rfl ((w.heap.size + 1)) 9 (.string ⟨#[]⟩) 1 16 Tryz.underlying31 infoStr rfl (by decide) _ (1 + k) _ rfl HO32.out ⟨g7, 0, none⟩ 1 c7 [txt (lineJob j)] rfl rfl H7.out (txt_one _) (by omega) (by decide) (by omega) ?_))
      intro A33 c33 w33 ho33 hg33 li33
      have s33 := hg33.size
      have hlo33 : ∀ q, (Value.slice A1 (1 + k) c1).ownBlock = some q → (w.heap.size + 1) ≤ q := fun q hq => (own_in HO32.out q hq).1
      have HX33 := hid (gr_blk hg33 HX32.out (fun q hq => by have h1 := hlo33 q hq; omega))
      have HB33 := hid (gr_below hg33 HB32.out (by omega) (fun q hq => by have h1 := hlo33 q hq; omega))
      rw [← strs_snoc, ← HLS.out] at ho33
      have HO33 := hid ho33
      clear hg33 li33 ho33 hlo33
      go_wp2
      go_roundw
      case rel => exact ⟨k + 1, A33, c33, by omega, by go_num, rfl, HO33.out, HX33.out, HB33.out⟩
      case measure => simp [intOf]; omega
    · obtain rfl : k = S.js.length := by omega
      have HO3 := hid hown
      have HX3 := hid hx
      have HB3 := hid hb
      clear hown hx hb
      have lit := Lib.itoa_length_le (S.ts.length : Int) (by omega) (by omega)
      have hx3 := HX3.out
      have ho3 := HO3.out
      have hb3 := HB3.out
      have b_40 := hb3
      have s_40 := b_40.size
      have o_in := own_in ho3
      have o_40 := ho3
      clear ho3
      have x_40 := hx3
      clear hx3
      have x_lt := x_40.lt
      have cell_x := x_40.cell
      have froz_x := x_40.frozen
      have lt_x := x_40.lt
      go_wp2_with fail
      refine calls_forget0 (W := wr) ?_ ?_
      (focus (exact belBy))
      intro X41 hX41
      have sX41 := hX41.size
      refine (sFormatIntW (S.ts.length : Int) _ ⟨by omega, by omega⟩ (HT.out.step (b_40.trans (hX41.mono (by omega))) HT.out)).mono ?_
      rintro e w41 ⟨rfl, hb41⟩
      have s41 := hb41.size
      have hT41 := hX41.trans (hb41.mono sX41)
      have b_41 := b_40.trans (hT41.mono (by omega))
      have o_41 := own_below o_40 hT41
      have x_41 := Blk.past hT41 x_40
      clear o_40 x_40 b_40 cell_x froz_x lt_x hX41 hT41 hb41
      have cell_x := x_41.cell
      have froz_x := x_41.frozen
      have lt_x := x_41.lt
      have HO41 := hid o_41
      have HX41 := hid x_41
      have HB41 := hid b_41
      clear o_41 x_41 b_41 cell_x froz_x
      go_wp2_with (at_builtin; go_loud (refine wpList_appi rfl _ _ 31 rfl (w.heap.size + 1) 9 (.string ⟨#[]⟩) 1 16 Tryz.underlying31 infoStr rfl (by decide) _ (1 + S.js.length) _ rfl (HO41.out.alloc _) ⟨w41.heap.size, 0, none⟩ 1 1 _ rfl rfl (one_new _ _ _) (str_one _) (by omega) (by decide) (by simp; omega) ?_))
      intro A43 c43 w43 ho43 hg43 li43
      have hg := grown_alloc hg43
      have s43 := hg.size
      have hlo : ∀ q, (Value.slice A1 (1 + S.js.length) c1).ownBlock = some q → w.heap.size + 1 ≤ q := fun q hq => (own_in HO41.out q hq).1
      have HX43 := hid (gr_blk hg HX41.out (fun q hq => by have h1 := hlo q hq; omega))
      have HB43 := hid (gr_below hg HB41.out (by omega) (fun q hq => by have h1 := hlo q hq; omega))
      rw [str_add] at ho43
      have ho43' : w43.ownsRow (w.heap.size + 1) 9 1 (.slice A43 (1 + S.js.length + 1) c43) (1 + S.js.length + 1) (strs (linesTo S S.js.length ++ [lineTickets S.ts.length])) := by rw [strs_snoc]; exact ho43
      have HO43 := hid ho43'
      clear hg hg43 li43 ho43 ho43' hlo HO3 HX3 HB3
      have HO3 := HO43
      have HX3 := HX43
      have HB3 := HB43
      have cell_x := HX3.out.cell
      have froz_x := HX3.out.frozen
      have lt_x3 := HX3.out.lt
      go_wp2_with fail
      go_loopw [6, 7] (fun f i wq => ∃ (m : Nat) (L : List UInt8), m ≤ S.fs.length ∧ i = .int .i64 m ∧ f = .string ⟨L.toArray⟩ ∧ L = failTo S.fs m ∧ wq.ownsRow (w.heap.size + 1) 9 1 (.slice A43 (1 + S.js.length + 1) c43) (1 + S.js.length + 1) (strs (linesTo S S.js.length ++ [lineTickets S.ts.length])) ∧ Blk wq w.heap.size 40 #[.int .i64 S.z, .int .i64 S.n, .int .i64 S.b, .slice J S.js.length cj, .slice T S.ts.length ct, .slice F S.fs.length cf] ∧ Below w.heap.size w wq) (fun _ i _ => S.fs.length - (intOf i).toNat)
      case atStart => exact ⟨0, failTo S.fs 0, Nat.zero_le _, rfl, rfl, rfl, by have h := HO3.out; exact ownBy, by have h := HX3.out; exact blkcBy, by have h := HB3.out; exact belBy⟩
      case round =>
        clear cell_x froz_x lt_x3
        obtain ⟨m, L, hm, rfl, rfl, hL, hown, hx, hb⟩ := hrel
        have zq := hb.size
        have zr : (w.heap.size + 1) ≤ wr.heap.size := by obtain ⟨_, _, h1, h2, _⟩ := own_at hown (by omega); omega
        have hll : L.length ≤ 100000000 := by rw [hL]; have := failTo_length HFR.out m; omega
        have HL := hid hL
        clear hL
        by_cases hlt : m < S.fs.length
        · obtain ⟨y, hy⟩ : ∃ y, S.fs[m]? = some y := ⟨_, List.getElem?_eq_getElem hlt⟩
          have hlt' : (m : Int) < (S.fs.length : Int) := by omega
          have hyr := HFR.out y (List.mem_of_getElem? hy)
          have HYR := hid hyr
          have liy := Lib.itoa_length_le y hyr.1 hyr.2
          obtain ⟨gf, rfl, _, hgf1, _⟩ := own_at HF.out (by omega)
          have d0 := ((own_below HF.out hb).cellAt m (by omega)).trans (ints_get hy)
          have HFS := hid (failTo_succ hy)
          clear hy hyr
          have b_50 := hb
          have s_50 := b_50.size
          have o_in := own_in hown
          have o_50 := hown
          clear hown
          have x_50 := hx
          clear hx
          have x_lt := x_50.lt
          have cell_x := x_50.cell
          have froz_x := x_50.frozen
          have lt_x := x_50.lt
          have q_50 := d0
          clear d0
          have lt_q : gf < wr.heap.size := by omega
          go_wp2_with fail
          refine calls_forget0 (W := wr) ?_ ?_
          (focus (exact belBy))
          intro X51 hX51
          have sX51 := hX51.size
          refine (sFormatIntW y _ HYR.out (HT.out.step (b_50.trans (hX51.mono (by omega))) HT.out)).mono ?_
          rintro e w51 ⟨rfl, hb51⟩
          have s51 := hb51.size
          have hT51 := hX51.trans (hb51.mono sX51)
          have b_51 := b_50.trans (hT51.mono (by omega))
          have o_51 := own_below o_50 hT51
          have x_51 := Blk.past hT51 x_50
          have q_51 := cell_kept q_50 hT51 (by dsimp only; omega)
          clear o_50 x_50 q_50 b_50 cell_x froz_x lt_x lt_q hX51 hT51 hb51
          have cell_x := x_51.cell
          have froz_x := x_51.frozen
          have lt_x := x_51.lt
          have lt_q : gf < w51.heap.size := (by omega)
          have HO51 := hid o_51
          have HX51 := hid x_51
          have HB51 := hid b_51
          clear o_51 x_51 b_51 q_51
          go_wp2
          go_roundw
          case rel => exact ⟨m + 1, L ++ [32] ++ Lib.itoa y, by omega, by go_num, congrArg Value.string (by simp only [← str_add]), by rw [HL.out, ← HFS.out], HO51.out, HX51.out, HB51.out⟩
          case measure => simp [intOf]; omega
        · obtain rfl : m = S.fs.length := by omega
          have HO71 := hid hown
          have HX71 := hid hx
          have HB71 := hid hb
          have cell_x := hx.cell
          have froz_x := hx.frozen
          have lt_x7 := hx.lt
          clear hown hx hb
          go_wp2_with (at_builtin; go_loud (refine wpList_appi rfl _ _ 31 rfl (w.heap.size + 1) 9 (.string ⟨#[]⟩) 1 16 Tryz.underlying31 infoStr rfl (by decide) _ (1 + S.js.length + 1) _ rfl (HO71.out.alloc _) ⟨wr.heap.size, 0, none⟩ 1 1 _ rfl rfl (one_new _ _ _) (str_one _) (by omega) (by decide) (by simp; omega) ?_))
          intro A73 c73 w73 ho73 hg73 li73
          have hg := grown_alloc hg73
          have hlo : ∀ q, (Value.slice A43 (1 + S.js.length + 1) c43).ownBlock = some q → w.heap.size + 1 ≤ q := fun q hq => (own_in HO71.out q hq).1
          have HB73 := hid (gr_below hg HB71.out (by omega) (fun q hq => by have h1 := hlo q hq; omega))
          have HO73 := hid ho73
          clear hg hg73 li73 ho73 hlo
          go_wp2
          go_ret
          refine ⟨A73, c73, ?_, ?_, HB73.out⟩
          · exact congrArg (fun n => Ending.returned (.slice A73 n c73)) (by omega)
          · rw [HTX.out, show S.js.length + 3 = 1 + S.js.length + 1 + 1 by omega]
            refine own_weak (base := w.heap.size + 1) ?_ (by omega)
            have h := HO73.out
            rw [strs_snoc]
            rw [HL.out] at h
            exact h
end Go.Proofs.YtjknadnknainbaaGreatDoor
/- FormatSched, in the program and in the reference: for all schedules. -/
namespace Go.Proofs.YtjknadnknainbaaGreatDoor
open Go.RowKit

theorem schedTxt_length {S : SV} (h : schedOkB S = true) : (schedTxt S).length = S.js.length + 3 := by
  rw [schedTxt_yes h, List.length_append, List.length_append, linesTo_length (Nat.le_refl _)]
  simp
  omega
set_option linter.unusedVariables false in
set_option maxHeartbeats 1600000 in
theorem iFmtNoS (S : SV) (hs : schedOkB S = false) (J T F : Option Addr) (cj ct cf : Nat) (w : World) (h : w.ownsRow 0 64 4 (.slice J S.js.length cj) S.js.length (ints (flatJ S.js)) ∧ w.ownsRow 0 88 2 (.slice T S.ts.length ct) S.ts.length (ints (flatT S.ts)) ∧ w.ownsRow 0 3 1 (.slice F S.fs.length cf) S.fs.length (ints S.fs)) (b1 : S.js.length ≤ 2000000) (b2 : S.ts.length ≤ 2000000) :
    Calls Tryz.prog 27 #[.agg #[.int .i64 S.z, .int .i64 S.n, .int .i64 S.b, .slice J S.js.length cj, .slice T S.ts.length ct, .slice F S.fs.length cf]] w fun e w' => ∃ A c, e = .returned (.slice A 0 c) ∧ w'.ownsRow w.heap.size 9 1 (.slice A 0 c) 0 (strs []) ∧ Below w.heap.size w w' := by
  have HOK := hid (fun J T F cj ct cf w h => iSchedOkF S J T F cj ct cf w h (by omega) (by omega))
  rw [hs] at HOK
  clear hs
  obtain ⟨h1, h2, h3⟩ := h
  go_enter Tryz.func27, Tryz.ntmps27
  go_upto_region 1 with fail
  obtain ⟨W1, hW1⟩ : ∃ W1, W1 = w.alloc (.cells #[.int .i64 S.z, .int .i64 S.n, .int .i64 S.b, .slice J S.js.length cj, .slice T S.ts.length ct, .slice F S.fs.length cf] 40) := ⟨_, rfl⟩
  have hx : Blk W1 w.heap.size 40 #[.int .i64 S.z, .int .i64 S.n, .int .i64 S.b, .slice J S.js.length cj, .slice T S.ts.length ct, .slice F S.fs.length cf] := by rw [hW1]; exact blkcBy
  have hb1 : Below w.heap.size w W1 := by rw [hW1]; exact belBy
  rw [← hW1]
  clear hW1
  have h1' := own_below h1 hb1
  have h2' := own_below h2 hb1
  have h3' := own_below h3 hb1
  have b_0 := hb1
  have s_0 := b_0.size
  have oj_in := own_in h1'
  have oj_0 := h1'
  clear h1'
  have ot_in := own_in h2'
  have ot_0 := h2'
  clear h2'
  have of__in := own_in h3'
  have of__0 := h3'
  clear h3'
  have x_0 := hx
  clear hx
  have x_lt := x_0.lt
  have cell_x := x_0.cell
  have froz_x := x_0.frozen
  have lt_x := x_0.lt
  go_wp2_with fail
  refine calls_forget0 (W := W1) ?_ ?_
  (focus (exact belBy))
  intro X1 hX1
  have sX1 := hX1.size
  refine (HOK.out _ _ _ _ _ _ _ ⟨own_weak (own_below oj_0 hX1) (Nat.zero_le _), own_weak (own_below ot_0 hX1) (Nat.zero_le _), own_weak (own_below of__0 hX1) (Nat.zero_le _)⟩).mono ?_
  rintro e w1 ⟨rfl, hb1⟩
  have s1 := hb1.size
  have hT1 := hX1.trans (hb1.mono sX1)
  have b_1 := b_0.trans (hT1.mono (by omega))
  have oj_1 := own_below oj_0 hT1
  have ot_1 := own_below ot_0 hT1
  have of__1 := own_below of__0 hT1
  have x_1 := Blk.past hT1 x_0
  clear oj_0 ot_0 of__0 x_0 b_0 cell_x froz_x lt_x hX1 hT1 hb1
  have cell_x := x_1.cell
  have froz_x := x_1.frozen
  have lt_x := x_1.lt
  have HB := hid b_1
  clear b_1
  go_wp2
  go_ret
  exact ⟨none, 0, rfl, World.ownsRow_nil _ _ _ _, HB.out⟩
theorem iFormatSched (S : SV) (J T F : Option Addr) (cj ct cf : Nat) (w : World) (h : w.ownsRow 0 64 4 (.slice J S.js.length cj) S.js.length (ints (flatJ S.js)) ∧ w.ownsRow 0 88 2 (.slice T S.ts.length ct) S.ts.length (ints (flatT S.ts)) ∧ w.ownsRow 0 3 1 (.slice F S.fs.length cf) S.fs.length (ints S.fs)) (b1 : S.js.length ≤ 2000000) (b2 : S.ts.length ≤ 2000000) (b3 : S.fs.length ≤ 2000000) (hfr : ∀ x ∈ S.fs, in64 x) (ht : Tab w) :
    Calls Tryz.prog 27 #[.agg #[.int .i64 S.z, .int .i64 S.n, .int .i64 S.b, .slice J S.js.length cj, .slice T S.ts.length ct, .slice F S.fs.length cf]] w fun e w' => ∃ A c, e = .returned (.slice A (schedTxt S).length c) ∧ w'.ownsRow w.heap.size 9 1 (.slice A (schedTxt S).length c) (schedTxt S).length (strs (schedTxt S)) ∧ Below w.heap.size w w' := by
  cases hs : schedOkB S
  · rw [schedTxt_no hs]
    exact iFmtNoS S hs J T F cj ct cf w h b1 b2
  · rw [schedTxt_length hs]
    exact iFmtYes S hs J T F cj ct cf w h b3 hfr ht
set_option linter.unusedVariables false in
set_option maxHeartbeats 1600000 in
theorem sFmtNoS (S : SV) (hs : schedOkB S = false) (J T F : Option Addr) (cj ct cf : Nat) (w : World) (h : w.ownsRow 0 64 4 (.slice J S.js.length cj) S.js.length (ints (flatJ S.js)) ∧ w.ownsRow 0 88 2 (.slice T S.ts.length ct) S.ts.length (ints (flatT S.ts)) ∧ w.ownsRow 0 3 1 (.slice F S.fs.length cf) S.fs.length (ints S.fs)) (b1 : S.js.length ≤ 2000000) (b2 : S.ts.length ≤ 2000000) :
    Calls Tryz.prog 12 #[.agg #[.int .i64 S.z, .int .i64 S.n, .int .i64 S.b, .slice J S.js.length cj, .slice T S.ts.length ct, .slice F S.fs.length cf]] w fun e w' => ∃ A c, e = .returned (.slice A 0 c) ∧ w'.ownsRow w.heap.size 9 1 (.slice A 0 c) 0 (strs []) ∧ Below w.heap.size w w' := by
  have HOK := hid (fun J T F cj ct cf w h => sSchedOkF S J T F cj ct cf w h (by omega) (by omega))
  rw [hs] at HOK
  clear hs
  obtain ⟨h1, h2, h3⟩ := h
  go_enter Tryz.func12, Tryz.ntmps12
  go_upto_region 2 with fail
  obtain ⟨W1, hW1⟩ : ∃ W1, W1 = (w.alloc (.cells #[.int .i64 S.z, .int .i64 S.n, .int .i64 S.b, .slice J S.js.length cj, .slice T S.ts.length ct, .slice F S.fs.length cf] 40)).alloc (.cells #[] 9) := ⟨_, rfl⟩
  have hx : Blk W1 w.heap.size 40 #[.int .i64 S.z, .int .i64 S.n, .int .i64 S.b, .slice J S.js.length cj, .slice T S.ts.length ct, .slice F S.fs.length cf] := by rw [hW1]; exact blkcBy
  have hb1 : Below w.heap.size w W1 := by rw [hW1]; exact belBy
  have ho : W1.ownsRow (w.heap.size + 1) 9 1 (.slice (some ⟨w.heap.size + 1, 0, none⟩) 0 0) 0 (strs []) := by rw [hW1]; exact own_lit (size := 1) #[] 0 (by simp) (by simp) (Nat.zero_le _) rfl
  rw [← hW1]
  clear hW1
  have h1' := own_below h1 hb1
  have h2' := own_below h2 hb1
  have h3' := own_below h3 hb1
  have b_0 := hb1
  have s_0 := b_0.size
  have oj_in := own_in h1'
  have oj_0 := h1'
  clear h1'
  have ot_in := own_in h2'
  have ot_0 := h2'
  clear h2'
  have of__in := own_in h3'
  have of__0 := h3'
  clear h3'
  have o_in := own_in ho
  have o_0 := ho
  clear ho
  have x_0 := hx
  clear hx
  have x_lt := x_0.lt
  have cell_x := x_0.cell
  have froz_x := x_0.frozen
  have lt_x := x_0.lt
  go_wp2_with fail
  refine calls_forget0 (W := W1) ?_ ?_
  (focus (exact belBy))
  intro X1 hX1
  have sX1 := hX1.size
  refine (HOK.out _ _ _ _ _ _ _ ⟨own_weak (own_below oj_0 hX1) (Nat.zero_le _), own_weak (own_below ot_0 hX1) (Nat.zero_le _), own_weak (own_below of__0 hX1) (Nat.zero_le _)⟩).mono ?_
  rintro e w1 ⟨rfl, hb1⟩
  have s1 := hb1.size
  have hT1 := hX1.trans (hb1.mono sX1)
  have b_1 := b_0.trans (hT1.mono (by omega))
  have oj_1 := own_below oj_0 hT1
  have ot_1 := own_below ot_0 hT1
  have of__1 := own_below of__0 hT1
  have o_1 := own_below o_0 hT1
  have x_1 := Blk.past hT1 x_0
  clear oj_0 ot_0 of__0 o_0 x_0 b_0 cell_x froz_x lt_x hX1 hT1 hb1
  have cell_x := x_1.cell
  have froz_x := x_1.frozen
  have lt_x := x_1.lt
  have HB := hid b_1
  have HO := hid o_1
  clear b_1 o_1
  go_wp2
  go_ret
  exact ⟨_, _, rfl, own_weak HO.out (by omega), HB.out⟩
theorem sFormatSched (S : SV) (J T F : Option Addr) (cj ct cf : Nat) (w : World) (h : w.ownsRow 0 64 4 (.slice J S.js.length cj) S.js.length (ints (flatJ S.js)) ∧ w.ownsRow 0 88 2 (.slice T S.ts.length ct) S.ts.length (ints (flatT S.ts)) ∧ w.ownsRow 0 3 1 (.slice F S.fs.length cf) S.fs.length (ints S.fs)) (b1 : S.js.length ≤ 2000000) (b2 : S.ts.length ≤ 2000000) (b3 : S.fs.length ≤ 2000000) (hfr : ∀ x ∈ S.fs, in64 x) (ht : Tab w) :
    Calls Tryz.prog 12 #[.agg #[.int .i64 S.z, .int .i64 S.n, .int .i64 S.b, .slice J S.js.length cj, .slice T S.ts.length ct, .slice F S.fs.length cf]] w fun e w' => ∃ A c, e = .returned (.slice A (schedTxt S).length c) ∧ w'.ownsRow w.heap.size 9 1 (.slice A (schedTxt S).length c) (schedTxt S).length (strs (schedTxt S)) ∧ Below w.heap.size w w' := by
  cases hs : schedOkB S
  · rw [schedTxt_no hs]
    exact sFmtNoS S hs J T F cj ct cf w h b1 b2
  · rw [schedTxt_length hs]
    exact sFmtYes S hs J T F cj ct cf w h b3 hfr ht
end Go.Proofs.YtjknadnknainbaaGreatDoor
