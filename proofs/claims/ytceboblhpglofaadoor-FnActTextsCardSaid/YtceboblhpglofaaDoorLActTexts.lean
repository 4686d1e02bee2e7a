/- The law that acts can be parsed from their text (FnActTexts): the tied card. No conditions. -/
import Derived.Test.YtceboblhpglofaaDoorPAct
import Derived.Test.YtceboblhpglofaaDoorDrawActs
import Derived.Test.YtceboblhpglofaaDoorEnvOf
set_option linter.unusedVariables false
namespace Go.Proofs.YtceboblhpglofaaDoor
open Go.RowKit Go.ChangeShapes Go.WideShapes Go.ChangeAt

namespace actTexts
theorem getD_of {xs : List Int} {k : Nat} {x : Int} (h : xs[k]? = some x) : xs.getD k 0 = x := by
  rw [List.getD_eq_getElem?_getD, h]
  rfl
theorem big_no (A : Option Addr) (n c : Nat) (w : World) (hn : n ≤ 9223372036854775807) (h : (n : Int) ≤ 1048576) : Calls Tryd.prog 5 #[.slice A n c] w fun e w' => e = .returned (.bool false) ∧ w = w' := by
  refine (big_any A n c w hn).mono fun e w' ⟨he, hw⟩ => ⟨?_, hw⟩
  rw [he, decide_eq_false (by omega)]
set_option maxRecDepth 100000 in
set_option maxHeartbeats 3200000 in
theorem walk (A : Option Addr) (c : Nat) (bs : List Int) (w : World) (hb : Bytes w w.heap.size A bs) (henv : Env w) :
    Calls Tryd.prog 3 #[.slice A bs.length c] w fun e w' => e = .returned (.bool true) ∧ Below w.heap.size w w' := by
  have hl := hb.len
  have HB := hid hb
  have HT := hid henv
  clear hb henv
  by_cases h1 : (1048576 : Int) < (bs.length : Int)
  · go_enter Tryd.func3, Tryd.ntmps3
    go_wp2_with (go_at_call 5; refine (big_any _ _ _ _ hl).mono ?_; rintro e w' ⟨rfl, rfl⟩)
    go_ret
    exact ⟨rfl, Below.refl _ _⟩
  have H1 := hid (show (bs.length : Int) ≤ 1048576 by omega)
  clear h1
  go_enter Tryd.func3, Tryd.ntmps3
  go_wp2_with fail
  refine (big_no _ _ _ _ hl H1.out).mono ?_
  rintro e w' ⟨rfl, rfl⟩
  go_wp2_with fail
  refine (drawActs_any _ _ _ _ HB.out).mono ?_
  rintro e w1 ⟨z, n, xs, Aa, ca, ⟨hz, hn, hxl, hok⟩, rfl, hro, hb1⟩
  have s1 := hb1.size
  have hcap := own_cap' hro
  have HRO := hid hro
  have HB1 := hid hb1
  have HOKA := hid hok
  clear hro hb1 hok
  go_wp2_with fail
  go_loopw [5, 6, 7, 8, 9] (fun i _ _ _ _ wx => ∃ j : Nat, j ≤ n ∧ i = .int .i64 j ∧ wx.ownsRow w.heap.size 30 4 (.slice Aa n ca) n (ints xs) ∧ Below w.heap.size w wx) (fun i _ _ _ _ _ => n - (intOf i).toNat)
  case atStart => exact ⟨0, Nat.zero_le _, rfl, HRO.out, HB1.out⟩
  case round =>
    obtain ⟨j, hj, rfl, hda, hb⟩ := hrel
    have zr := hb.size
    by_cases hlt : j < n
    · obtain ⟨x0, f0⟩ : ∃ x, xs[j * 4]? = some x := ⟨_, List.getElem?_eq_getElem (by omega)⟩
      obtain ⟨x1, f1⟩ : ∃ x, xs[j * 4 + 1]? = some x := ⟨_, List.getElem?_eq_getElem (by omega)⟩
      obtain ⟨x2, f2⟩ : ∃ x, xs[j * 4 + 2]? = some x := ⟨_, List.getElem?_eq_getElem (by omega)⟩
      obtain ⟨x3, f3⟩ : ∃ x, xs[j * 4 + 3]? = some x := ⟨_, List.getElem?_eq_getElem (by omega)⟩
      obtain ⟨ga, rfl, hga0, hga, _⟩ := own_at hda (by omega)
      have hoi : ∀ q, (Value.slice (some ⟨ga, 0, none⟩) n ca).ownBlock = some q → w.heap.size ≤ q ∧ q < wr.heap.size := fun q hq => by
        have h := own_here q hq
        omega
      have hd0 := (hda.cellAt (j * 4) (by omega)).trans (ints_get f0)
      have hd1 := (hda.cellAt (j * 4 + 1) (by omega)).trans (ints_get f1)
      have hd2 := (hda.cellAt (j * 4 + 2) (by omega)).trans (ints_get f2)
      have hd3 := (hda.cellAt (j * 4 + 3) (by omega)).trans (ints_get f3)
      have lga : ga < wr.heap.size := by omega
      have hlt' : (j : Int) < (n : Int) := by omega
      have hdr := (HOKA.out j hlt).1
      rw [getD_of f0, getD_of f1, getD_of f2, getD_of f3] at hdr
      have HFA := hid (fun w ht => iFormatAct x0 x1 x2 x3 w ht)
      rw [hdr] at HFA
      have HPA := hid (fun w he => iParseBack x0 x1 x2 x3 w he hdr)
      have HOK := hid (fun w => iActOk x0 x1 x2 x3 w)
      rw [hdr] at HOK
      obtain ⟨T, hT⟩ : ∃ T, actTxt x0 x1 x2 x3 = T := ⟨_, rfl⟩
      rw [hT] at HFA HPA
      have HE := HT
      have HT := hid HE.out.tab
      clear f0 f1 f2 f3 hdr hT
      have b_30 := hb
      have s_30 := b_30.size
      have ra_in := hoi
      have ra_30 := hda
      clear hda
      have a0_30 := hd0
      clear hd0
      have lt_a0 : ga < wr.heap.size := by omega
      have a1_30 := hd1
      clear hd1
      have lt_a1 : ga < wr.heap.size := by omega
      have a2_30 := hd2
      clear hd2
      have lt_a2 : ga < wr.heap.size := by omega
      have a3_30 := hd3
      clear hd3
      have lt_a3 : ga < wr.heap.size := by omega
      go_wp2_with fail
      refine calls_forget0 (W := wr) ?_ ?_
      (focus (repeat (first | (with_reducible exact Below.refl _ _) | (with_reducible refine Below.trans ?_ (Below.mono (by assumption) (by first | omega | (simp; done) | (simp; omega) | (simp [*]; done)))) | (with_reducible refine Below.alloc ?_ (by first | omega | (simp; done) | (simp; omega) | (simp [*]; done)) _) | (with_reducible refine Below.setCell ?_ (by first | omega | (simp; done) | (simp; omega) | (simp [*]; done)) _) | (with_reducible refine Below.drew ?_) | (with_reducible refine below_drewN ?_))))
      intro X31 hX31
      have sX31 := hX31.size
      refine (HFA.out _ (HT.out.step (b_30.trans (hX31.mono (by omega))) HT.out)).mono ?_
      rintro e w31 ⟨rfl, hb31⟩
      have s31 := hb31.size
      have hT31 := hX31.trans (hb31.mono sX31)
      have b_31 := b_30.trans (hT31.mono (by omega))
      have ra_31 := own_below ra_30 hT31
      have a0_31 := cell_kept a0_30 hT31 (by dsimp only; omega)
      have a1_31 := cell_kept a1_30 hT31 (by dsimp only; omega)
      have a2_31 := cell_kept a2_30 hT31 (by dsimp only; omega)
      have a3_31 := cell_kept a3_30 hT31 (by dsimp only; omega)
      clear ra_30 a0_30 a1_30 a2_30 a3_30 b_30 lt_a0 lt_a1 lt_a2 lt_a3 hX31 hT31 hb31
      have lt_a0 : ga < w31.heap.size := (by omega)
      have lt_a1 : ga < w31.heap.size := (by omega)
      have lt_a2 : ga < w31.heap.size := (by omega)
      have lt_a3 : ga < w31.heap.size := (by omega)
      have HT := HE
      go_wp2_with fail
      refine calls_forget0 (W := w31) ?_ ?_
      (focus (repeat (first | (with_reducible exact Below.refl _ _) | (with_reducible refine Below.trans ?_ (Below.mono (by assumption) (by first | omega | (simp; done) | (simp; omega) | (simp [*]; done)))) | (with_reducible refine Below.alloc ?_ (by first | omega | (simp; done) | (simp; omega) | (simp [*]; done)) _) | (with_reducible refine Below.setCell ?_ (by first | omega | (simp; done) | (simp; omega) | (simp [*]; done)) _) | (with_reducible refine Below.drew ?_) | (with_reducible refine below_drewN ?_))))
      intro X32 hX32
      have sX32 := hX32.size
      refine (HPA.out _ (HT.out.step (b_31.trans (hX32.mono (by omega))) HT.out)).mono ?_
      rintro e w32 ⟨rfl, hb32⟩
      have s32 := hb32.size
      have hT32 := hX32.trans (hb32.mono sX32)
      have b_32 := b_31.trans (hT32.mono (by omega))
      have ra_32 := own_below ra_31 hT32
      have a0_32 := cell_kept a0_31 hT32 (by dsimp only; omega)
      have a1_32 := cell_kept a1_31 hT32 (by dsimp only; omega)
      have a2_32 := cell_kept a2_31 hT32 (by dsimp only; omega)
      have a3_32 := cell_kept a3_31 hT32 (by dsimp only; omega)
      clear ra_31 a0_31 a1_31 a2_31 a3_31 b_31 lt_a0 lt_a1 lt_a2 lt_a3 hX32 hT32 hb32
      have lt_a0 : ga < w32.heap.size := (by omega)
      have lt_a1 : ga < w32.heap.size := (by omega)
      have lt_a2 : ga < w32.heap.size := (by omega)
      have lt_a3 : ga < w32.heap.size := (by omega)
      go_upto_region 9 with fail
      refine wp_forget1 (w0 := w32) (B := w32.heap.size) (b0 := w32.heap.size) (t0 := 30) (c0 := #[.int .i64 x0, .int .i64 x1, .int .i64 x2, .int .i64 x3]) ?_ ?_ ?_
      (focus (first | ((repeat (first | (with_reducible assumption) | (with_reducible apply Blk.drew) | (with_reducible apply Blk.drewN) | (with_reducible apply Blk.new; first | rfl | (simp; done)) | (with_reducible apply Blk.alloc) | (with_reducible apply Blk.set_) | (with_reducible apply Blk.past; focus assumption) | (with_reducible apply Blk.far; focus (first | (simp; done) | (simp; omega) | (dsimp only; omega))))); done) | (apply Blk.cast; (case h => (repeat (first | (with_reducible assumption) | (with_reducible apply Blk.drew) | (with_reducible apply Blk.drewN) | (with_reducible apply Blk.new; first | rfl | (simp; done)) | (with_reducible apply Blk.alloc) | (with_reducible apply Blk.set_) | (with_reducible apply Blk.past; focus assumption) | (with_reducible apply Blk.far; focus (first | (simp; done) | (simp; omega) | (dsimp only; omega)))))); (case e => rfl))))
      (focus (repeat (first | (with_reducible exact Below.refl _ _) | (with_reducible refine Below.trans ?_ (Below.mono (by assumption) (by first | omega | (simp; done) | (simp; omega) | (simp [*]; done)))) | (with_reducible refine Below.alloc ?_ (by first | omega | (simp; done) | (simp; omega) | (simp [*]; done)) _) | (with_reducible refine Below.setCell ?_ (by first | omega | (simp; done) | (simp; omega) | (simp [*]; done)) _) | (with_reducible refine Below.drew ?_) | (with_reducible refine below_drewN ?_))))
      intro w33 t_33 hX33
      have sX33 := hX33.size
      have t_lt := t_33.lt
      have b_33 := b_32.trans (hX33.mono (by omega))
      have ra_33 := own_below ra_32 hX33
      have a0_33 := cell_kept a0_32 hX33 (by dsimp only; omega)
      have a1_33 := cell_kept a1_32 hX33 (by dsimp only; omega)
      have a2_33 := cell_kept a2_32 hX33 (by dsimp only; omega)
      have a3_33 := cell_kept a3_32 hX33 (by dsimp only; omega)
      clear ra_32 a0_32 a1_32 a2_32 a3_32 b_32 lt_a0 lt_a1 lt_a2 lt_a3 hX33
      have cell_t := t_33.cell
      have froz_t := t_33.frozen
      have lt_t := t_33.lt
      have lt_a0 : ga < w33.heap.size := (by omega)
      have lt_a1 : ga < w33.heap.size := (by omega)
      have lt_a2 : ga < w33.heap.size := (by omega)
      have lt_a3 : ga < w33.heap.size := (by omega)
      obtain ⟨W1, hW1⟩ : ∃ z, z = w33 := ⟨_, rfl⟩
      rw [← hW1] at t_33 b_33 ra_33 a0_33 a1_33 a2_33 a3_33
      rw [← hW1]
      clear hW1 cell_t froz_t lt_t
      have k0 := t_33
      have lgW : ga < W1.heap.size := by
        have := b_33.size
        have := t_33.lt
        omega
      have qa := fun (x : Later W1) => (x.below.cell (p := ⟨ga, j * 4, none⟩) lgW).trans a0_33
      have qb := fun (x : Later W1) => (x.below.cell (p := ⟨ga, j * 4 + 1, none⟩) lgW).trans a1_33
      have qc := fun (x : Later W1) => (x.below.cell (p := ⟨ga, j * 4 + 2, none⟩) lgW).trans a2_33
      have qd := fun (x : Later W1) => (x.below.cell (p := ⟨ga, j * 4 + 3, none⟩) lgW).trans a3_33
      have KB := hid b_33
      have KR := hid ra_33
      clear b_33 ra_33 a0_33 a1_33 a2_33 a3_33 t_33
      have q0 := fun (x : Later W1) (o : Nat) => (k0.below x.below k0.lt).cell o
      refine wp_region_later (by kernel_rfl) (by kernel_rfl) ?_
      repeat (go_big_quiet_step ((go_at_call 9; exact Calls.later (HOK.out _))))
      refine wpQuiet_nil ?_
      rintro _ ⟨⟨w1, hb1⟩, rfl⟩
      try dsimp only
      obtain ⟨z1a, c1a, f1a, k1a⟩ := bfact hb1 k0
      clear q0
      go_wp2
      go_roundw
      case rel => exact ⟨j + 1, by omega, by go_num, own_below KR.out hb1, KB.out.trans (hb1.mono KB.out.size)⟩
      case measure => simp [intOf]; omega
    · have hcr := (iFormatAct 4 0 0 0)
      have HFA := hid (fun w ht => hcr w ht)
      rw [show actOkB 4 0 0 0 = true by rw [actOkB_4]; rfl, actTxt_crash (by rw [actOkB_4]; rfl)] at HFA
      have HT := hid HT.out.tab
      clear hcr
      have b_50 := hb
      have s_50 := b_50.size
      go_wp2_with fail
      refine calls_forget0 (W := wr) ?_ ?_
      (focus (repeat (first | (with_reducible exact Below.refl _ _) | (with_reducible refine Below.trans ?_ (Below.mono (by assumption) (by first | omega | (simp; done) | (simp; omega) | (simp [*]; done)))) | (with_reducible refine Below.alloc ?_ (by first | omega | (simp; done) | (simp; omega) | (simp [*]; done)) _) | (with_reducible refine Below.setCell ?_ (by first | omega | (simp; done) | (simp; omega) | (simp [*]; done)) _) | (with_reducible refine Below.drew ?_) | (with_reducible refine below_drewN ?_))))
      intro X51 hX51
      have sX51 := hX51.size
      refine (HFA.out _ (HT.out.step (b_50.trans (hX51.mono (by omega))) HT.out)).mono ?_
      rintro e w51 ⟨rfl, hb51⟩
      have s51 := hb51.size
      have hT51 := hX51.trans (hb51.mono sX51)
      have b_51 := b_50.trans (hT51.mono (by omega))
      clear b_50 hX51 hT51 hb51
      go_wp2
      go_ret
      exact ⟨rfl, by repeat (first | (with_reducible exact Below.refl _ _) | (with_reducible refine Below.trans ?_ (Below.mono (by assumption) (by first | omega | (simp; done) | (simp; omega) | (simp [*]; done)))) | (with_reducible refine Below.alloc ?_ (by first | omega | (simp; done) | (simp; omega) | (simp [*]; done)) _) | (with_reducible refine Below.setCell ?_ (by first | omega | (simp; done) | (simp; omega) | (simp [*]; done)) _) | (with_reducible refine Below.drew ?_) | (with_reducible refine below_drewN ?_))⟩
set_option maxRecDepth 100000 in
theorem lifted (os : Os) (started : os.Started) (H : Type) (enc : TypeId × Value → H) :
    ReturnsInHanded {} Tryd.checked os 3 .any (fun w args => (Rows.fnActTextsSpec.pre enc Tryd.prog Tryd.f3 [] false w args ∧ laidMetH Tryd.prog Rows.fnActTextsRow.laid w) ∧ sizedMet enc Tryd.prog Tryd.f3 (OpenSpec.ofChange Rows.fnActTextsSpec) false w args)
      (Rows.fnActTextsSpec.post enc Tryd.prog Tryd.f3 false true false false) := by
  refine returns_laid_shaped (C := Tryd.checked) (X := fun w _ => laidMetH Tryd.prog Rows.fnActTextsRow.laid w) (fun _ _ _ hh h => h.of_heap hh) own started (by kernel_rfl) Tryd.func3
    (ChangeSpec.witness_shaped (enc := enc) (C := Tryd.checked) (os := os) (X := fun w _ => laidMetH Tryd.prog Rows.fnActTextsRow.laid w) false (World.laidAll Tryd.prog os Rows.fnActTextsRow.laid) #[.slice none 0 0] 8 (World.laidAll_os _ _ _) (World.shaped_of_ZipB (by kernel_rfl) (by kernel_rfl)) (by kernel_rfl) (by kernel_rfl) (by kernel_rfl)
      (by rw [MakeChecks.laidMetH_plain _ _ _ (by kernel_rfl)]; exact laidMet_laidAll _ (by kernel_rfl) (by kernel_rfl))) ?_
  intro W base args ds gs before hval0 hW hLaid hShaped
  have hval : ∀ (j : Nat) t v, Tryd.f3.params[j]? = some t → args[j]? = some v → Value.okWide Tryd.prog W .any base t v := hval0
  have hW' := hW
  obtain ⟨p, q, hA0, hV, rfl, _, _⟩ := hW
  have hA : DataW.TrodAll enc Tryd.prog W 0 (fun _ => true) true Tryd.f3.params.toList args.toList ds p := hA0
  rw [Tryd.params3] at hA hval
  obtain ⟨v0, vs0, d0, ds0, p0, q0, hargs, rfl, rfl, h0, r0⟩ := trodAll_cons hA
  obtain ⟨rfl, rfl, rfl⟩ := trodAll_nil r0
  obtain rfl : args = #[v0] := by cases args; simp_all
  obtain ⟨rfl, rfl⟩ := trodVars_none hV
  obtain ⟨A0, c0, xs0, rfl, hb0⟩ := view_bytes Tryd.underlying22 Tryd.underlying5 (by kernel_rfl) (hval 0 22 v0 rfl rfl) h0 (fun x hx => hW'.lt x (by simp [hx]))
  refine (walk A0 c0 xs0 W hb0 (env_of hLaid hShaped)).mono fun e W' ⟨he, hb⟩ => ?_
  subst he
  exact ⟨_, rfl, law_post rfl (by kernel_rfl) (by kernel_rfl) rfl Tryd.underlying4 hW' rfl rfl rfl hb⟩
theorem closed : joinedFacts Tryd.prog 3 Tryd.f3 Rows.fnActTextsSpec Rows.fnActTextsRow = true := by
  unfold joinedFacts
  rw [makeIs, mayIs, finalsIs]
  kernel_rfl
theorem over : Rows.fnActTextsRow.holds Tryd.pinned (OpenSpec.ofChange Rows.fnActTextsSpec) :=
  OpenClaim.holds_of_wide 3 Tryd.f3 rfl rfl rfl rfl rfl rfl rfl ⟨rfl, rfl, rfl, rfl, rfl⟩ rfl rfl rfl rfl rfl (by kernel_rfl) Tryd.func3 closed
    (of_decide_eq_true (by kernel_rfl)) (by unfold Func.isWrapper; first | (rw [if_pos (by decide +kernel)]; kernel_rfl) | (rw [if_neg (by decide +kernel)]; exact ⟨rfl, rfl⟩))
    (fun os started H enc _ => lifted os started H enc)
theorem proved : Rows.FnActTextsCardSaid :=
  Claim7.holds_tied_plain_at .later [] [.data, .data, .data, .data, .sentinel, .sentinel, .pinned] true Rows.fnActTextsCard.stood.harness true
    over (fun _ h => by cases h) (by kernel_rfl) (fun _ h => by cases h) fnActTexts_row_tie rfl ⟨rfl, rfl⟩ (by kernel_rfl) rfl
    (fun f fn hf hfn => by
      obtain rfl : f = 3 := Option.some.inj ((show Tryd.prog.funcNamed Rows.fnActTextsRow.func = some 3 by kernel_rfl).symm.trans hf) |>.symm
      obtain rfl : fn = Tryd.f3 := (Option.some.inj (Tryd.func3.symm.trans hfn)).symm
      exact ⟨by kernel_rfl, fun j t ht => by
        rw [Tryd.params3] at ht
        have hm := Array.mem_of_getElem? ht
        simp at hm
        rcases hm with rfl <;> exact (show Tryd.prog.wantsStandIn _ = false by kernel_rfl)⟩)
    (by kernel_rfl)
#print axioms proved

end actTexts
end Go.Proofs.YtceboblhpglofaaDoor
