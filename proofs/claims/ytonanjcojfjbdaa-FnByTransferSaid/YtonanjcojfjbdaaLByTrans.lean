/- The law that the labels that are obtained by transfer are those of the inputs (FnByTransfer). No conditions. -/
import Derived.Test.YtonanjcojfjbdaaDrawZ
import Derived.Test.YtonanjcojfjbdaaTrans4
import Derived.Test.YtonanjcojfjbdaaAct
import Derived.Test.YtonanjcojfjbdaaHead
set_option linter.unusedVariables false
namespace Go.Proofs.Ytonanjcojfjbdaa
open Go.RowKit Go.ChangeShapes Go.WideShapes Go.ChangeAt

theorem sameInts_same (A B : Option Addr) (c d : Nat) (xs : List Int) (w : World) (ha : Cells w w.heap.size A (ints xs)) (hc : Cells w w.heap.size B (ints xs)) (hn : xs.length ≤ 1000000000) :
    Calls Try.prog 16 #[.slice A xs.length c, .slice B xs.length d] w fun e w' => e = .returned (.bool true) ∧ Below w.heap.size w w' := by
  go_enter Try.func16, Try.ntmps16
  go_wp2
  go_loopw [5] (fun i wr => ∃ k : Nat, k ≤ xs.length ∧ i = .int .i64 k ∧ Below w.heap.size w wr) (fun i _ => xs.length - (intOf i).toNat)
  case atStart => exact ⟨0, Nat.zero_le _, rfl, Below.refl _ _⟩
  case round =>
    obtain ⟨k, hk, rfl, hb⟩ := hrel
    by_cases hlt : k < xs.length
    · obtain ⟨x, hx⟩ : ∃ x, xs[k]? = some x := ⟨_, List.getElem?_eq_getElem hlt⟩
      obtain ⟨b, off, rfl, hB, hcl⟩ := ha (by rw [ints_length]; omega)
      obtain ⟨b', off', rfl, hB', hcl'⟩ := hc (by rw [ints_length]; omega)
      have hcell : wr.cell? ⟨b, off + k, none⟩ = some (.int .i64 x) := (hb.cell (p := ⟨b, off + k, none⟩) hB).trans (hcl k _ (ints_get hx))
      have hcell' : wr.cell? ⟨b', off' + k, none⟩ = some (.int .i64 x) := (hb.cell (p := ⟨b', off' + k, none⟩) hB').trans (hcl' k _ (ints_get hx))
      have HB := hid hb
      have hlt' : (k : Int) < (xs.length : Int) := by omega
      clear hcl hcl' ha hc hb hx
      go_wp2
      go_quiet (fail)
      go_wp2
      go_roundw
      case rel => exact ⟨k + 1, by omega, by go_num, ⟨HB.out.os, HB.out.tape, HB.out.output, HB.out.size, HB.out.block⟩⟩
      case measure => simp [intOf]; omega
    · obtain rfl : k = xs.length := by omega
      go_wp2
      go_ret
      exact ⟨rfl, hb⟩
namespace byTransfer
theorem sLabs (s a : Int) (A : Option Addr) (c : Nat) (bs : List Int) (w : World) (h1 : tapeOkB s a = true) (h2 : a ≤ 900000) (hb : bitsB bs = true) (hl : bs.length = 80) (hc : Cells w w.heap.size A (ints bs)) :
    Calls Try.prog 17 #[.agg #[.int .i64 s, .int .i64 a], .slice A 80 c] w (GivesInts w (labsTo s a bs 80)) := by
  have h := sInputLabels s a A c bs w h1 h2 hb (by omega) hc
  rw [hl] at h
  exact h
theorem same80 (A B : Option Addr) (c d : Nat) (xs : List Int) (w : World) (hn : xs.length = 80) (ha : Cells w w.heap.size A (ints xs)) (hc : Cells w w.heap.size B (ints xs)) :
    Calls Try.prog 16 #[.slice A 80 c, .slice B 80 d] w fun e w' => e = .returned (.bool true) ∧ Below w.heap.size w w' := by
  have h := sameInts_same A B c d xs w ha hc (by omega)
  rw [hn] at h
  exact h
set_option maxRecDepth 100000 in
set_option maxHeartbeats 6400000 in
theorem walk (A : Option Addr) (c : Nat) (bs : List Int) (w : World) (hb : Bytes w w.heap.size A bs) :
    Calls Try.prog 4 #[.slice A bs.length c] w fun e w' => e = .returned (.bool true) ∧ Below w.heap.size w w' := by
  have hl := hb.len
  have HB := hid hb
  clear hb
  by_cases h1 : (1048576 : Int) < (bs.length : Int)
  · go_enter Try.func4, Try.ntmps4
    go_wp2_with (go_at_call 12; refine (big_any _ _ _ _ hl).mono ?_; rintro e w' ⟨rfl, rfl⟩)
    go_ret
    exact ⟨rfl, Below.refl _ _⟩
  go_enter Try.func4, Try.ntmps4
  go_wp2_with fail
  refine (big_any _ _ _ _ hl).mono ?_
  rintro e w' ⟨rfl, rfl⟩
  go_wp2_with fail
  refine (secure_any _ _ _ _ HB.out).mono ?_
  rintro e w1 ⟨v, ls, Ai, ci, s, a, s', a', q, ⟨hl5, ⟨ht, ha⟩, ⟨ht', ha'⟩, q0, q1⟩, rfl, hro, hio, hb1⟩
  have HIO := hid hio
  have HT := hid ht
  have HT' := hid ht'
  have z1 := hb1.size
  clear hio ht ht'
  have HPL := hid (fun w => iPartyBits q w)
  obtain ⟨P, hP⟩ : ∃ P, partyL q = P := ⟨_, rfl⟩
  have hpe : partyL q = partyTo q 16 := by unfold partyL; rw [inB_iff.2 ⟨q0, by omega⟩]; rfl
  have hPl : P.length = 16 := by rw [← hP, hpe, partyTo_length]
  have hP0 := hid (show P[0]? = some (16 * q) from by rw [← hP, hpe, partyTo_get q 0 16 (by omega)]; simp)
  rw [hP] at HPL
  unfold GivesInts at HPL
  rw [hPl] at HPL
  clear hP hpe hPl
  have b_10 := hb1
  have s_10 := b_10.size
  have ro_in := own_in hro
  have ro_10 := hro
  clear hro
  go_wp2_with fail
  refine calls_forget2 (W := w1) (b0 := w1.heap.size) (t0 := 27) (c0 := #[.int .i64 s, .int .i64 a]) (b1 := w1.heap.size + 1) (t1 := 27) (c1 := #[.int .i64 s', .int .i64 a']) ?_ ?_ ?_ ?_
  (focus (first | ((repeat (first | (with_reducible assumption) | (with_reducible apply Blk.drew) | (with_reducible apply Blk.drewN) | (with_reducible apply Blk.new; first | rfl | (simp; done)) | (with_reducible apply Blk.alloc) | (with_reducible apply Blk.set_) | (with_reducible apply Blk.past; focus assumption) | (with_reducible apply Blk.far; focus (first | (simp; done) | (simp; omega) | (dsimp only; omega))))); done) | (apply Blk.cast; (case h => (repeat (first | (with_reducible assumption) | (with_reducible apply Blk.drew) | (with_reducible apply Blk.drewN) | (with_reducible apply Blk.new; first | rfl | (simp; done)) | (with_reducible apply Blk.alloc) | (with_reducible apply Blk.set_) | (with_reducible apply Blk.past; focus assumption) | (with_reducible apply Blk.far; focus (first | (simp; done) | (simp; omega) | (dsimp only; omega)))))); (case e => rfl))))
  (focus (first | ((repeat (first | (with_reducible assumption) | (with_reducible apply Blk.drew) | (with_reducible apply Blk.drewN) | (with_reducible apply Blk.new; first | rfl | (simp; done)) | (with_reducible apply Blk.alloc) | (with_reducible apply Blk.set_) | (with_reducible apply Blk.past; focus assumption) | (with_reducible apply Blk.far; focus (first | (simp; done) | (simp; omega) | (dsimp only; omega))))); done) | (apply Blk.cast; (case h => (repeat (first | (with_reducible assumption) | (with_reducible apply Blk.drew) | (with_reducible apply Blk.drewN) | (with_reducible apply Blk.new; first | rfl | (simp; done)) | (with_reducible apply Blk.alloc) | (with_reducible apply Blk.set_) | (with_reducible apply Blk.past; focus assumption) | (with_reducible apply Blk.far; focus (first | (simp; done) | (simp; omega) | (dsimp only; omega)))))); (case e => rfl))))
  (focus (repeat (first | (with_reducible exact Below.refl _ _) | (with_reducible refine Below.trans ?_ (Below.mono (by assumption) (by first | omega | (simp; done) | (simp; omega) | (simp [*]; done)))) | (with_reducible refine Below.alloc ?_ (by first | omega | (simp; done) | (simp; omega) | (simp [*]; done)) _) | (with_reducible refine Below.setCell ?_ (by first | omega | (simp; done) | (simp; omega) | (simp [*]; done)) _) | (with_reducible refine Below.drew ?_) | (with_reducible refine below_drewN ?_))))
  intro X11 tT_n tD_n hX11
  have sX11 := hX11.size
  have tT_lt := tT_n.lt
  have tD_lt := tD_n.lt
  refine (sInputBits _ _ ls _ hl5 ((HIO.out.cells.below hX11 (Nat.le_refl _)).more (by omega)) (Cells.of_own (own_below ro_10 hX11))).mono ?_
  rintro e w11 ⟨xs, Ab, cb, hxs, rfl, ib_11, hb11⟩
  have s11 := hb11.size
  have hT11 := hX11.trans (hb11.mono sX11)
  have b_11 := b_10.trans (hT11.mono (by omega))
  have ro_11 := own_below ro_10 hT11
  have tT_11 := Blk.past hb11 tT_n
  have tD_11 := Blk.past hb11 tD_n
  have ib_in := own_in ib_11
  clear ro_10 b_10 tT_n tD_n hX11 hT11 hb11
  have cell_tT := tT_11.cell
  have froz_tT := tT_11.frozen
  have lt_tT := tT_11.lt
  have cell_tD := tD_11.cell
  have froz_tD := tD_11.frozen
  have lt_tD := tD_11.lt
  obtain ⟨hx1, hx2⟩ := hxs
  have HCI := hid (fun A c w hc => iTransYes s a s' a' A c xs q w hc hx1 hx2 (inB_iff.2 ⟨q0, by omega⟩) HT.out (by omega) HT'.out (by omega))
  have HCS := hid (fun A c w hc => sLabs s a A c xs w HT.out (by omega) hx2 hx1 hc)
  have hLl := labsTo_length s a xs 80
  obtain ⟨L, hL⟩ : ∃ L, labsTo s a xs 80 = L := ⟨_, rfl⟩
  rw [hL] at HCI HCS hLl
  unfold GivesPair at HCI
  unfold GivesInts at HCS
  rw [hLl] at HCI HCS
  clear hL hx2 HT HT' HIO
  have hw16 : IntKind.i64.wrap (16 * q) = 16 * q := IntWalk.i64_in _ (by omega)
  have HLL := hid hLl
  clear hLl hl5 hx1
  obtain ⟨w20, rfl⟩ : ∃ z, z = w11 := ⟨_, rfl⟩
  have b_20 := b_11
  have s_20 := b_20.size
  have ib_in := own_in ib_11
  have ib_20 := ib_11
  clear ib_11
  have tT_20 := tT_11
  clear tT_11
  have tT_lt := tT_20.lt
  have cell_tT := tT_20.cell
  have froz_tT := tT_20.frozen
  have lt_tT := tT_20.lt
  have tD_20 := tD_11
  clear tD_11
  have tD_lt := tD_20.lt
  have cell_tD := tD_20.cell
  have froz_tD := tD_20.frozen
  have lt_tD := tD_20.lt
  go_wp2_with fail
  refine calls_forget0 (W := w20) ?_ ?_
  (focus (repeat (first | (with_reducible exact Below.refl _ _) | (with_reducible refine Below.trans ?_ (Below.mono (by assumption) (by first | omega | (simp; done) | (simp; omega) | (simp [*]; done)))) | (with_reducible refine Below.alloc ?_ (by first | omega | (simp; done) | (simp; omega) | (simp [*]; done)) _) | (with_reducible refine Below.setCell ?_ (by first | omega | (simp; done) | (simp; omega) | (simp [*]; done)) _) | (with_reducible refine Below.drew ?_) | (with_reducible refine below_drewN ?_))))
  intro X21 hX21
  have sX21 := hX21.size
  refine (HCI.out _ _ _ (Cells.of_own (own_below ib_20 hX21))).mono ?_
  rintro e w21 ⟨Ax, cx, rfl, x_21, hb21⟩
  have s21 := hb21.size
  have hT21 := hX21.trans (hb21.mono sX21)
  have b_21 := b_20.trans (hT21.mono (by omega))
  have ib_21 := own_below ib_20 hT21
  have tT_21 := Blk.past hT21 tT_20
  have tD_21 := Blk.past hT21 tD_20
  have x_in := own_in x_21
  clear ib_20 tT_20 tD_20 b_20 cell_tT froz_tT lt_tT cell_tD froz_tD lt_tD hX21 hT21 hb21
  have cell_tT := tT_21.cell
  have froz_tT := tT_21.frozen
  have lt_tT := tT_21.lt
  have cell_tD := tD_21.cell
  have froz_tD := tD_21.frozen
  have lt_tD := tD_21.lt
  go_wp2_with fail
  refine calls_forget0 (W := w21) ?_ ?_
  (focus (repeat (first | (with_reducible exact Below.refl _ _) | (with_reducible refine Below.trans ?_ (Below.mono (by assumption) (by first | omega | (simp; done) | (simp; omega) | (simp [*]; done)))) | (with_reducible refine Below.alloc ?_ (by first | omega | (simp; done) | (simp; omega) | (simp [*]; done)) _) | (with_reducible refine Below.setCell ?_ (by first | omega | (simp; done) | (simp; omega) | (simp [*]; done)) _) | (with_reducible refine Below.drew ?_) | (with_reducible refine below_drewN ?_))))
  intro X22 hX22
  have sX22 := hX22.size
  refine (HPL.out _).mono ?_
  rintro e w22 ⟨Ao, co, rfl, ow_22, hb22⟩
  have s22 := hb22.size
  have hT22 := hX22.trans (hb22.mono sX22)
  have b_22 := b_21.trans (hT22.mono (by omega))
  have ib_22 := own_below ib_21 hT22
  have x_22 := own_below x_21 hT22
  have tT_22 := Blk.past hT22 tT_21
  have tD_22 := Blk.past hT22 tD_21
  have ow_in := own_in ow_22
  clear ib_21 x_21 tT_21 tD_21 b_21 cell_tT froz_tT lt_tT cell_tD froz_tD lt_tD hX22 hT22 hb22
  have cell_tT := tT_22.cell
  have froz_tT := tT_22.frozen
  have lt_tT := tT_22.lt
  have cell_tD := tD_22.cell
  have froz_tD := tD_22.frozen
  have lt_tD := tD_22.lt
  obtain ⟨go, rfl, hg0, hg1, _⟩ := own_at ow_22 (by omega)
  go_wp2_with fail
  refine calls_forget0 (W := w22) ?_ ?_
  (focus (repeat (first | (with_reducible exact Below.refl _ _) | (with_reducible refine Below.trans ?_ (Below.mono (by assumption) (by first | omega | (simp; done) | (simp; omega) | (simp [*]; done)))) | (with_reducible refine Below.alloc ?_ (by first | omega | (simp; done) | (simp; omega) | (simp [*]; done)) _) | (with_reducible refine Below.setCell ?_ (by first | omega | (simp; done) | (simp; omega) | (simp [*]; done)) _) | (with_reducible refine Below.drew ?_) | (with_reducible refine below_drewN ?_))))
  intro X23 hX23
  have sX23 := hX23.size
  refine (HCS.out _ _ _ (Cells.of_own (own_below ib_22 hX23))).mono ?_
  rintro e w23 ⟨Ay, cy, rfl, y_23, hb23⟩
  have s23 := hb23.size
  have hT23 := hX23.trans (hb23.mono sX23)
  have b_23 := b_22.trans (hT23.mono (by omega))
  have ib_23 := own_below ib_22 hT23
  have x_23 := own_below x_22 hT23
  have ow_23 := own_below ow_22 hT23
  have tT_23 := Blk.past hT23 tT_22
  have tD_23 := Blk.past hT23 tD_22
  have y_in := own_in y_23
  clear ib_22 x_22 ow_22 tT_22 tD_22 b_22 cell_tT froz_tT lt_tT cell_tD froz_tD lt_tD hX23 hT23 hb23
  have cell_tT := tT_23.cell
  have froz_tT := tT_23.frozen
  have lt_tT := tT_23.lt
  have cell_tD := tD_23.cell
  have froz_tD := tD_23.frozen
  have lt_tD := tD_23.lt
  go_wp2_with fail
  refine calls_forget0 (W := w23) ?_ ?_
  (focus (repeat (first | (with_reducible exact Below.refl _ _) | (with_reducible refine Below.trans ?_ (Below.mono (by assumption) (by first | omega | (simp; done) | (simp; omega) | (simp [*]; done)))) | (with_reducible refine Below.alloc ?_ (by first | omega | (simp; done) | (simp; omega) | (simp [*]; done)) _) | (with_reducible refine Below.setCell ?_ (by first | omega | (simp; done) | (simp; omega) | (simp [*]; done)) _) | (with_reducible refine Below.drew ?_) | (with_reducible refine below_drewN ?_))))
  intro X24 hX24
  have sX24 := hX24.size
  refine (same80 _ _ _ _ _ _ HLL.out (Cells.of_own (own_below x_23 hX24)) (Cells.of_own (own_below y_23 hX24))).mono ?_
  rintro e w24 ⟨rfl, hb24⟩
  have s24 := hb24.size
  have hT24 := hX24.trans (hb24.mono sX24)
  have b_24 := b_23.trans (hT24.mono (by omega))
  have ib_24 := own_below ib_23 hT24
  have x_24 := own_below x_23 hT24
  have ow_24 := own_below ow_23 hT24
  have y_24 := own_below y_23 hT24
  have tT_24 := Blk.past hT24 tT_23
  have tD_24 := Blk.past hT24 tD_23
  clear ib_23 x_23 ow_23 y_23 tT_23 tD_23 b_23 cell_tT froz_tT lt_tT cell_tD froz_tD lt_tD hX24 hT24 hb24
  have cell_tT := tT_24.cell
  have froz_tT := tT_24.frozen
  have lt_tT := tT_24.lt
  have cell_tD := tD_24.cell
  have froz_tD := tD_24.frozen
  have lt_tD := tD_24.lt
  obtain ⟨go', e, _, _, hoc⟩ := own_at ow_24 (by omega)
  injection e with e
  injection e with e _ _
  subst e
  have hcell := hoc 0 _ (ints_get hP0.out)
  clear hoc
  go_wp2
  go_ret
  refine ⟨rfl, b_24.trans ?_⟩
  repeat (first | (with_reducible exact Below.refl _ _) | (with_reducible refine Below.trans ?_ (Below.mono (by assumption) (by first | omega | (simp; done) | (simp; omega) | (simp [*]; done)))) | (with_reducible refine Below.alloc ?_ (by first | omega | (simp; done) | (simp; omega) | (simp [*]; done)) _) | (with_reducible refine Below.setCell ?_ (by first | omega | (simp; done) | (simp; omega) | (simp [*]; done)) _) | (with_reducible refine Below.drew ?_) | (with_reducible refine below_drewN ?_))
set_option maxRecDepth 100000 in
theorem lifted (os : Os) (started : os.Started) (H : Type) (enc : TypeId × Value → H) :
    ReturnsInHanded {} Try.checked os 4 .any (Rows.fnByTransferSpec.pre6 enc Try.prog Try.f4 Rows.fnByTransferRow.domain false) (Rows.fnByTransferSpec.post enc Try.prog Try.f4 false true false false) := by
  refine returnsInHanded_of_change (C := Try.checked) own started (by kernel_rfl) Try.func4
    (ChangeSpec.witness6 (enc := enc) (C := Try.checked) false ⟨#[], #[.slice none 0 0], []⟩ 8 (by kernel_rfl) (by kernel_rfl) (by kernel_rfl) (by kernel_rfl)) ?_
  intro W base args ds gs before hval0 hW _ _
  have hval : ∀ (j : Nat) t v, Try.f4.params[j]? = some t → args[j]? = some v → Value.okWide Try.prog W .any base t v := hval0
  have hW' := hW
  obtain ⟨p, q, hA0, hV, rfl, _, _⟩ := hW
  have hA : DataW.TrodAll enc Try.prog W 0 (fun _ => true) true Try.f4.params.toList args.toList ds p := hA0
  rw [Try.params4] at hA hval
  obtain ⟨v0, vs0, d0, ds0, p0, q0, hargs, rfl, rfl, h0, r0⟩ := trodAll_cons hA
  obtain ⟨rfl, rfl, rfl⟩ := trodAll_nil r0
  obtain rfl : args = #[v0] := by cases args; simp_all
  obtain ⟨rfl, rfl⟩ := trodVars_none hV
  obtain ⟨A0, c0, xs0, rfl, hb0⟩ := view_bytes Try.underlying33 Try.underlying5 (by kernel_rfl) (hval 0 33 v0 rfl rfl) h0 (fun x hx => hW'.lt x (by simp [hx]))
  refine (walk A0 c0 xs0 W hb0).mono fun e W' ⟨he, hb⟩ => ?_
  subst he
  exact ⟨_, rfl, law_post rfl (by kernel_rfl) (by kernel_rfl) rfl Try.underlying4 hW' rfl rfl rfl hb⟩
theorem closed : joinedFacts Try.prog 4 Try.f4 Rows.fnByTransferSpec Rows.fnByTransferRow = true := by
  unfold joinedFacts
  rw [makeIs, mayIs, finalsIs]
  kernel_rfl
theorem over : Rows.fnByTransferRow.holds Try.pinned (OpenSpec.ofChange Rows.fnByTransferSpec) :=
  OpenClaim.holds_of_wide 4 Try.f4 rfl rfl rfl rfl rfl rfl rfl ⟨rfl, rfl, rfl, rfl, rfl⟩ rfl rfl rfl rfl rfl (by kernel_rfl) Try.func4 closed
    (of_decide_eq_true (by kernel_rfl)) (by unfold Func.isWrapper; first | (rw [if_pos (by decide +kernel)]; kernel_rfl) | (rw [if_neg (by decide +kernel)]; exact ⟨rfl, rfl⟩))
    (fun os started H enc _ => lifted os started H enc)
theorem proved : Rows.FnByTransferSaid := over
#print axioms proved

end byTransfer
end Go.Proofs.Ytonanjcojfjbdaa
