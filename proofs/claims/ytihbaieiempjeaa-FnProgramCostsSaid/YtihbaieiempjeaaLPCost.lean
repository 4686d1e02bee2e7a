import Derived.JoinedOf
import Derived.KernelRfl
import Derived.Test.YtihbaieiempjeaaRows
import Derived.Test.YtihbaieiempjeaaBy
import Derived.Test.YtihbaieiempjeaaPruT
import Derived.Test.YtihbaieiempjeaaSimL
import Derived.Test.YtihbaieiempjeaaBase
import Derived.Laws.MakeOwn
import Derived.Test.YtihbaieiempjeaaMem
import Derived.Test.YtihbaieiempjeaaIntS
import Derived.Outline
import Derived.Deep.DeepCutAuto
import Derived.Deep.RegionHeld3
/- What the head of a translation says (how it was made), read word by word: general lemmas, no program is named. They spare the kernel the great string. -/
namespace Go.Proofs.Ytihbaieiempjeaa

def chars (l : List Nat) : List Char := l.map Char.ofNat
theorem words_split (a b : List Nat) (h : (chars a).all (fun c => c != Char.ofNat 32) = true) : wordsSigns (chars (a ++ 32 :: b)) = chars a :: wordsSigns (chars b) := by
  induction a with
  | nil => rfl
  | cons x a ih =>
    have h1 : Char.ofNat x ≠ Char.ofNat 32 := by simpa [chars] using (List.all_eq_true.1 h) (Char.ofNat x) (by simp [chars])
    have h2 := ih (by simp only [chars, List.map_cons, List.all_cons, Bool.and_eq_true] at h ⊢; exact h.2)
    show wordsSigns (Char.ofNat x :: chars (a ++ 32 :: b)) = _
    conv => lhs; unfold wordsSigns
    split
    · rename_i e; cases e
    · rename_i r e
      injection e with e1 e2
      exact absurd e1 h1
    · rename_i c r _ e
      injection e with e1 e2
      subst e1 e2
      rw [h2]
      rfl
theorem behind_of (a b : List Char) (T : List (List Char)) (h1 : ((a == "harness".toList || a == "ownmain".toList) && isSumSigns b) = true) : behindMainWord (a :: b :: T) = T := by
  simp only [behindMainWord, h1, if_true]
theorem make_of (P : Program) (a b c : List Char) (T : List (List Char)) (h : wordsSigns P.initOrder.toList = a :: b :: c :: T)
    (h1 : ((a == "harness".toList || a == "ownmain".toList) && isSumSigns b) = true) (h2 : (c == "gc".toList || c == "spec".toList) = false) (h3 : (c == "cut".toList) = true) : P.make = some .cut := by
  unfold Program.make
  rw [h, behind_of a b _ h1]
  simp only [h2, h3]
  simp
theorem strip_none (c : List Char) (T : List (List Char)) : ∀ (os : List String), os.all (fun o => !(c == o.toList)) = true → stripLifts os (c :: T) = ([], c :: T)
  | [], _ => rfl
  | o :: os, h => by
    simp only [List.all_cons, Bool.and_eq_true, Bool.not_eq_true'] at h
    unfold stripLifts
    rw [h.1, if_neg Bool.false_ne_true]
    exact strip_none c T os h.2
theorem may_of (P : Program) (a b c : List Char) (T : List (List Char)) (h : wordsSigns P.initOrder.toList = a :: b :: c :: T)
    (h1 : ((a == "harness".toList || a == "ownmain".toList) && isSumSigns b) = true) (h3 : (c == "cut".toList) = true) (h4 : liftWords.all (fun o => !(c == o.toList)) = true)
    (h5 : P.laysLater = false) (h6 : P.bearsReflect = false) (h7 : P.doorFits [] = true) : P.mayEnter = true := by
  have e : c = "cut".toList := by simpa using h3
  unfold Program.mayEnter
  rw [h, behind_of a b _ h1]
  simp only [strip_none c T _ h4, h5, h6, h7]
  simp [e]
theorem finals_of (P : Program) (a b c : List Char) (T : List (List Char)) (h : wordsSigns P.initOrder.toList = a :: b :: c :: T)
    (h1 : ((a == "harness".toList || a == "ownmain".toList) && isSumSigns b) = true) (h2 : (c == "carried".toList) = false) (h4 : liftWords.all (fun o => !(c == o.toList)) = true) : P.liftsFinal = false := by
  unfold Program.liftsFinal Program.headLifts
  rw [h, behind_of a b _ h1]
  simp only [strip_none c T _ h4, List.head?_cons]
  have e : ((some c : Option (List Char)) == some "carried".toList) = false := h2
  rw [e]
  simp
end Go.Proofs.Ytihbaieiempjeaa
/- How this seat's translation was made, read off its head: three facts that every row of the seat asks. Written by program. -/
namespace Go.Proofs.Ytihbaieiempjeaa
set_option maxRecDepth 100000 in
def headA : List Nat := [104, 97, 114, 110, 101, 115, 115]
set_option maxRecDepth 100000 in
def headB : List Nat := [49, 49, 51, 56, 101, 57, 53, 102, 52, 100, 99, 97, 97, 50, 49, 48, 101, 48, 56, 48, 55, 48, 101, 53, 50, 57, 49, 100, 49, 49, 102, 99, 101, 102, 102, 100, 55, 53, 52, 56,
  98, 100, 99, 53, 57, 100, 56, 51, 48, 98, 54, 52, 55, 99, 57, 51, 56, 49, 52, 97, 48, 102, 54, 97]
set_option maxRecDepth 100000 in
def headC : List Nat := [99, 117, 116]
set_option maxRecDepth 100000 in
def headD : List Nat := [97, 116, 32, 108, 111, 111, 112, 46, 101, 120, 97, 109, 112, 108, 101, 47, 103, 48, 48, 57, 55, 57, 47, 108, 97, 119, 115, 46, 70, 110, 71, 97, 114, 98, 108, 105, 110, 103, 67, 111,
  115, 116, 115, 32, 108, 111, 111, 112, 46, 101, 120, 97, 109, 112, 108, 101, 47, 103, 48, 48, 57, 55, 57, 47, 108, 97, 119, 115, 46, 70, 110, 80, 114, 111, 103, 114, 97, 109, 67, 111,
  115, 116, 115, 32, 108, 111, 111, 112, 46, 101, 120, 97, 109, 112, 108, 101, 47, 103, 48, 48, 57, 55, 57, 47, 108, 97, 119, 115, 46, 70, 110, 69, 120, 97, 99, 116, 80, 114, 111, 103,
  114, 97, 109, 67, 111, 115, 116]
set_option maxRecDepth 100000 in
theorem headIs : Try.prog.initOrder = String.ofList (chars (headA ++ 32 :: (headB ++ 32 :: (headC ++ 32 :: headD)))) := by kernel_rfl
theorem headWords : wordsSigns Try.prog.initOrder.toList = chars headA :: chars headB :: chars headC :: wordsSigns (chars headD) := by
  rw [headIs, String.toList_ofList, words_split _ _ (by kernel_rfl), words_split _ _ (by kernel_rfl), words_split _ _ (by kernel_rfl)]
theorem makeIs : Try.prog.make = some .cut := make_of _ _ _ _ _ headWords (by kernel_rfl) (by kernel_rfl) (by kernel_rfl)
theorem mayIs : Try.prog.mayEnter = true := may_of _ _ _ _ _ headWords (by kernel_rfl) (by kernel_rfl) (by kernel_rfl) (by kernel_rfl) (by kernel_rfl) (by kernel_rfl)
theorem finalsIs : Try.prog.liftsFinal = false := finals_of _ _ _ _ _ headWords (by kernel_rfl) (by kernel_rfl) (by kernel_rfl)
theorem own : ownKnob Try.prog.godebug = none := by kernel_rfl
end Go.Proofs.Ytihbaieiempjeaa
/- Prune, in the program. -/
namespace Go.Proofs.Ytihbaieiempjeaa
open Go.RowKit

/- In this text: blkcBy2. -/
structure LivI (w : World) (G : Option Addr) (n cg : Nat) (O : Option Addr) (m co gb : Nat) (L : List Bool) (wr : World) : Prop where
  x : Blk wr w.heap.size TS #[.slice G n cg, .slice O m co]
  r : Blk wr (w.heap.size + 1) TS #[.slice none 0 0, .slice none 0 0]
  b : RowB wr gb n n L
  bl : Below w.heap.size w wr
  lg : w.heap.size + 2 ≤ gb
section
variable {w : World} {G : Option Addr} {n cg : Nat} {O : Option Addr} {m co gb : Nat} {L : List Bool} {wr w' : World}
theorem LivI.below (h : LivI w G n cg O m co gb L wr) (hb : Below wr.heap.size wr w') : LivI w G n cg O m co gb L w' := ⟨h.x.past hb, h.r.past hb, h.b.below hb, h.bl.trans (hb.mono h.bl.size), h.lg⟩
theorem LivI.mark {L' : List Bool} (h : LivI w G n cg O m co gb L wr) (h1 : RowB w' gb n n L') (h2 : wr.grownBy w' (some gb)) : LivI w G n cg O m co gb L' w' := by
  have hl := h.lg
  refine ⟨h.x.grown h2 (fun e => ?_), h.r.grown h2 (fun e => ?_), h1, below_apps h.bl h2 h.bl.size (by omega), hl⟩
  · injection e with e
    omega
  · injection e with e
    omega
end
set_option linter.unusedVariables false in
set_option maxRecDepth 100000 in
set_option maxHeartbeats 6400000 in
theorem iPrune (G O : Option Addr) (cg co : Nat) (gs : List Gt) (os : List Int) (w : World) (hg : Cells w w.heap.size G (ints (flatG gs))) (ho : Cells w w.heap.size O (ints os)) (hok : circB gs os = true) (hm : os.length ≤ 1000000) :
    Calls Try.prog 89 #[.agg #[.slice G gs.length cg, .slice O os.length co]] w (GivesK w (prunC gs os).1 (prunC gs os).2) := by
  obtain ⟨hn6, hgv, hov⟩ := circ_parts hok
  have HG := hid hg
  have HO := hid ho
  have HK := hid (fun w hg ho => iCircOk G O cg co gs os w hg ho (by omega) hm)
  rw [hok] at HK
  obtain ⟨LV, hLV⟩ : ∃ l, liveG gs os = l := ⟨_, rfl⟩
  have hll0 : LV.length = gs.length := by rw [← hLV, liveG_length]
  have HT := hid (prTo_ok (L := LV) hgv (by rw [← hLV]; exact liveG_fed hgv os))
  have HV := hid hgv
  have HOV := hid (outs_wire hov)
  have HR := hid (show prunC gs os = ((prTo gs LV gs.length).1, mapO (prTo gs LV gs.length).2 os) by unfold prunC; rw [if_pos hok, hLV])
  have HLL := hid hll0
  have HLV := hid hLV
  clear hg ho hok hgv hov hLV hll0
  go_enter Try.func89, Try.ntmps89
  have b_0 := (Below.refl w.heap.size w)
  have s_0 := b_0.size
  go_upto_region 1 with fail
  refine wp_forget2 (w0 := w) (B := w.heap.size) (b0 := w.heap.size) (t0 := 27) (c0 := #[.slice G gs.length cg, .slice O os.length co]) (b1 := w.heap.size + 1) (t1 := 27) (c1 := #[.slice none 0 0, .slice none 0 0]) ?_ ?_ ?_ ?_
  (focus exact blkcBy2)
  (focus exact blkcBy2)
  (focus (exact belBy))
  intro w1 x_1 r_1 hX1
  have sX1 := hX1.size
  have x_lt := x_1.lt
  have r_lt := r_1.lt
  have b_1 := b_0.trans (hX1.mono (by omega))
  clear b_0 hX1
  have cell_x := x_1.cell
  have froz_x := x_1.frozen
  have lt_x := x_1.lt
  have cell_r := r_1.cell
  have froz_r := r_1.frozen
  have lt_r := r_1.lt
  go_wp2_with fail
  refine calls_forget0 (W := w1) ?_ ?_
  (focus (exact belBy))
  intro X2 hX2
  have sX2 := hX2.size
  refine (HK.out _ ((HG.out.below (b_1.trans (hX2.mono (by omega)))).more (by omega)) ((HO.out.below (b_1.trans (hX2.mono (by omega)))).more (by omega))).mono ?_
  rintro e w2 ⟨rfl, hb2⟩
  have s2 := hb2.size
  have hT2 := hX2.trans (hb2.mono sX2)
  have b_2 := b_1.trans (hT2.mono (by omega))
  have x_2 := Blk.past hT2 x_1
  have r_2 := Blk.past hT2 r_1
  clear x_1 r_1 b_1 cell_x froz_x lt_x cell_r froz_r lt_r hX2 hT2 hb2
  have cell_x := x_2.cell
  have froz_x := x_2.frozen
  have lt_x := x_2.lt
  have cell_r := r_2.cell
  have froz_r := r_2.frozen
  have lt_r := r_2.lt
  have H2 := hid (And.intro x_2 (And.intro r_2 b_2))
  have z2 := b_2.size
  have hxl := x_2.lt
  have hrl := r_2.lt
  clear x_2 r_2 b_2 cell_r froz_r lt_r froz_x
  obtain ⟨i0, hi, hz0, hz1, hz2⟩ := info_parts infoB
  go_wp2_with (at_make; refine wpList_make_full _ rfl _ _ 108 rfl w2.heap.size 4 i0 (.bool false) 1 Try.underlying108 hi hz0 hz1 _ _ _ _ gs.length rfl rfl rfl rfl (by rw [hz2]; omega) (by unfold maxLen; omega) (Nat.le_refl _) ?_)
  intro w3 hown hgr
  have hb2 : Below w2.heap.size w2 w3 := (Below.refl _ _).grown hgr (Nat.le_refl _) (fun k hk => by cases hk)
  have hr2 : RowB w3 w2.heap.size gs.length gs.length (live0 gs.length []) := by
    show Row _ _ _ _ _ _ _
    rw [show live0 gs.length [] = List.replicate gs.length false from rfl, make_bools]
    exact own_weak hown (Nat.zero_le _)
  have z3 := hb2.size
  have H3 := hid (show LivI w G gs.length cg O os.length co w2.heap.size (live0 gs.length []) w3 from ⟨H2.out.1.past hb2, H2.out.2.1.past hb2, hr2, H2.out.2.2.trans (hb2.mono z2), by omega⟩)
  obtain ⟨gb, hgb⟩ : ∃ n, w2.heap.size = n := ⟨_, rfl⟩
  rw [hgb] at H3 ⊢
  clear hi hz0 hz1 hz2 hown hgr hb2 hr2 H2 hgb cell_x lt_x
  have cell_x := H3.out.x.cell
  have lt_x := H3.out.x.lt
  go_wp2_with fail
  clear cell_x lt_x
  go_loopw [5, 26] (fun _ i wr => ∃ m : Nat, m ≤ os.length ∧ i = .int .i64 (m : Int) ∧ LivI w G gs.length cg O os.length co gb (live0 gs.length (os.take m)) wr) (fun _ i _ => os.length - (intOf i).toNat)
  case atStart => exact ⟨0, Nat.zero_le _, rfl, H3.out⟩
  case round =>
    clear H3
    obtain ⟨m, hm2, rfl, hI⟩ := hrel
    have cell_x := hI.x.cell
    have lt_x := hI.x.lt
    by_cases hlt : m < os.length
    · obtain ⟨x, hxo⟩ : ∃ s, os[m]? = some s := ⟨_, List.getElem?_eq_getElem hlt⟩
      have hw := wireB_iff.1 (HOV.out x (List.mem_of_getElem? hxo))
      obtain ⟨mx, rfl⟩ := Int.eq_ofNat_of_zero_le hw.1
      have hst := live0_at (n := gs.length) hxo
      rw [Int.toNat_natCast] at hst
      obtain ⟨bo, oo, rfl, hBo, e0⟩ := int_cells HO.out hI.bl hxo
      have hbo := hI.bl.size
      obtain ⟨L, hL⟩ : ∃ L, live0 gs.length (os.take m) = L := ⟨_, rfl⟩
      have hll : L.length = gs.length := by rw [← hL, live0_length]
      rw [hL] at hI hst
      have hlt' : (m : Int) < (os.length : Int) := by omega
      have hmx : (mx : Int) < (gs.length : Int) := by omega
      have f0 := hI.b.cell (bools_get (getD_some (L := L) (i := mx) (by omega)))
      have f1 := World.ownsRow.frozenAt hI.b mx
      have hgl := hI.b.lt
      obtain ⟨s1, s2⟩ := hI.b.set_ mx true
      have HN := hid (And.intro (hI.mark s1 s2) hst)
      clear hI hxo hw hst hL s1 s2 hll
      go_wp2
      go_roundw
      case rel => exact ⟨m + 1, by omega, by go_num, by rw [HN.out.2]; exact HN.out.1⟩
      case measure => simp [intOf]; omega
    · obtain rfl : m = os.length := by omega
      rw [List.take_length] at hI
      have H4 := hid hI
      clear hI
      have hw1 : IntKind.i64.wrap ((gs.length : Int) - 1) = (gs.length : Int) - 1 := IntWalk.i64_in _ (by omega)
      go_wp2_with fail
      go_loopw [6, 7] (fun i _ wr => ∃ (k : Nat) (x : Int) (L : List Bool), k ≤ gs.length ∧ x = (k : Int) - 1 ∧ i = .int .i64 x ∧ L.length = gs.length ∧ liveTo gs L k = liveG gs os ∧ LivI w G gs.length cg O os.length co gb L wr) (fun i _ _ => (intOf i + 1).toNat)
      case atStart => exact ⟨gs.length, (gs.length : Int) - 1, _, Nat.le_refl _, rfl, rfl, live0_length _ _, rfl, H4.out⟩
      case round =>
        clear H4
        obtain ⟨k, x, L, hk, hxk, rfl, hll, hlt2, hI⟩ := hrel
        have cell_x := hI.x.cell
        have lt_x := hI.x.lt
        cases k with
        | zero =>
          obtain rfl : x = -1 := by omega
          have hLL : L = LV := hlt2.trans HLV.out
          subst hLL
          clear hlt2 hxk hll HLV hk
          have hw3 := hI.bl.size
          have hbl3 := hI.b.lt
          have hlg3 := hI.lg
          have HI3 := hid hI
          clear hI
          have b_4 := (Below.refl wr.heap.size wr)
          have s_4 := b_4.size
          go_upto_region 18 with fail
          refine wp_forget1 (w0 := wr) (B := wr.heap.size) (b0 := wr.heap.size) (t0 := 27) (c0 := #[.slice none 0 0, .slice none 0 0]) ?_ ?_ ?_
          (focus exact blkcBy2)
          (focus (exact belBy))
          intro w5 y_5 hX5
          have sX5 := hX5.size
          have y_lt := y_5.lt
          have b_5 := b_4.trans (hX5.mono (by omega))
          clear b_4 hX5
          have cell_y := y_5.cell
          have froz_y := y_5.frozen
          have lt_y := y_5.lt
          have hI5 := HI3.out.below b_5
          have z5 := b_5.size
          have hyl := y_5.lt
          have H5 := hid (And.intro hI5 y_5)
          clear hI5 y_5 b_5 HI3 cell_y froz_y lt_y cell_x lt_x
          have cell_x := H5.out.1.x.cell
          have lt_x := H5.out.1.x.lt
          obtain ⟨i0, hi, hz0, hz1, hz2⟩ := info_parts infoI
          go_wp2_with (at_make; refine wpList_make_full _ rfl _ _ 25 rfl w5.heap.size 3 i0 (.int .i64 0) 1 Try.underlying25 hi hz0 hz1 _ _ _ _ gs.length rfl rfl rfl rfl (by rw [hz2]; omega) (by unfold maxLen; omega) (Nat.le_refl _) ?_)
          intro w6 hown hgr
          have hb4 : Below w5.heap.size w5 w6 := (Below.refl _ _).grown hgr (Nat.le_refl _) (fun k hk => by cases hk)
          have hr4 : RowI w6 w5.heap.size gs.length gs.length (List.replicate gs.length 0) := by
            show Row _ _ _ _ _ _ _
            rw [make_ints]
            exact own_weak hown (Nat.zero_le _)
          have z4 := hb4.size
          have hI6 := H5.out.1.below hb4
          have H6 := hid (And.intro (show SimI w wr.heap.size w5.heap.size gs.length G gs.length cg O os.length co [] (List.replicate gs.length 0) none 0 [] w6 from
            ⟨hI6.x, hI6.r, ⟨none, 0, H5.out.2.past hb4, Nat.le_refl _, own_none⟩, (by rw [List.length_replicate]; exact hr4), own_none, (fun q hq => by cases hq), hI6.bl, by omega, by omega⟩) hI6.b)
          obtain ⟨bc, hbc⟩ : ∃ n, wr.heap.size = n := ⟨_, rfl⟩
          obtain ⟨gt, hgt0⟩ : ∃ n, w5.heap.size = n := ⟨_, rfl⟩
          rw [hbc, hgt0] at H6
          rw [hbc, hgt0]
          clear hi hz0 hz1 hz2 hown hgr hb4 hr4 H5 hI6 cell_x lt_x hbc hgt0
          have cell_x := H6.out.1.x.cell
          have lt_x := H6.out.1.x.lt
          go_wp2_with fail
          clear cell_x lt_x
          go_loopw [10, 11, 81] (fun _ _ i wr => ∃ j : Nat, j ≤ gs.length ∧ i = .int .i64 (j : Int) ∧ SimI w bc gt gs.length G gs.length cg O os.length co (prTo gs L j).1 (prTo gs L j).2 none 0 [] wr ∧ RowB wr gb gs.length gs.length L) (fun _ _ i _ => gs.length - (intOf i).toNat)
          case atStart => exact ⟨0, Nat.zero_le _, rfl, H6.out.1, H6.out.2⟩
          case round =>
            clear H6
            obtain ⟨j, hj, rfl, hI, hl⟩ := hrel
            have hok := HT.out j hj
            have cell_x := hI.x.cell
            have froz_x := hI.x.frozen
            have lt_x := hI.x.lt
            by_cases hlt : j < gs.length
            · obtain ⟨⟨q, a, b⟩, hx⟩ : ∃ s, gs[j]? = some s := ⟨_, List.getElem?_eq_getElem hlt⟩
              have hgv := gatesB_at HV.out hx
              rw [Nat.zero_add] at hgv
              have egd : gs.getD j ⟨0, 0, 0⟩ = ⟨q, a, b⟩ := by rw [List.getD_eq_getElem?_getD, hx]; rfl
              obtain ⟨bg, og, rfl, hBg, d0, d1, d2⟩ := gt_cells HG.out hI.bl hx
              have hbg := hI.bl.size
              have hst : prTo gs L (j + 1) = prS gs L (prTo gs L j) j := rfl
              obtain ⟨st, hst0⟩ : ∃ c, prTo gs L j = c := ⟨_, rfl⟩
              rw [hst0] at hI hok hst
              have hlt' : (j : Int) < (gs.length : Int) := by omega
              have hhi := hok.hi
              have htl := hok.tl
              have hgbl := hl.lt
              have hgtl := hI.t.lt
              obtain ⟨lv, hlv⟩ : ∃ v, L.getD j false = v := ⟨_, rfl⟩
              have ek : wr.cell? ⟨gb, j, none⟩ = some (.bool lv) := hl.cell (bools_get (by rw [getD_some (L := L) (i := j) (by have := HLL.out; omega), hlv]))
              clear hx hst0 hok
              cases lv
              · have hls : prS gs L st j = st := by unfold prS; rw [if_neg (by rw [hlv]; simp)]
                have HS := hid (hst.trans hls)
                have HI := hid (And.intro hI hl)
                clear hst hls hgv hlv egd hI hl
                have b_30 := (Below.refl wr.heap.size wr)
                have s_30 := b_30.size
                go_upto_region 22 with fail
                refine wp_forget1 (w0 := wr) (B := wr.heap.size) (b0 := wr.heap.size) (t0 := 70) (c0 := #[.int .i64 q, .int .i64 a, .int .i64 b]) ?_ ?_ ?_
                (focus exact blkcBy2)
                (focus (exact belBy))
                intro w31 q_31 hX31
                have sX31 := hX31.size
                have q_lt := q_31.lt
                have b_31 := b_30.trans (hX31.mono (by omega))
                clear b_30 hX31
                have cell_q := q_31.cell
                have froz_q := q_31.frozen
                have lt_q := q_31.lt
                have ek3 : w31.cell? ⟨gb, j, none⟩ = some (.bool false) := (HI.out.2.below b_31).cell (bools_get (by have := HI.out.2.cell (bools_get (L := L) (k := j) (v := L.getD j false) (getD_some (by have := HLL.out; omega))); rw [ek] at this; injection this with this; injection this with this; rw [getD_some (L := L) (i := j) (by have := HLL.out; omega), ← this]))
                have HF := hid (And.intro (HI.out.1.below b_31) (HI.out.2.below b_31))
                clear b_31 q_31 cell_x froz_x lt_x
                go_wp2
                go_roundw
                case rel => exact ⟨j + 1, by omega, by go_num, by rw [HS.out]; exact HF.out.1, HF.out.2⟩
                case measure => simp [intOf]; omega
              · have hls : prS gs L st j = (st.1 ++ [reG st.2 ⟨q, a, b⟩], st.2.set j (st.1.length : Int)) := by unfold prS; rw [if_pos hlv, egd]
                clear hlv egd
                rcases gate_kind hgv with hk2 | hk2 | hk2 | hk2 | hk2
                · obtain rfl : q = 1 := hk2
                  have hre : reG st.2 ⟨1, a, b⟩ = ⟨1, a, b⟩ := rfl
                  rw [hre] at hls
                  have HS := hid (hst.trans hls)
                  clear hst hls hre hgv 
                  have HI := hid hI
                  have HL := hid hl
                  clear hI hl
                  have b_30 := (Below.refl wr.heap.size wr)
                  have s_30 := b_30.size
                  go_upto_region 27 with fail
                  refine wp_forget1 (w0 := wr) (B := wr.heap.size) (b0 := wr.heap.size) (t0 := 70) (c0 := #[.int .i64 1, .int .i64 a, .int .i64 b]) ?_ ?_ ?_
                  (focus exact blkcBy2)
                  (focus (exact belBy))
                  intro w31 q_31 hX31
                  have sX31 := hX31.size
                  have q_lt := q_31.lt
                  have b_31 := b_30.trans (hX31.mono (by omega))
                  clear b_30 hX31
                  have cell_q := q_31.cell
                  have froz_q := q_31.frozen
                  have lt_q := q_31.lt
                  have hI3 := HI.out.below b_31
                  have hL3 := HL.out.below b_31
                  have HQ := hid q_31
                  have z31 := b_31.size
                  obtain ⟨Gx, cgx, hbk, _, hg1⟩ := hI3.b
                  have cell_y := hbk.cell
                  have froz_y := hbk.frozen
                  have lt_y := hbk.lt
                  have ht3 := hI3.t
                  rw [htl] at ht3
                  have hgl := ht3.lt
                  have fj : w31.cell? ⟨gt, j, none⟩ = some (.int .i64 (st.2.getD j 0)) := ht3.cell (ints_get (by rw [List.getD_eq_getElem?_getD, List.getElem?_eq_getElem (show j < st.2.length by omega)]; rfl))
                  have zj := World.ownsRow.frozenAt ht3 j
                  have HI3 := hid hI3
                  have HT3 := hid ht3
                  have HL3 := hid hL3
                  clear b_31 q_31 HI HL hI3 hL3 hbk hg1 ht3 cell_x froz_x lt_x d0 d1 d2 ek
                  go_upto_region 28 with fail
                  refine wp_noteI HT3.out j (st.1.length : Int) ?_
                  intro w32 r32 g32
                  have hI4 := SimI.set_ HI3.out (j := j) (v := (st.1.length : Int)) (by rw [htl]; exact r32) g32
                  have hL4 := HL3.out.grown g32 (row_apart HL3.out HT3.out (by decide))
                  have hq4 := gr_blk g32 HQ.out (fun q hq => by injection hq with hq; subst hq; exact HT3.out.not_blk HQ.out (by decide))
                  obtain ⟨Gx, cgx, hbk, hle, hg1⟩ := hI4.b
                  have cell_y := hbk.cell
                  have froz_y := hbk.frozen
                  have lt_y := hbk.lt
                  have cell_q := hq4.cell
                  have lt_q := hq4.lt
                  have HI4 := hid (And.intro hI4 (And.intro hL4 (And.intro hbk hg1)))
                  have hsz4 := hI4.bl.size
                  have hlb4 := hI4.lb
                  clear hI4 hL4 hq4 hbk hg1 r32 g32 HI3 HT3 HL3 HQ fj zj froz_q
                  go_wp2_with (at_builtin; refine wpList_appi rfl _ _ 24 rfl bc TG (.agg #[.int .i64 0, .int .i64 0, .int .i64 0]) 3 24 Try.underlying24 infoGt rfl (by decide) _ st.1.length _ rfl (HI4.out.2.2.2.alloc _) ⟨w32.heap.size, 0, none⟩ 1 1 _ rfl rfl (many_new _ [_, _, _] _) (int3_one _ _ _) (by omega) (by decide) (by simp; omega) ?_)
                  intro A' c' w5 h1 h2 _
                  have h2 := grown_alloc h2
                  obtain ⟨hb5, hB5, hS5⟩ := bld_put (T := TS) (g := ⟨1, a, b⟩) (by decide) HI4.out.2.2.1 hle HI4.out.2.2.2 h1 h2
                  have HF := hid (And.intro (SimI.stay HI4.out.1 hB5 hS5) (hS5.row HI4.out.2.1 (by decide) (by decide)))
                  have cell_5 := hb5.cell
                  have froz_5 := hb5.frozen
                  have lt_5 := hb5.lt
                  clear h1 h2 hb5 hB5 hS5 HI4 cell_y froz_y lt_y cell_q lt_q
                  go_wp2
                  go_roundw
                  case rel => exact ⟨j + 1, by omega, by go_num, by rw [HS.out]; exact HF.out.1, HF.out.2⟩
                  case measure => simp [intOf]; omega
                · obtain rfl : q = 2 := hk2
                  have hre : reG st.2 ⟨2, a, b⟩ = ⟨2, a, b⟩ := rfl
                  rw [hre] at hls
                  have HS := hid (hst.trans hls)
                  clear hst hls hre hgv 
                  have HI := hid hI
                  have HL := hid hl
                  clear hI hl
                  have b_30 := (Below.refl wr.heap.size wr)
                  have s_30 := b_30.size
                  go_upto_region 27 with fail
                  refine wp_forget1 (w0 := wr) (B := wr.heap.size) (b0 := wr.heap.size) (t0 := 70) (c0 := #[.int .i64 2, .int .i64 a, .int .i64 b]) ?_ ?_ ?_
                  (focus exact blkcBy2)
                  (focus (exact belBy))
                  intro w31 q_31 hX31
                  have sX31 := hX31.size
                  have q_lt := q_31.lt
                  have b_31 := b_30.trans (hX31.mono (by omega))
                  clear b_30 hX31
                  have cell_q := q_31.cell
                  have froz_q := q_31.frozen
                  have lt_q := q_31.lt
                  have hI3 := HI.out.below b_31
                  have hL3 := HL.out.below b_31
                  have HQ := hid q_31
                  have z31 := b_31.size
                  obtain ⟨Gx, cgx, hbk, _, hg1⟩ := hI3.b
                  have cell_y := hbk.cell
                  have froz_y := hbk.frozen
                  have lt_y := hbk.lt
                  have ht3 := hI3.t
                  rw [htl] at ht3
                  have hgl := ht3.lt
                  have fj : w31.cell? ⟨gt, j, none⟩ = some (.int .i64 (st.2.getD j 0)) := ht3.cell (ints_get (by rw [List.getD_eq_getElem?_getD, List.getElem?_eq_getElem (show j < st.2.length by omega)]; rfl))
                  have zj := World.ownsRow.frozenAt ht3 j
                  have HI3 := hid hI3
                  have HT3 := hid ht3
                  have HL3 := hid hL3
                  clear b_31 q_31 HI HL hI3 hL3 hbk hg1 ht3 cell_x froz_x lt_x d0 d1 d2 ek
                  go_upto_region 28 with fail
                  refine wp_noteI HT3.out j (st.1.length : Int) ?_
                  intro w32 r32 g32
                  have hI4 := SimI.set_ HI3.out (j := j) (v := (st.1.length : Int)) (by rw [htl]; exact r32) g32
                  have hL4 := HL3.out.grown g32 (row_apart HL3.out HT3.out (by decide))
                  have hq4 := gr_blk g32 HQ.out (fun q hq => by injection hq with hq; subst hq; exact HT3.out.not_blk HQ.out (by decide))
                  obtain ⟨Gx, cgx, hbk, hle, hg1⟩ := hI4.b
                  have cell_y := hbk.cell
                  have froz_y := hbk.frozen
                  have lt_y := hbk.lt
                  have cell_q := hq4.cell
                  have lt_q := hq4.lt
                  have HI4 := hid (And.intro hI4 (And.intro hL4 (And.intro hbk hg1)))
                  have hsz4 := hI4.bl.size
                  have hlb4 := hI4.lb
                  clear hI4 hL4 hq4 hbk hg1 r32 g32 HI3 HT3 HL3 HQ fj zj froz_q
                  go_wp2_with (at_builtin; refine wpList_appi rfl _ _ 24 rfl bc TG (.agg #[.int .i64 0, .int .i64 0, .int .i64 0]) 3 24 Try.underlying24 infoGt rfl (by decide) _ st.1.length _ rfl (HI4.out.2.2.2.alloc _) ⟨w32.heap.size, 0, none⟩ 1 1 _ rfl rfl (many_new _ [_, _, _] _) (int3_one _ _ _) (by omega) (by decide) (by simp; omega) ?_)
                  intro A' c' w5 h1 h2 _
                  have h2 := grown_alloc h2
                  obtain ⟨hb5, hB5, hS5⟩ := bld_put (T := TS) (g := ⟨2, a, b⟩) (by decide) HI4.out.2.2.1 hle HI4.out.2.2.2 h1 h2
                  have HF := hid (And.intro (SimI.stay HI4.out.1 hB5 hS5) (hS5.row HI4.out.2.1 (by decide) (by decide)))
                  have cell_5 := hb5.cell
                  have froz_5 := hb5.frozen
                  have lt_5 := hb5.lt
                  clear h1 h2 hb5 hB5 hS5 HI4 cell_y froz_y lt_y cell_q lt_q
                  go_wp2
                  go_roundw
                  case rel => exact ⟨j + 1, by omega, by go_num, by rw [HS.out]; exact HF.out.1, HF.out.2⟩
                  case measure => simp [intOf]; omega
                · obtain rfl : q = 3 := hk2
                  have hab := gate_is34 hgv (.inl rfl)
                  dsimp only at hab
                  obtain ⟨a, rfl⟩ := Int.eq_ofNat_of_zero_le hab.1.1
                  obtain ⟨b, rfl⟩ := Int.eq_ofNat_of_zero_le hab.2.1
                  obtain ⟨va, hva⟩ : ∃ v, st.2.getD a 0 = v := ⟨_, rfl⟩
                  obtain ⟨vb, hvb⟩ : ∃ v, st.2.getD b 0 = v := ⟨_, rfl⟩
                  have fa : wr.cell? ⟨gt, a, none⟩ = some (.int .i64 va) := hI.t.cell (ints_get (by rw [List.getElem?_eq_getElem (show a < st.2.length by omega), ← hva, List.getD_eq_getElem?_getD, List.getElem?_eq_getElem (show a < st.2.length by omega)]; rfl))
                  have fb : wr.cell? ⟨gt, b, none⟩ = some (.int .i64 vb) := hI.t.cell (ints_get (by rw [List.getElem?_eq_getElem (show b < st.2.length by omega), ← hvb, List.getD_eq_getElem?_getD, List.getElem?_eq_getElem (show b < st.2.length by omega)]; rfl))
                  have ha' : (a : Int) < (gs.length : Int) := by omega
                  have hb' : (b : Int) < (gs.length : Int) := by omega
                  have hre : reG st.2 ⟨3, (a : Int), (b : Int)⟩ = ⟨3, va, vb⟩ := by rw [← hva, ← hvb]; rfl
                  rw [hre] at hls
                  have HS := hid (hst.trans hls)
                  clear hst hls hre hgv hva hvb
                  have HI := hid hI
                  have HL := hid hl
                  clear hI hl
                  have b_30 := (Below.refl wr.heap.size wr)
                  have s_30 := b_30.size
                  go_upto_region 27 with fail
                  refine wp_forget1 (w0 := wr) (B := wr.heap.size) (b0 := wr.heap.size) (t0 := 70) (c0 := #[.int .i64 3, .int .i64 va, .int .i64 vb]) ?_ ?_ ?_
                  (focus exact blkcBy2)
                  (focus (exact belBy))
                  intro w31 q_31 hX31
                  have sX31 := hX31.size
                  have q_lt := q_31.lt
                  have b_31 := b_30.trans (hX31.mono (by omega))
                  clear b_30 hX31
                  have cell_q := q_31.cell
                  have froz_q := q_31.frozen
                  have lt_q := q_31.lt
                  have hI3 := HI.out.below b_31
                  have hL3 := HL.out.below b_31
                  have HQ := hid q_31
                  have z31 := b_31.size
                  obtain ⟨Gx, cgx, hbk, _, hg1⟩ := hI3.b
                  have cell_y := hbk.cell
                  have froz_y := hbk.frozen
                  have lt_y := hbk.lt
                  have ht3 := hI3.t
                  rw [htl] at ht3
                  have hgl := ht3.lt
                  have fj : w31.cell? ⟨gt, j, none⟩ = some (.int .i64 (st.2.getD j 0)) := ht3.cell (ints_get (by rw [List.getD_eq_getElem?_getD, List.getElem?_eq_getElem (show j < st.2.length by omega)]; rfl))
                  have zj := World.ownsRow.frozenAt ht3 j
                  have HI3 := hid hI3
                  have HT3 := hid ht3
                  have HL3 := hid hL3
                  clear b_31 q_31 HI HL hI3 hL3 hbk hg1 ht3 cell_x froz_x lt_x d0 d1 d2 ek fa fb
                  go_upto_region 28 with fail
                  refine wp_noteI HT3.out j (st.1.length : Int) ?_
                  intro w32 r32 g32
                  have hI4 := SimI.set_ HI3.out (j := j) (v := (st.1.length : Int)) (by rw [htl]; exact r32) g32
                  have hL4 := HL3.out.grown g32 (row_apart HL3.out HT3.out (by decide))
                  have hq4 := gr_blk g32 HQ.out (fun q hq => by injection hq with hq; subst hq; exact HT3.out.not_blk HQ.out (by decide))
                  obtain ⟨Gx, cgx, hbk, hle, hg1⟩ := hI4.b
                  have cell_y := hbk.cell
                  have froz_y := hbk.frozen
                  have lt_y := hbk.lt
                  have cell_q := hq4.cell
                  have lt_q := hq4.lt
                  have HI4 := hid (And.intro hI4 (And.intro hL4 (And.intro hbk hg1)))
                  have hsz4 := hI4.bl.size
                  have hlb4 := hI4.lb
                  clear hI4 hL4 hq4 hbk hg1 r32 g32 HI3 HT3 HL3 HQ fj zj froz_q
                  go_wp2_with (at_builtin; refine wpList_appi rfl _ _ 24 rfl bc TG (.agg #[.int .i64 0, .int .i64 0, .int .i64 0]) 3 24 Try.underlying24 infoGt rfl (by decide) _ st.1.length _ rfl (HI4.out.2.2.2.alloc _) ⟨w32.heap.size, 0, none⟩ 1 1 _ rfl rfl (many_new _ [_, _, _] _) (int3_one _ _ _) (by omega) (by decide) (by simp; omega) ?_)
                  intro A' c' w5 h1 h2 _
                  have h2 := grown_alloc h2
                  obtain ⟨hb5, hB5, hS5⟩ := bld_put (T := TS) (g := ⟨3, va, vb⟩) (by decide) HI4.out.2.2.1 hle HI4.out.2.2.2 h1 h2
                  have HF := hid (And.intro (SimI.stay HI4.out.1 hB5 hS5) (hS5.row HI4.out.2.1 (by decide) (by decide)))
                  have cell_5 := hb5.cell
                  have froz_5 := hb5.frozen
                  have lt_5 := hb5.lt
                  clear h1 h2 hb5 hB5 hS5 HI4 cell_y froz_y lt_y cell_q lt_q
                  go_wp2
                  go_roundw
                  case rel => exact ⟨j + 1, by omega, by go_num, by rw [HS.out]; exact HF.out.1, HF.out.2⟩
                  case measure => simp [intOf]; omega
                · obtain rfl : q = 4 := hk2
                  have hab := gate_is34 hgv (.inr rfl)
                  dsimp only at hab
                  obtain ⟨a, rfl⟩ := Int.eq_ofNat_of_zero_le hab.1.1
                  obtain ⟨b, rfl⟩ := Int.eq_ofNat_of_zero_le hab.2.1
                  obtain ⟨va, hva⟩ : ∃ v, st.2.getD a 0 = v := ⟨_, rfl⟩
                  obtain ⟨vb, hvb⟩ : ∃ v, st.2.getD b 0 = v := ⟨_, rfl⟩
                  have fa : wr.cell? ⟨gt, a, none⟩ = some (.int .i64 va) := hI.t.cell (ints_get (by rw [List.getElem?_eq_getElem (show a < st.2.length by omega), ← hva, List.getD_eq_getElem?_getD, List.getElem?_eq_getElem (show a < st.2.length by omega)]; rfl))
                  have fb : wr.cell? ⟨gt, b, none⟩ = some (.int .i64 vb) := hI.t.cell (ints_get (by rw [List.getElem?_eq_getElem (show b < st.2.length by omega), ← hvb, List.getD_eq_getElem?_getD, List.getElem?_eq_getElem (show b < st.2.length by omega)]; rfl))
                  have ha' : (a : Int) < (gs.length : Int) := by omega
                  have hb' : (b : Int) < (gs.length : Int) := by omega
                  have hre : reG st.2 ⟨4, (a : Int), (b : Int)⟩ = ⟨4, va, vb⟩ := by rw [← hva, ← hvb]; rfl
                  rw [hre] at hls
                  have HS := hid (hst.trans hls)
                  clear hst hls hre hgv hva hvb
                  have HI := hid hI
                  have HL := hid hl
                  clear hI hl
                  have b_30 := (Below.refl wr.heap.size wr)
                  have s_30 := b_30.size
                  go_upto_region 27 with fail
                  refine wp_forget1 (w0 := wr) (B := wr.heap.size) (b0 := wr.heap.size) (t0 := 70) (c0 := #[.int .i64 4, .int .i64 va, .int .i64 vb]) ?_ ?_ ?_
                  (focus exact blkcBy2)
                  (focus (exact belBy))
                  intro w31 q_31 hX31
                  have sX31 := hX31.size
                  have q_lt := q_31.lt
                  have b_31 := b_30.trans (hX31.mono (by omega))
                  clear b_30 hX31
                  have cell_q := q_31.cell
                  have froz_q := q_31.frozen
                  have lt_q := q_31.lt
                  have hI3 := HI.out.below b_31
                  have hL3 := HL.out.below b_31
                  have HQ := hid q_31
                  have z31 := b_31.size
                  obtain ⟨Gx, cgx, hbk, _, hg1⟩ := hI3.b
                  have cell_y := hbk.cell
                  have froz_y := hbk.frozen
                  have lt_y := hbk.lt
                  have ht3 := hI3.t
                  rw [htl] at ht3
                  have hgl := ht3.lt
                  have fj : w31.cell? ⟨gt, j, none⟩ = some (.int .i64 (st.2.getD j 0)) := ht3.cell (ints_get (by rw [List.getD_eq_getElem?_getD, List.getElem?_eq_getElem (show j < st.2.length by omega)]; rfl))
                  have zj := World.ownsRow.frozenAt ht3 j
                  have HI3 := hid hI3
                  have HT3 := hid ht3
                  have HL3 := hid hL3
                  clear b_31 q_31 HI HL hI3 hL3 hbk hg1 ht3 cell_x froz_x lt_x d0 d1 d2 ek fa fb
                  go_upto_region 28 with fail
                  refine wp_noteI HT3.out j (st.1.length : Int) ?_
                  intro w32 r32 g32
                  have hI4 := SimI.set_ HI3.out (j := j) (v := (st.1.length : Int)) (by rw [htl]; exact r32) g32
                  have hL4 := HL3.out.grown g32 (row_apart HL3.out HT3.out (by decide))
                  have hq4 := gr_blk g32 HQ.out (fun q hq => by injection hq with hq; subst hq; exact HT3.out.not_blk HQ.out (by decide))
                  obtain ⟨Gx, cgx, hbk, hle, hg1⟩ := hI4.b
                  have cell_y := hbk.cell
                  have froz_y := hbk.frozen
                  have lt_y := hbk.lt
                  have cell_q := hq4.cell
                  have lt_q := hq4.lt
                  have HI4 := hid (And.intro hI4 (And.intro hL4 (And.intro hbk hg1)))
                  have hsz4 := hI4.bl.size
                  have hlb4 := hI4.lb
                  clear hI4 hL4 hq4 hbk hg1 r32 g32 HI3 HT3 HL3 HQ fj zj froz_q
                  go_wp2_with (at_builtin; refine wpList_appi rfl _ _ 24 rfl bc TG (.agg #[.int .i64 0, .int .i64 0, .int .i64 0]) 3 24 Try.underlying24 infoGt rfl (by decide) _ st.1.length _ rfl (HI4.out.2.2.2.alloc _) ⟨w32.heap.size, 0, none⟩ 1 1 _ rfl rfl (many_new _ [_, _, _] _) (int3_one _ _ _) (by omega) (by decide) (by simp; omega) ?_)
                  intro A' c' w5 h1 h2 _
                  have h2 := grown_alloc h2
                  obtain ⟨hb5, hB5, hS5⟩ := bld_put (T := TS) (g := ⟨4, va, vb⟩) (by decide) HI4.out.2.2.1 hle HI4.out.2.2.2 h1 h2
                  have HF := hid (And.intro (SimI.stay HI4.out.1 hB5 hS5) (hS5.row HI4.out.2.1 (by decide) (by decide)))
                  have cell_5 := hb5.cell
                  have froz_5 := hb5.frozen
                  have lt_5 := hb5.lt
                  clear h1 h2 hb5 hB5 hS5 HI4 cell_y froz_y lt_y cell_q lt_q
                  go_wp2
                  go_roundw
                  case rel => exact ⟨j + 1, by omega, by go_num, by rw [HS.out]; exact HF.out.1, HF.out.2⟩
                  case measure => simp [intOf]; omega
                · obtain rfl : q = 5 := hk2
                  have hab := gate_is5 hgv rfl
                  dsimp only at hab
                  obtain ⟨hab, hb0⟩ := hab
                  subst hb0
                  obtain ⟨a, rfl⟩ := Int.eq_ofNat_of_zero_le hab.1
                  obtain ⟨va, hva⟩ : ∃ v, st.2.getD a 0 = v := ⟨_, rfl⟩
                  have fa : wr.cell? ⟨gt, a, none⟩ = some (.int .i64 va) := hI.t.cell (ints_get (by rw [List.getElem?_eq_getElem (show a < st.2.length by omega), ← hva, List.getD_eq_getElem?_getD, List.getElem?_eq_getElem (show a < st.2.length by omega)]; rfl))
                  have ha' : (a : Int) < (gs.length : Int) := by omega
                  have hre : reG st.2 ⟨5, (a : Int), 0⟩ = ⟨5, va, 0⟩ := by rw [← hva]; rfl
                  rw [hre] at hls
                  have HS := hid (hst.trans hls)
                  clear hst hls hre hgv hva
                  have HI := hid hI
                  have HL := hid hl
                  clear hI hl
                  have b_30 := (Below.refl wr.heap.size wr)
                  have s_30 := b_30.size
                  go_upto_region 27 with fail
                  refine wp_forget1 (w0 := wr) (B := wr.heap.size) (b0 := wr.heap.size) (t0 := 70) (c0 := #[.int .i64 5, .int .i64 va, .int .i64 0]) ?_ ?_ ?_
                  (focus exact blkcBy2)
                  (focus (exact belBy))
                  intro w31 q_31 hX31
                  have sX31 := hX31.size
                  have q_lt := q_31.lt
                  have b_31 := b_30.trans (hX31.mono (by omega))
                  clear b_30 hX31
                  have cell_q := q_31.cell
                  have froz_q := q_31.frozen
                  have lt_q := q_31.lt
                  have hI3 := HI.out.below b_31
                  have hL3 := HL.out.below b_31
                  have HQ := hid q_31
                  have z31 := b_31.size
                  obtain ⟨Gx, cgx, hbk, _, hg1⟩ := hI3.b
                  have cell_y := hbk.cell
                  have froz_y := hbk.frozen
                  have lt_y := hbk.lt
                  have ht3 := hI3.t
                  rw [htl] at ht3
                  have hgl := ht3.lt
                  have fj : w31.cell? ⟨gt, j, none⟩ = some (.int .i64 (st.2.getD j 0)) := ht3.cell (ints_get (by rw [List.getD_eq_getElem?_getD, List.getElem?_eq_getElem (show j < st.2.length by omega)]; rfl))
                  have zj := World.ownsRow.frozenAt ht3 j
                  have HI3 := hid hI3
                  have HT3 := hid ht3
                  have HL3 := hid hL3
                  clear b_31 q_31 HI HL hI3 hL3 hbk hg1 ht3 cell_x froz_x lt_x d0 d1 d2 ek fa
                  go_upto_region 28 with fail
                  refine wp_noteI HT3.out j (st.1.length : Int) ?_
                  intro w32 r32 g32
                  have hI4 := SimI.set_ HI3.out (j := j) (v := (st.1.length : Int)) (by rw [htl]; exact r32) g32
                  have hL4 := HL3.out.grown g32 (row_apart HL3.out HT3.out (by decide))
                  have hq4 := gr_blk g32 HQ.out (fun q hq => by injection hq with hq; subst hq; exact HT3.out.not_blk HQ.out (by decide))
                  obtain ⟨Gx, cgx, hbk, hle, hg1⟩ := hI4.b
                  have cell_y := hbk.cell
                  have froz_y := hbk.frozen
                  have lt_y := hbk.lt
                  have cell_q := hq4.cell
                  have lt_q := hq4.lt
                  have HI4 := hid (And.intro hI4 (And.intro hL4 (And.intro hbk hg1)))
                  have hsz4 := hI4.bl.size
                  have hlb4 := hI4.lb
                  clear hI4 hL4 hq4 hbk hg1 r32 g32 HI3 HT3 HL3 HQ fj zj froz_q
                  go_wp2_with (at_builtin; refine wpList_appi rfl _ _ 24 rfl bc TG (.agg #[.int .i64 0, .int .i64 0, .int .i64 0]) 3 24 Try.underlying24 infoGt rfl (by decide) _ st.1.length _ rfl (HI4.out.2.2.2.alloc _) ⟨w32.heap.size, 0, none⟩ 1 1 _ rfl rfl (many_new _ [_, _, _] _) (int3_one _ _ _) (by omega) (by decide) (by simp; omega) ?_)
                  intro A' c' w5 h1 h2 _
                  have h2 := grown_alloc h2
                  obtain ⟨hb5, hB5, hS5⟩ := bld_put (T := TS) (g := ⟨5, va, 0⟩) (by decide) HI4.out.2.2.1 hle HI4.out.2.2.2 h1 h2
                  have HF := hid (And.intro (SimI.stay HI4.out.1 hB5 hS5) (hS5.row HI4.out.2.1 (by decide) (by decide)))
                  have cell_5 := hb5.cell
                  have froz_5 := hb5.frozen
                  have lt_5 := hb5.lt
                  clear h1 h2 hb5 hB5 hS5 HI4 cell_y froz_y lt_y cell_q lt_q
                  go_wp2
                  go_roundw
                  case rel => exact ⟨j + 1, by omega, by go_num, by rw [HS.out]; exact HF.out.1, HF.out.2⟩
                  case measure => simp [intOf]; omega
            · obtain rfl : j = gs.length := by omega
              obtain ⟨st, hst⟩ : ∃ c, prTo gs L gs.length = c := ⟨_, rfl⟩
              rw [hst] at hI HR
              have htl := hok.tl
              rw [hst] at htl
              have HTL := hid htl
              have HAT := hid (show ∀ x : Nat, x < gs.length → st.2[x]? = some (st.2.getD x 0) from fun x hx => by rw [List.getD_eq_getElem?_getD, List.getElem?_eq_getElem (by omega)]; rfl)
              have HI := hid hI
              clear hI hok hst HT HV cell_x froz_x lt_x htl hl
              have cell_x := HI.out.x.cell
              have lt_x := HI.out.x.lt
              go_wp2_with fail
              clear cell_x lt_x
              go_loopw [13, 135] (fun _ i wr => ∃ (m : Nat) (A : Option Addr) (kO : Nat), m ≤ os.length ∧ i = .int .i64 (m : Int) ∧ SimI w bc gt gs.length G gs.length cg O os.length co st.1 st.2 A kO (mapO st.2 (os.take m)) wr) (fun _ i _ => os.length - (intOf i).toNat)
              case atStart => exact ⟨0, none, 0, Nat.zero_le _, rfl, HI.out⟩
              case round =>
                clear HI
                obtain ⟨m, A, kO, hm2, rfl, hI⟩ := hrel
                have cell_x := hI.x.cell
                have lt_x := hI.x.lt
                by_cases hlt : m < os.length
                · obtain ⟨x, hx⟩ : ∃ s, os[m]? = some s := ⟨_, List.getElem?_eq_getElem hlt⟩
                  have hw := wireB_iff.1 (HOV.out x (List.mem_of_getElem? hx))
                  obtain ⟨mx, rfl⟩ := Int.eq_ofNat_of_zero_le hw.1
                  have hA1 := HAT.out mx (by omega)
                  obtain ⟨v, hv⟩ : ∃ v, st.2.getD mx 0 = v := ⟨_, rfl⟩
                  have hmo : mapO st.2 (os.take (m + 1)) = mapO st.2 (os.take m) ++ [v] := by
                    obtain ⟨hl, e⟩ := List.getElem?_eq_some_iff.1 hx
                    rw [List.take_succ_eq_append_getElem hl, e]
                    simp only [mapO, List.map_append, List.map_cons, List.map_nil, Int.toNat_natCast, hv]
                  have hml : (mapO st.2 (os.take m)).length = m := by simp [mapO]; omega
                  rw [hv] at hA1
                  obtain ⟨bo, oo, rfl, hBo, e0⟩ := int_cells HO.out hI.bl hx
                  have hbo := hI.bl.size
                  obtain ⟨outs, houts⟩ : ∃ c, mapO st.2 (os.take m) = c := ⟨_, rfl⟩
                  rw [houts] at hI hmo hml
                  have hml2 : outs.length ≤ 1000000 := by omega
                  have hlt' : (m : Int) < (os.length : Int) := by omega
                  have htl := HTL.out
                  have hmx : (mx : Int) < (gs.length : Int) := by omega
                  have m00 : (0 : Int) ≤ (m : Int) := by omega
                  have mx0 : (0 : Int) ≤ (mx : Int) := by omega
                  have f0 := hI.t.cell (ints_get hA1)
                  have hgl := hI.t.lt
                  obtain ⟨Gx, cgx, hbk, _, hg1⟩ := hI.b
                  have cell_y := hbk.cell
                  have froz_y := hbk.frozen
                  have lt_y := hbk.lt
                  have hlb := hI.lb
                  have hou := hI.o
                  have hne1 := hid (own_ne_obj hou hbk (by decide))
                  have HI := hid (And.intro hI (And.intro hbk hg1))
                  have HMO := hid (And.intro hmo hml)
                  have hb1 : outs.length + 1 ≤ 1000000 + 1 := by omega
                  have hb1 : outs.length + 1 ≤ 1000000 := by omega
                  clear hI hx hmo hml houts hw hA1 hv htl hg1
                  go_upto_region 33 with fail
                  go_region_law (refine step_int_any (base := bc) (L := outs) rfl (.tmp 140) (.tmp 145) rfl (v := Value.slice A outs.length kO) rfl ?_ ?_ [v] rfl rfl ?_ (by decide) hb1 ?_; (focus (exact ownBy)); (focus (first | omega | (simp; omega))); (focus (exact top_cells _ [_] _)); intro g' c' w5 ho5 hg5 hl5; have kx5 := gr_blk hg5 (b := bc) (t := TS) (cs := #[.slice Gx st.1.length cgx, .slice A outs.length kO]) (by exact blkcBy2) hne1.out; have cell_5 := kx5.cell; have froz_5 := kx5.frozen; have lt_5 := kx5.lt)
                  all_goals
                    have h3' : (Value.slice A outs.length kO).ownBlock = some g' ∨ wr.heap.size ≤ g' := by
                      rcases hl5 with h | h
                      · exact .inl h
                      · refine .inr ?_
                        (try simp at h)
                        omega
                    have HF := hid (SimI.app HI.out.1 HI.out.2.1 HI.out.2.2 (by exact belBy) ho5 hg5 h3')
                    clear ho5 hg5 hl5 kx5 cell_5 froz_5 lt_5 hou hbk h3' f0 e0 cell_x lt_x cell_y froz_y lt_y
                    go_wp2
                    go_roundw
                    case rel => exact ⟨m + 1, some ⟨g', 0, none⟩, c', by omega, by go_num, by rw [HMO.out.1]; exact HF.out⟩
                    case measure => simp [intOf]; omega
                · obtain rfl : m = os.length := by omega
                  have hcu : mapO st.2 (os.take os.length) = mapO st.2 os := by rw [List.take_length]
                  rw [hcu] at hI
                  obtain ⟨Gx, cgx, hbk, _, hg1⟩ := hI.b
                  have cell_y := hbk.cell
                  have froz_y := hbk.frozen
                  have lt_y := hbk.lt
                  have cell_r := hI.r.cell
                  have froz_r := hI.r.frozen
                  have lt_r := hI.r.lt
                  have hlb := hI.lb
                  have hne : bc ≠ w.heap.size + 1 := by omega
                  have hne2 : w.heap.size + 1 ≠ bc := by omega
                  have HI := hid (And.intro hI (And.intro hbk hg1))
                  have hmo : (mapO st.2 os).length = os.length := by simp [mapO]
                  clear hI hbk hg1 hcu hmo
                  go_wp2
                  ((try simp only [Exit.inBlock, Exit.then]); apply bodyPost_ret0; focus ((try simp only [results, Try.results89]); (try go_simp); (try rfl)))
                  rw [HR.out]
                  exact give_k HI.out.1.r (own_weak HI.out.2.2 (by omega)) (own_weak HI.out.1.o (by omega)) HI.out.1.bl (by omega) (by exact tchBy)
        | succ k =>
          obtain rfl : x = (k : Int) := by omega
          clear hxk
          obtain ⟨⟨q, a, b⟩, hg⟩ : ∃ s, gs[k]? = some s := ⟨_, List.getElem?_eq_getElem (by omega)⟩
          have hgv := gatesB_at HV.out hg
          rw [Nat.zero_add] at hgv
          have egd : gs.getD k ⟨0, 0, 0⟩ = ⟨q, a, b⟩ := by rw [List.getD_eq_getElem?_getD, hg]; rfl
          obtain ⟨bg, og, rfl, hBg, d0, d1, d2⟩ := gt_cells HG.out hI.bl hg
          have hbg := hI.bl.size
          have hlt' : (k : Int) < (gs.length : Int) := by omega
          have k00 : (0 : Int) ≤ (k : Int) := by omega
          have hwk : IntKind.i64.wrap ((k : Int) - 1) = (k : Int) - 1 := IntWalk.i64_in _ (by omega)
          rw [liveTo] at hlt2
          have hlt2 := hlt2.symm
          have hgl0 := hI.b.lt
          have hlg := hI.lg
          have HI := hid hI
          clear hI
          have b_30 := (Below.refl wr.heap.size wr)
          have s_30 := b_30.size
          go_upto_region 13 with fail
          refine wp_forget1 (w0 := wr) (B := wr.heap.size) (b0 := wr.heap.size) (t0 := 70) (c0 := #[.int .i64 q, .int .i64 a, .int .i64 b]) ?_ ?_ ?_
          (focus exact blkcBy2)
          (focus (exact belBy))
          intro w31 q_31 hX31
          have sX31 := hX31.size
          have q_lt := q_31.lt
          have b_31 := b_30.trans (hX31.mono (by omega))
          clear b_30 hX31
          have cell_q := q_31.cell
          have froz_q := q_31.frozen
          have lt_q := q_31.lt
          have hr31 := HI.out.b.below b_31
          have HX31 := hid (HI.out.below b_31)
          have HQ31 := hid q_31
          have z31 := b_31.size
          have hg31 := hr31.lt
          obtain ⟨lv, hlv⟩ : ∃ v, L.getD k false = v := ⟨_, rfl⟩
          have ek : w31.cell? ⟨gb, k, none⟩ = some (.bool lv) := hr31.cell (bools_get (by rw [getD_some (L := L) (i := k) (by omega), hlv]))
          have fk := World.ownsRow.frozenAt hr31 k
          clear b_31 q_31 HI hg cell_x d0 d1 d2
          cases lv
          · have hst : liveS gs L k = L := by unfold liveS; rw [if_neg (by rw [hlv]; simp)]
            have HLT := hid (hlt2.trans (by rw [hst]) : liveG gs os = liveTo gs L k)
            clear hst hlt2 hr31 hgv
            go_wp2
            go_roundw
            case rel => exact ⟨k, (k : Int) - 1, L, by omega, rfl, by go_num, hll, HLT.out.symm, HX31.out⟩
            case measure => first | (simp [intOf]; done) | (simp [intOf]; omega)
          · have hls : liveS gs L k = liveP ⟨q, a, b⟩ L := by unfold liveS; rw [if_pos hlv, egd]
            rcases gate_kind hgv with hk2 | hk2 | hk2 | hk2 | hk2
            · obtain rfl : q = 1 := hk2
              have hst : liveS gs L k = L := by rw [hls]; rfl
              have HLT := hid (hlt2.trans (by rw [hst]) : liveG gs os = liveTo gs (L) k)
              clear hst hls hlt2 hgv
              clear hr31
              go_wp2
              go_roundw
              case rel => exact ⟨k, (k : Int) - 1, L, by omega, rfl, by go_num, hll, HLT.out.symm, HX31.out⟩
              case measure => first | (simp [intOf]; done) | (simp [intOf]; omega)
            · obtain rfl : q = 2 := hk2
              have hst : liveS gs L k = L := by rw [hls]; rfl
              have HLT := hid (hlt2.trans (by rw [hst]) : liveG gs os = liveTo gs (L) k)
              clear hst hls hlt2 hgv
              clear hr31
              go_wp2
              go_roundw
              case rel => exact ⟨k, (k : Int) - 1, L, by omega, rfl, by go_num, hll, HLT.out.symm, HX31.out⟩
              case measure => first | (simp [intOf]; done) | (simp [intOf]; omega)
            · obtain rfl : q = 3 := hk2
              have hab := gate_is34 hgv (.inl rfl)
              dsimp only at hab
              obtain ⟨a, rfl⟩ := Int.eq_ofNat_of_zero_le hab.1.1
              obtain ⟨b, rfl⟩ := Int.eq_ofNat_of_zero_le hab.2.1
              have hst : liveS gs L k = ((L.set a true).set b true) := by rw [hls]; rfl
              have HLT := hid (hlt2.trans (by rw [hst]) : liveG gs os = liveTo gs ((L.set a true).set b true) k)
              clear hst hls hlt2 hgv
              have fa := hr31.cell (bools_get (getD_some (L := L) (i := a) (by omega)))
              have za := World.ownsRow.frozenAt hr31 a
              have ha' : (a : Int) < (gs.length : Int) := by omega
              have HR31 := hid hr31
              clear hr31
              go_upto_region 15 with fail
              clear fa za ek fk
              refine wp_mark HR31.out a true ?_
              intro w32 r32 g32
              have hx32 := HX31.out.mark r32 g32
              have hq32 := HQ31.out.grown g32 (fun e => by injection e with e; omega)
              have cell_q2 := hq32.cell
              have lt_q2 := hq32.lt
              have hg32 := r32.lt
              have fb := r32.cell (bools_get (getD_some (L := L.set a true) (i := b) (by rw [List.length_set]; omega)))
              have zb := World.ownsRow.frozenAt r32 b
              have hb' : (b : Int) < (gs.length : Int) := by omega
              obtain ⟨s1, s2⟩ := r32.set_ b true
              have HN := hid (hx32.mark s1 s2)
              clear s1 s2
              clear r32 g32 hx32 hq32 cell_q
              go_wp2
              go_roundw
              case rel => exact ⟨k, (k : Int) - 1, ((L.set a true).set b true), by omega, rfl, by go_num, by simp [hll], HLT.out.symm, HN.out⟩
              case measure => first | (simp [intOf]; done) | (simp [intOf]; omega)
            · obtain rfl : q = 4 := hk2
              have hab := gate_is34 hgv (.inr rfl)
              dsimp only at hab
              obtain ⟨a, rfl⟩ := Int.eq_ofNat_of_zero_le hab.1.1
              obtain ⟨b, rfl⟩ := Int.eq_ofNat_of_zero_le hab.2.1
              have hst : liveS gs L k = ((L.set a true).set b true) := by rw [hls]; rfl
              have HLT := hid (hlt2.trans (by rw [hst]) : liveG gs os = liveTo gs ((L.set a true).set b true) k)
              clear hst hls hlt2 hgv
              have fa := hr31.cell (bools_get (getD_some (L := L) (i := a) (by omega)))
              have za := World.ownsRow.frozenAt hr31 a
              have ha' : (a : Int) < (gs.length : Int) := by omega
              have HR31 := hid hr31
              clear hr31
              go_upto_region 15 with fail
              clear fa za ek fk
              refine wp_mark HR31.out a true ?_
              intro w32 r32 g32
              have hx32 := HX31.out.mark r32 g32
              have hq32 := HQ31.out.grown g32 (fun e => by injection e with e; omega)
              have cell_q2 := hq32.cell
              have lt_q2 := hq32.lt
              have hg32 := r32.lt
              have fb := r32.cell (bools_get (getD_some (L := L.set a true) (i := b) (by rw [List.length_set]; omega)))
              have zb := World.ownsRow.frozenAt r32 b
              have hb' : (b : Int) < (gs.length : Int) := by omega
              obtain ⟨s1, s2⟩ := r32.set_ b true
              have HN := hid (hx32.mark s1 s2)
              clear s1 s2
              clear r32 g32 hx32 hq32 cell_q
              go_wp2
              go_roundw
              case rel => exact ⟨k, (k : Int) - 1, ((L.set a true).set b true), by omega, rfl, by go_num, by simp [hll], HLT.out.symm, HN.out⟩
              case measure => first | (simp [intOf]; done) | (simp [intOf]; omega)
            · obtain rfl : q = 5 := hk2
              have hab := gate_is5 hgv rfl
              dsimp only at hab
              obtain ⟨hab, hb0⟩ := hab
              subst hb0
              obtain ⟨a, rfl⟩ := Int.eq_ofNat_of_zero_le hab.1
              have hst : liveS gs L k = (L.set a true) := by rw [hls]; rfl
              have HLT := hid (hlt2.trans (by rw [hst]) : liveG gs os = liveTo gs (L.set a true) k)
              clear hst hls hlt2 hgv
              have fa := hr31.cell (bools_get (getD_some (L := L) (i := a) (by omega)))
              have za := World.ownsRow.frozenAt hr31 a
              have ha' : (a : Int) < (gs.length : Int) := by omega
              have HR31 := hid hr31
              clear hr31
              go_upto_region 15 with fail
              clear fa za ek fk
              refine wp_mark HR31.out a true ?_
              intro w32 r32 g32
              have hx32 := HX31.out.mark r32 g32
              have hq32 := HQ31.out.grown g32 (fun e => by injection e with e; omega)
              have cell_q2 := hq32.cell
              have lt_q2 := hq32.lt
              have hg32 := r32.lt
              have HN := hid hx32
              clear r32 g32 hx32 hq32 cell_q
              go_wp2
              go_roundw
              case rel => exact ⟨k, (k : Int) - 1, (L.set a true), by omega, rfl, by go_num, by simp [hll], HLT.out.symm, HN.out⟩
              case measure => first | (simp [intOf]; done) | (simp [intOf]; omega)
end Go.Proofs.Ytihbaieiempjeaa
/- Optimize, the gates' count, the costs, on both sides. -/
namespace Go.Proofs.Ytihbaieiempjeaa
open Go.RowKit

/- In this text: blkcBy2. -/
theorem simp_outs (gs : List Gt) (os : List Int) : (simpC gs os).2.length = os.length := by
  unfold simpC
  split
  · simp [mapO]
  · rfl
theorem prun_outs (gs : List Gt) (os : List Int) : (prunC gs os).2.length = os.length := by
  unfold prunC
  split
  · simp [mapO]
  · rfl
def cntG (gs : List Gt) (k : Int) : Nat := (gs.filter (fun g => g.k == k)).length
theorem cntG_le (gs : List Gt) (k : Int) : cntG gs k ≤ gs.length := List.length_filter_le _ _
theorem cntG_at {gs : List Gt} {k : Int} {j : Nat} {g : Gt} (h : gs[j]? = some g) : cntG (gs.take (j + 1)) k = cntG (gs.take j) k + (if (g.k == k) = true then 1 else 0) := by
  obtain ⟨hl, e⟩ := List.getElem?_eq_some_iff.1 h
  unfold cntG
  rw [List.take_succ_eq_append_getElem hl, List.filter_append, List.length_append, e]
  cases hk : (g.k == k) <;> simp [List.filter, hk]
/-- A program's cost. -/
noncomputable def costV (L : List St) : Value := if unrB L = true then .agg #[.int .i64 2, .int .i64 0, .int .i64 0, .int .i64 (2 * (cntG (optC (compL L).g (compL L).o).1 4 : Int))] else .agg #[.int .i64 0, .int .i64 0, .int .i64 0, .int .i64 0]
theorem comp_okc (L : List St) (hu : unrB L = true) : circB (compL L).g (compL L).o = true := by
  rw [comp_yes hu]
  have h := comp_ok L
  have h2 := unrL_len L
  have h3 := h.hi
  unfold circB
  rw [h.g, h.o, decide_eq_true (by omega)]
  rfl
theorem comp_outs (L : List St) : (compL L).o.length ≤ 1000000 := by
  unfold compL
  split
  · have h := (comp_ok L).oh
    have h2 := unrL_len L
    omega
  · exact Nat.zero_le _
set_option linter.unusedVariables false in
set_option maxRecDepth 100000 in
set_option maxHeartbeats 3200000 in
theorem iOptimize (G O : Option Addr) (cg co : Nat) (gs : List Gt) (os : List Int) (w : World) (hg : Cells w w.heap.size G (ints (flatG gs))) (ho : Cells w w.heap.size O (ints os)) (hok : circB gs os = true) (hm : os.length ≤ 1000000) :
    Calls Try.prog 48 #[.agg #[.slice G gs.length cg, .slice O os.length co]] w (GivesK w (optC gs os).1 (optC gs os).2) := by
  have H1 := hid (fun w hg ho => iSimplify G O cg co gs os w hg ho hok hm)
  have hs := simp_valid hok
  have hl : (simpC gs os).2.length = os.length := simp_outs gs os
  have H2 := hid (fun G O cg co w hg ho => iPrune G O cg co (simpC gs os).1 (simpC gs os).2 w hg ho hs (by omega))
  rw [show optC gs os = prunC (simpC gs os).1 (simpC gs os).2 from rfl]
  have HG := hid hg
  have HO := hid ho
  obtain ⟨R, hR⟩ : ∃ k, prunC (simpC gs os).1 (simpC gs os).2 = k := ⟨_, rfl⟩
  rw [hR] at H2 ⊢
  obtain ⟨K, hK⟩ : ∃ k, simpC gs os = k := ⟨_, rfl⟩
  rw [hK] at H1 H2
  clear hs hl hg ho hok hR hK
  go_enter Try.func48, Try.ntmps48
  have b_0 := (Below.refl w.heap.size w)
  have s_0 := b_0.size
  go_upto_region 1 with fail
  refine wp_forget2 (w0 := w) (B := w.heap.size) (b0 := w.heap.size) (t0 := 27) (c0 := #[.slice G gs.length cg, .slice O os.length co]) (b1 := w.heap.size + 1) (t1 := 27) (c1 := #[.slice none 0 0, .slice none 0 0]) ?_ ?_ ?_ ?_
  (focus exact blkcBy2)
  (focus exact blkcBy2)
  (focus (exact belBy))
  intro w1 x_1 r_1 hX1
  have sX1 := hX1.size
  have x_lt := x_1.lt
  have r_lt := r_1.lt
  have b_1 := b_0.trans (hX1.mono (by omega))
  clear b_0 hX1
  have cell_x := x_1.cell
  have froz_x := x_1.frozen
  have lt_x := x_1.lt
  have cell_r := r_1.cell
  have froz_r := r_1.frozen
  have lt_r := r_1.lt
  have H0 := hid (And.intro r_1 b_1)
  have z1 := b_1.size
  have hrl := r_1.lt
  have hg1 := (HG.out.below b_1).more (B' := w1.heap.size) (by omega)
  have ho1 := (HO.out.below b_1).more (B' := w1.heap.size) (by omega)
  have HGO := hid (And.intro hg1 ho1)
  clear x_1 r_1 b_1 cell_r froz_r lt_r froz_x hg1 ho1
  go_wp2_with fail
  refine Calls.mono (H1.out _ HGO.out.1 HGO.out.2) ?_
  rintro e w2 ⟨G2, cg2, O2, co2, rfl, h1, h2, hb⟩
  have HB2 := hid (And.intro (H0.out.1.past hb) (H0.out.2.trans (hb.mono z1)))
  have HC2 := hid (And.intro (Cells.of_own h1) (Cells.of_own h2))
  have z2 := hb.size
  clear h1 h2 hb cell_x lt_x H0 HGO
  go_wp2_with fail
  refine Calls.mono (H2.out _ _ _ _ _ HC2.out.1 HC2.out.2) ?_
  rintro e w3 ⟨G3, cg3, O3, co3, rfl, h1, h2, hb⟩
  have hr3 := HB2.out.1.past hb
  have z3 := hb.size
  have hb3 := HB2.out.2.trans (hb.mono (by omega))
  have HF := hid (And.intro hr3 (And.intro h1 (And.intro h2 hb3)))
  have cell_r := hr3.cell
  have froz_r := hr3.frozen
  have lt_r := hr3.lt
  clear h1 h2 hb hr3 hb3 HB2 HC2
  go_wp2
  ((try simp only [Exit.inBlock, Exit.then]); apply bodyPost_ret0; focus ((try simp only [results, Try.results48]); (try go_simp); (try rfl)))
  exact give_k HF.out.1 (own_weak HF.out.2.1 (by omega)) (own_weak HF.out.2.2.1 (by omega)) HF.out.2.2.2 (by omega) (by exact tchBy)
set_option linter.unusedVariables false in
set_option maxRecDepth 100000 in
set_option maxHeartbeats 3200000 in
theorem iCount (G O : Option Addr) (cg co : Nat) (gs : List Gt) (os : List Int) (k : Int) (w : World) (hg : Cells w w.heap.size G (ints (flatG gs))) (hn : gs.length ≤ 1000000) :
    Calls Try.prog 29 #[.agg #[.slice G gs.length cg, .slice O os.length co], .int .i64 k] w fun e w' => e = .returned (.int .i64 (cntG gs k : Int)) ∧ Below w.heap.size w w' := by
  have HG := hid hg
  clear hg
  go_enter Try.func29, Try.ntmps29
  have b_0 := (Below.refl w.heap.size w)
  have s_0 := b_0.size
  go_upto_region 2 with fail
  refine wp_forget1 (w0 := w) (B := w.heap.size) (b0 := w.heap.size) (t0 := 27) (c0 := #[.slice G gs.length cg, .slice O os.length co]) ?_ ?_ ?_
  (focus exact blkcBy2)
  (focus (exact belBy))
  intro w1 x_1 hX1
  have sX1 := hX1.size
  have x_lt := x_1.lt
  have b_1 := b_0.trans (hX1.mono (by omega))
  clear b_0 hX1
  have cell_x := x_1.cell
  have froz_x := x_1.frozen
  have lt_x := x_1.lt
  have H0 := hid (And.intro x_1 b_1)
  have z1 := b_1.size
  clear x_1 b_1
  go_wp2_with fail
  go_loopw [5, 7, 11] (fun c _ i wr => ∃ j : Nat, j ≤ gs.length ∧ i = .int .i64 (j : Int) ∧ c = .int .i64 (cntG (gs.take j) k : Int) ∧ Blk wr w.heap.size TS #[.slice G gs.length cg, .slice O os.length co] ∧ Below w.heap.size w wr) (fun _ _ i _ => gs.length - (intOf i).toNat)
  case atStart => exact ⟨0, Nat.zero_le _, rfl, rfl, H0.out.1, H0.out.2⟩
  case round =>
    clear H0
    obtain ⟨j, hj, rfl, rfl, hx, hb⟩ := hrel
    have cell_x := hx.cell
    have lt_x := hx.lt
    by_cases hlt : j < gs.length
    · obtain ⟨⟨q, a, b⟩, hgj⟩ : ∃ s, gs[j]? = some s := ⟨_, List.getElem?_eq_getElem hlt⟩
      obtain ⟨bg, og, rfl, hBg, d0, d1, d2⟩ := gt_cells HG.out hb hgj
      have hbg := hb.size
      have hc := cntG_at (k := k) hgj
      have hcl := cntG_le (gs.take j) k
      have htl : (gs.take j).length ≤ gs.length := by rw [List.length_take]; omega
      have hlt' : (j : Int) < (gs.length : Int) := by omega
      have j00 : (0 : Int) ≤ (j : Int) := by omega
      obtain ⟨c, hcn⟩ : ∃ c, cntG (gs.take j) k = c := ⟨_, rfl⟩
      rw [hcn] at hc hcl ⊢
      obtain ⟨v, hv⟩ : ∃ v, (q == k) = v := ⟨_, rfl⟩
      dsimp only at hc
      rw [hv] at hc
      have HC := hid hc
      have HN := hid (And.intro hx hb)
      have hc9 : c ≤ 1000000 := by omega
      clear hgj hc hcl htl hcn hx hb
      cases v
      all_goals
        go_wp2
        go_roundw
        case rel => exact ⟨j + 1, by omega, by go_num, by rw [HC.out]; first | rfl | (simp; done) | (congr 1), HN.out.1.past (by exact belBy), HN.out.2.trans (Below.mono (by exact belBy) hbg)⟩
        case measure => simp [intOf]; omega
    · obtain rfl : j = gs.length := by omega
      have HN := hid hb
      clear hx hb
      rw [List.take_length]
      go_wp2
      go_ret
      exact ⟨rfl, HN.out⟩
set_option linter.unusedVariables false in
set_option maxRecDepth 100000 in
set_option maxHeartbeats 3200000 in
theorem iGarbled (G O : Option Addr) (cg co : Nat) (gs : List Gt) (os : List Int) (w : World) (hg : Cells w w.heap.size G (ints (flatG gs))) (ho : Cells w w.heap.size O (ints os)) (hok : circB gs os = true) (hm : os.length ≤ 1000000) :
    Calls Try.prog 8 #[.agg #[.slice G gs.length cg, .slice O os.length co]] w fun e w' => e = .returned (.agg #[.int .i64 2, .int .i64 0, .int .i64 0, .int .i64 (2 * (cntG gs 4 : Int))]) ∧ Below w.heap.size w w' := by
  obtain ⟨hn6, hgv, hov⟩ := circ_parts hok
  have HK := hid (fun w hg ho => iCircOk G O cg co gs os w hg ho (by omega) hm)
  rw [hok] at HK
  have HN := hid (fun w hg => iCount G O cg co gs os 4 w hg (by omega))
  have hc := cntG_le gs 4
  obtain ⟨c, hcn⟩ : ∃ c, cntG gs 4 = c := ⟨_, rfl⟩
  rw [hcn] at hc HN ⊢
  have hw : IntKind.i64.wrap (2 * (c : Int)) = 2 * (c : Int) := IntWalk.i64_in _ (by omega)
  have HG := hid hg
  have HO := hid ho
  clear hgv hov hok hg ho hcn
  go_enter Try.func8, Try.ntmps8
  have b_0 := (Below.refl w.heap.size w)
  have s_0 := b_0.size
  go_upto_region 1 with fail
  refine wp_forget2 (w0 := w) (B := w.heap.size) (b0 := w.heap.size) (t0 := 27) (c0 := #[.slice G gs.length cg, .slice O os.length co]) (b1 := w.heap.size + 1) (t1 := 33) (c1 := #[.int .i64 0, .int .i64 0, .int .i64 0, .int .i64 0]) ?_ ?_ ?_ ?_
  (focus exact blkcBy2)
  (focus exact blkcBy2)
  (focus (exact belBy))
  intro w1 x_1 r_1 hX1
  have sX1 := hX1.size
  have x_lt := x_1.lt
  have r_lt := r_1.lt
  have b_1 := b_0.trans (hX1.mono (by omega))
  clear b_0 hX1
  have cell_x := x_1.cell
  have froz_x := x_1.frozen
  have lt_x := x_1.lt
  have cell_r := r_1.cell
  have froz_r := r_1.frozen
  have lt_r := r_1.lt
  go_wp2_with fail
  refine calls_forget0 (W := w1) ?_ ?_
  (focus (exact belBy))
  intro X2 hX2
  have sX2 := hX2.size
  refine (HK.out _ ((HG.out.below (b_1.trans (hX2.mono (by omega)))).more (by omega)) ((HO.out.below (b_1.trans (hX2.mono (by omega)))).more (by omega))).mono ?_
  rintro e w2 ⟨rfl, hb2⟩
  have s2 := hb2.size
  have hT2 := hX2.trans (hb2.mono sX2)
  have b_2 := b_1.trans (hT2.mono (by omega))
  have x_2 := Blk.past hT2 x_1
  have r_2 := Blk.past hT2 r_1
  clear x_1 r_1 b_1 cell_x froz_x lt_x cell_r froz_r lt_r hX2 hT2 hb2
  have cell_x := x_2.cell
  have froz_x := x_2.frozen
  have lt_x := x_2.lt
  have cell_r := r_2.cell
  have froz_r := r_2.frozen
  have lt_r := r_2.lt
  go_wp2_with fail
  refine calls_forget0 (W := w2) ?_ ?_
  (focus (exact belBy))
  intro X3 hX3
  have sX3 := hX3.size
  refine (HN.out _ ((HG.out.below (b_2.trans (hX3.mono (by omega)))).more (by omega))).mono ?_
  rintro e w3 ⟨rfl, hb3⟩
  have s3 := hb3.size
  have hT3 := hX3.trans (hb3.mono sX3)
  have b_3 := b_2.trans (hT3.mono (by omega))
  have x_3 := Blk.past hT3 x_2
  have r_3 := Blk.past hT3 r_2
  clear x_2 r_2 b_2 cell_x froz_x lt_x cell_r froz_r lt_r hX3 hT3 hb3
  have cell_x := x_3.cell
  have froz_x := x_3.frozen
  have lt_x := x_3.lt
  have cell_r := r_3.cell
  have froz_r := r_3.frozen
  have lt_r := r_3.lt
  go_wp2
  ((try simp only [Exit.inBlock, Exit.then]); apply bodyPost_ret0; focus ((try simp only [results, Try.results8]); (try go_simp); (try rfl)))
  refine ⟨rfl, ?_⟩
  exact belBy
set_option linter.unusedVariables false in
set_option maxRecDepth 100000 in
set_option maxHeartbeats 3200000 in
theorem iProgCost (A : Option Addr) (c : Nat) (L : List St) (w : World) (hc : Cells w w.heap.size A (ints (flatS L))) (hn : L.length ≤ 1000000000) (hcap : L.length ≤ c) :
    Calls Try.prog 18 #[.slice A L.length c] w fun e w' => e = .returned (costV L) ∧ Below w.heap.size w w' := by
  have HU := hid (fun w hc => iCompile A c L w hc hn hcap)
  have hok := comp_okc L
  have hol := comp_outs L
  have HC := hid hc
  cases hu : unrB L
  · have HV := hid (show costV L = .agg #[.int .i64 0, .int .i64 0, .int .i64 0, .int .i64 0] by unfold costV; rw [hu]; rfl)
    rw [HV.out]
    rw [hu] at HU
    clear hc hok hol hu HV
    go_enter Try.func18, Try.ntmps18
    have b_0 := (Below.refl w.heap.size w)
    have s_0 := b_0.size
    go_upto_region 1 with fail
    refine wp_forget1 (w0 := w) (B := w.heap.size) (b0 := w.heap.size) (t0 := 33) (c0 := #[.int .i64 0, .int .i64 0, .int .i64 0, .int .i64 0]) ?_ ?_ ?_
    (focus exact blkcBy2)
    (focus (exact belBy))
    intro w1 r_1 hX1
    have sX1 := hX1.size
    have r_lt := r_1.lt
    have b_1 := b_0.trans (hX1.mono (by omega))
    clear b_0 hX1
    have cell_r := r_1.cell
    have froz_r := r_1.frozen
    have lt_r := r_1.lt
    have H1 := hid (And.intro r_1 b_1)
    have z1 := b_1.size
    have hc1 := hid ((HC.out.below b_1).more (B' := w1.heap.size) (by omega))
    clear r_1 b_1 cell_r froz_r lt_r
    go_wp2_with fail
    refine Calls.mono (HU.out _ hc1.out) ?_
    rintro e w2 ⟨G, cg, O, co, rfl, h1, h2, hb⟩
    have hr2 := H1.out.1.past hb
    have hb2 := H1.out.2.trans (hb.mono z1)
    have cell_r := hr2.cell
    have froz_r := hr2.frozen
    have lt_r := hr2.lt
    have z2 := hb.size
    clear h1 h2 hb H1 hc1
    go_wp2
    ((try simp only [Exit.inBlock, Exit.then]); apply bodyPost_ret0; focus ((try simp only [results, Try.results18]); (try go_simp); (try rfl)))
    refine ⟨rfl, ?_⟩
    exact belBy
  · have hv : circB (compL L).g (compL L).o = true := hok hu
    have HV := hid (show costV L = .agg #[.int .i64 2, .int .i64 0, .int .i64 0, .int .i64 (2 * (cntG (optC (compL L).g (compL L).o).1 4 : Int))] by unfold costV; rw [hu]; rfl)
    rw [HV.out]
    rw [hu] at HU
    have HO := hid (fun G O cg co w hg ho => iOptimize G O cg co (compL L).g (compL L).o w hg ho hv (by omega))
    have hpl : (optC (compL L).g (compL L).o).2.length ≤ 1000000 := by
      have h1 := prun_outs (simpC (compL L).g (compL L).o).1 (simpC (compL L).g (compL L).o).2
      have h2 := simp_outs (compL L).g (compL L).o
      show (prunC _ _).2.length ≤ 1000000
      omega
    have HK := hid (fun G O cg co w hg ho => iGarbled G O cg co (optC (compL L).g (compL L).o).1 (optC (compL L).g (compL L).o).2 w hg ho (opt_valid hv) hpl)
    obtain ⟨R, hR⟩ : ∃ r, optC (compL L).g (compL L).o = r := ⟨_, rfl⟩
    rw [hR] at HO HK ⊢
    obtain ⟨K, hK⟩ : ∃ r, compL L = r := ⟨_, rfl⟩
    rw [hK] at HO HU
    clear hc hok hol hu HV hv hpl hR hK
    go_enter Try.func18, Try.ntmps18
    have b_0 := (Below.refl w.heap.size w)
    have s_0 := b_0.size
    go_upto_region 1 with fail
    refine wp_forget1 (w0 := w) (B := w.heap.size) (b0 := w.heap.size) (t0 := 33) (c0 := #[.int .i64 0, .int .i64 0, .int .i64 0, .int .i64 0]) ?_ ?_ ?_
    (focus exact blkcBy2)
    (focus (exact belBy))
    intro w1 r_1 hX1
    have sX1 := hX1.size
    have r_lt := r_1.lt
    have b_1 := b_0.trans (hX1.mono (by omega))
    clear b_0 hX1
    have cell_r := r_1.cell
    have froz_r := r_1.frozen
    have lt_r := r_1.lt
    have H1 := hid (And.intro r_1 b_1)
    have z1 := b_1.size
    have hrl := r_1.lt
    have hc1 := hid ((HC.out.below b_1).more (B' := w1.heap.size) (by omega))
    clear r_1 b_1 cell_r froz_r lt_r
    go_wp2_with fail
    refine Calls.mono (HU.out _ hc1.out) ?_
    rintro e w2 ⟨G, cg, O, co, rfl, h1, h2, hb⟩
    have H2 := hid (And.intro (H1.out.1.past hb) (And.intro (H1.out.2.trans (hb.mono z1)) (And.intro (Cells.of_own h1) (Cells.of_own h2))))
    have z2 := hb.size
    clear h1 h2 hb H1 hc1 HU
    have b_2 := (Below.refl w2.heap.size w2)
    have s_2 := b_2.size
    go_upto_region 2 with fail
    refine wp_forget1 (w0 := w2) (B := w2.heap.size) (b0 := w2.heap.size) (t0 := 27) (c0 := #[.slice G K.g.length cg, .slice O K.o.length co]) ?_ ?_ ?_
    (focus exact blkcBy2)
    (focus (exact belBy))
    intro w3 x_3 hX3
    have sX3 := hX3.size
    have x_lt := x_3.lt
    have b_3 := b_2.trans (hX3.mono (by omega))
    clear b_2 hX3
    have cell_x := x_3.cell
    have froz_x := x_3.frozen
    have lt_x := x_3.lt
    have H3 := hid (And.intro (H2.out.1.past b_3) (And.intro (H2.out.2.1.trans (b_3.mono (by omega))) (And.intro ((H2.out.2.2.1.below b_3).more (B' := w3.heap.size) (by omega)) ((H2.out.2.2.2.below b_3).more (B' := w3.heap.size) (by omega)))))
    have z3 := b_3.size
    clear x_3 b_3 H2 froz_x
    go_wp2_with fail
    refine Calls.mono (HO.out _ _ _ _ _ H3.out.2.2.1 H3.out.2.2.2) ?_
    rintro e w4 ⟨G4, cg4, O4, co4, rfl, h1, h2, hb⟩
    have H4 := hid (And.intro (H3.out.1.past hb) (And.intro (H3.out.2.1.trans (hb.mono (by omega))) (And.intro (Cells.of_own h1) (Cells.of_own h2))))
    have z4 := hb.size
    clear h1 h2 hb H3 cell_x lt_x HO
    go_wp2_with fail
    refine Calls.mono (HK.out _ _ _ _ _ H4.out.2.2.1 H4.out.2.2.2) ?_
    rintro e w5 ⟨rfl, hb⟩
    have hr5 := H4.out.1.past hb
    have hb5 := H4.out.2.1.trans (hb.mono (by omega))
    have z5 := hb.size
    have cell_r := hr5.cell
    have froz_r := hr5.frozen
    have lt_r := hr5.lt
    clear hb H4 HK
    go_wp2
    ((try simp only [Exit.inBlock, Exit.then]); apply bodyPost_ret0; focus ((try simp only [results, Try.results18]); (try go_simp); (try rfl)))
    refine ⟨rfl, ?_⟩
    exact belBy
set_option linter.unusedVariables false in
set_option maxRecDepth 100000 in
set_option maxHeartbeats 3200000 in
theorem sOptimize (G O : Option Addr) (cg co : Nat) (gs : List Gt) (os : List Int) (w : World) (hg : Cells w w.heap.size G (ints (flatG gs))) (ho : Cells w w.heap.size O (ints os)) (hok : circB gs os = true) (hm : os.length ≤ 1000000) :
    Calls Try.prog 15 #[.agg #[.slice G gs.length cg, .slice O os.length co]] w (GivesK w (optC gs os).1 (optC gs os).2) := by
  have H1 := hid (fun w hg ho => sSimplify G O cg co gs os w hg ho hok hm)
  have hs := simp_valid hok
  have hl : (simpC gs os).2.length = os.length := simp_outs gs os
  have H2 := hid (fun G O cg co w hg ho => sPrune G O cg co (simpC gs os).1 (simpC gs os).2 w hg ho hs (by omega))
  rw [show optC gs os = prunC (simpC gs os).1 (simpC gs os).2 from rfl]
  have HG := hid hg
  have HO := hid ho
  obtain ⟨R, hR⟩ : ∃ k, prunC (simpC gs os).1 (simpC gs os).2 = k := ⟨_, rfl⟩
  rw [hR] at H2 ⊢
  obtain ⟨K, hK⟩ : ∃ k, simpC gs os = k := ⟨_, rfl⟩
  rw [hK] at H1 H2
  clear hs hl hg ho hok hR hK
  go_enter Try.func15, Try.ntmps15
  have b_0 := (Below.refl w.heap.size w)
  have s_0 := b_0.size
  go_upto_region 1 with fail
  refine wp_forget2 (w0 := w) (B := w.heap.size) (b0 := w.heap.size) (t0 := 27) (c0 := #[.slice G gs.length cg, .slice O os.length co]) (b1 := w.heap.size + 1) (t1 := 27) (c1 := #[.slice none 0 0, .slice none 0 0]) ?_ ?_ ?_ ?_
  (focus exact blkcBy2)
  (focus exact blkcBy2)
  (focus (exact belBy))
  intro w1 x_1 r_1 hX1
  have sX1 := hX1.size
  have x_lt := x_1.lt
  have r_lt := r_1.lt
  have b_1 := b_0.trans (hX1.mono (by omega))
  clear b_0 hX1
  have cell_x := x_1.cell
  have froz_x := x_1.frozen
  have lt_x := x_1.lt
  have cell_r := r_1.cell
  have froz_r := r_1.frozen
  have lt_r := r_1.lt
  have H0 := hid (And.intro r_1 b_1)
  have z1 := b_1.size
  have hrl := r_1.lt
  have hg1 := (HG.out.below b_1).more (B' := w1.heap.size) (by omega)
  have ho1 := (HO.out.below b_1).more (B' := w1.heap.size) (by omega)
  have HGO := hid (And.intro hg1 ho1)
  clear x_1 r_1 b_1 cell_r froz_r lt_r froz_x hg1 ho1
  go_wp2_with fail
  refine Calls.mono (H1.out _ HGO.out.1 HGO.out.2) ?_
  rintro e w2 ⟨G2, cg2, O2, co2, rfl, h1, h2, hb⟩
  have HB2 := hid (And.intro (H0.out.1.past hb) (H0.out.2.trans (hb.mono z1)))
  have HC2 := hid (And.intro (Cells.of_own h1) (Cells.of_own h2))
  have z2 := hb.size
  clear h1 h2 hb cell_x lt_x H0 HGO
  go_wp2_with fail
  refine Calls.mono (H2.out _ _ _ _ _ HC2.out.1 HC2.out.2) ?_
  rintro e w3 ⟨G3, cg3, O3, co3, rfl, h1, h2, hb⟩
  have hr3 := HB2.out.1.past hb
  have z3 := hb.size
  have hb3 := HB2.out.2.trans (hb.mono (by omega))
  have HF := hid (And.intro hr3 (And.intro h1 (And.intro h2 hb3)))
  have cell_r := hr3.cell
  have froz_r := hr3.frozen
  have lt_r := hr3.lt
  clear h1 h2 hb hr3 hb3 HB2 HC2
  go_wp2
  ((try simp only [Exit.inBlock, Exit.then]); apply bodyPost_ret0; focus ((try simp only [results, Try.results15]); (try go_simp); (try rfl)))
  exact give_k HF.out.1 (own_weak HF.out.2.1 (by omega)) (own_weak HF.out.2.2.1 (by omega)) HF.out.2.2.2 (by omega) (by exact tchBy)
set_option linter.unusedVariables false in
set_option maxRecDepth 100000 in
set_option maxHeartbeats 3200000 in
theorem sCount (G O : Option Addr) (cg co : Nat) (gs : List Gt) (os : List Int) (k : Int) (w : World) (hg : Cells w w.heap.size G (ints (flatG gs))) (hn : gs.length ≤ 1000000) :
    Calls Try.prog 16 #[.agg #[.slice G gs.length cg, .slice O os.length co], .int .i64 k] w fun e w' => e = .returned (.int .i64 (cntG gs k : Int)) ∧ Below w.heap.size w w' := by
  have HG := hid hg
  clear hg
  go_enter Try.func16, Try.ntmps16
  have b_0 := (Below.refl w.heap.size w)
  have s_0 := b_0.size
  go_upto_region 2 with fail
  refine wp_forget1 (w0 := w) (B := w.heap.size) (b0 := w.heap.size) (t0 := 27) (c0 := #[.slice G gs.length cg, .slice O os.length co]) ?_ ?_ ?_
  (focus exact blkcBy2)
  (focus (exact belBy))
  intro w1 x_1 hX1
  have sX1 := hX1.size
  have x_lt := x_1.lt
  have b_1 := b_0.trans (hX1.mono (by omega))
  clear b_0 hX1
  have cell_x := x_1.cell
  have froz_x := x_1.frozen
  have lt_x := x_1.lt
  have H0 := hid (And.intro x_1 b_1)
  have z1 := b_1.size
  clear x_1 b_1
  go_wp2_with fail
  go_loopw [5, 6] (fun c i wr => ∃ j : Nat, j ≤ gs.length ∧ i = .int .i64 (j : Int) ∧ c = .int .i64 (cntG (gs.take j) k : Int) ∧ Blk wr w.heap.size TS #[.slice G gs.length cg, .slice O os.length co] ∧ Below w.heap.size w wr) (fun _ i _ => gs.length - (intOf i).toNat)
  case atStart => exact ⟨0, Nat.zero_le _, rfl, rfl, H0.out.1, H0.out.2⟩
  case round =>
    clear H0
    obtain ⟨j, hj, rfl, rfl, hx, hb⟩ := hrel
    have cell_x := hx.cell
    have lt_x := hx.lt
    by_cases hlt : j < gs.length
    · obtain ⟨⟨q, a, b⟩, hgj⟩ : ∃ s, gs[j]? = some s := ⟨_, List.getElem?_eq_getElem hlt⟩
      obtain ⟨bg, og, rfl, hBg, d0, d1, d2⟩ := gt_cells HG.out hb hgj
      have hbg := hb.size
      have hc := cntG_at (k := k) hgj
      have hcl := cntG_le (gs.take j) k
      have htl : (gs.take j).length ≤ gs.length := by rw [List.length_take]; omega
      have hlt' : (j : Int) < (gs.length : Int) := by omega
      have j00 : (0 : Int) ≤ (j : Int) := by omega
      obtain ⟨c, hcn⟩ : ∃ c, cntG (gs.take j) k = c := ⟨_, rfl⟩
      rw [hcn] at hc hcl ⊢
      obtain ⟨v, hv⟩ : ∃ v, (q == k) = v := ⟨_, rfl⟩
      dsimp only at hc
      rw [hv] at hc
      have HC := hid hc
      have HN := hid (And.intro hx hb)
      have hc9 : c ≤ 1000000 := by omega
      clear hgj hc hcl htl hcn hx hb
      cases v
      all_goals
        go_wp2
        go_roundw
        case rel => exact ⟨j + 1, by omega, by go_num, by rw [HC.out]; first | rfl | (simp; done) | (congr 1), HN.out.1, HN.out.2⟩
        case measure => simp [intOf]; omega
    · obtain rfl : j = gs.length := by omega
      have HN := hid hb
      clear hx hb
      rw [List.take_length]
      go_wp2
      go_ret
      exact ⟨rfl, HN.out⟩
set_option linter.unusedVariables false in
set_option maxRecDepth 100000 in
set_option maxHeartbeats 3200000 in
theorem sGarbled (G O : Option Addr) (cg co : Nat) (gs : List Gt) (os : List Int) (w : World) (hg : Cells w w.heap.size G (ints (flatG gs))) (ho : Cells w w.heap.size O (ints os)) (hok : circB gs os = true) (hm : os.length ≤ 1000000) :
    Calls Try.prog 49 #[.agg #[.slice G gs.length cg, .slice O os.length co]] w fun e w' => e = .returned (.agg #[.int .i64 2, .int .i64 0, .int .i64 0, .int .i64 (2 * (cntG gs 4 : Int))]) ∧ Below w.heap.size w w' := by
  obtain ⟨hn6, hgv, hov⟩ := circ_parts hok
  have HK := hid (fun w hg ho => sCircOk G O cg co gs os w hg ho (by omega) hm)
  rw [hok] at HK
  have HN := hid (fun w hg => sCount G O cg co gs os 4 w hg (by omega))
  have hc := cntG_le gs 4
  obtain ⟨c, hcn⟩ : ∃ c, cntG gs 4 = c := ⟨_, rfl⟩
  rw [hcn] at hc HN ⊢
  have hw : IntKind.i64.wrap (2 * (c : Int)) = 2 * (c : Int) := IntWalk.i64_in _ (by omega)
  have HG := hid hg
  have HO := hid ho
  clear hgv hov hok hg ho hcn
  go_enter Try.func49, Try.ntmps49
  have b_0 := (Below.refl w.heap.size w)
  have s_0 := b_0.size
  go_upto_region 1 with fail
  refine wp_forget2 (w0 := w) (B := w.heap.size) (b0 := w.heap.size) (t0 := 27) (c0 := #[.slice G gs.length cg, .slice O os.length co]) (b1 := w.heap.size + 1) (t1 := 33) (c1 := #[.int .i64 0, .int .i64 0, .int .i64 0, .int .i64 0]) ?_ ?_ ?_ ?_
  (focus exact blkcBy2)
  (focus exact blkcBy2)
  (focus (exact belBy))
  intro w1 x_1 r_1 hX1
  have sX1 := hX1.size
  have x_lt := x_1.lt
  have r_lt := r_1.lt
  have b_1 := b_0.trans (hX1.mono (by omega))
  clear b_0 hX1
  have cell_x := x_1.cell
  have froz_x := x_1.frozen
  have lt_x := x_1.lt
  have cell_r := r_1.cell
  have froz_r := r_1.frozen
  have lt_r := r_1.lt
  go_wp2_with fail
  refine calls_forget0 (W := w1) ?_ ?_
  (focus (exact belBy))
  intro X2 hX2
  have sX2 := hX2.size
  refine (HK.out _ ((HG.out.below (b_1.trans (hX2.mono (by omega)))).more (by omega)) ((HO.out.below (b_1.trans (hX2.mono (by omega)))).more (by omega))).mono ?_
  rintro e w2 ⟨rfl, hb2⟩
  have s2 := hb2.size
  have hT2 := hX2.trans (hb2.mono sX2)
  have b_2 := b_1.trans (hT2.mono (by omega))
  have x_2 := Blk.past hT2 x_1
  have r_2 := Blk.past hT2 r_1
  clear x_1 r_1 b_1 cell_x froz_x lt_x cell_r froz_r lt_r hX2 hT2 hb2
  have cell_x := x_2.cell
  have froz_x := x_2.frozen
  have lt_x := x_2.lt
  have cell_r := r_2.cell
  have froz_r := r_2.frozen
  have lt_r := r_2.lt
  go_wp2_with fail
  refine calls_forget0 (W := w2) ?_ ?_
  (focus (exact belBy))
  intro X3 hX3
  have sX3 := hX3.size
  refine (HN.out _ ((HG.out.below (b_2.trans (hX3.mono (by omega)))).more (by omega))).mono ?_
  rintro e w3 ⟨rfl, hb3⟩
  have s3 := hb3.size
  have hT3 := hX3.trans (hb3.mono sX3)
  have b_3 := b_2.trans (hT3.mono (by omega))
  have x_3 := Blk.past hT3 x_2
  have r_3 := Blk.past hT3 r_2
  clear x_2 r_2 b_2 cell_x froz_x lt_x cell_r froz_r lt_r hX3 hT3 hb3
  have cell_x := x_3.cell
  have froz_x := x_3.frozen
  have lt_x := x_3.lt
  have cell_r := r_3.cell
  have froz_r := r_3.frozen
  have lt_r := r_3.lt
  go_wp2
  ((try simp only [Exit.inBlock, Exit.then]); apply bodyPost_ret0; focus ((try simp only [results, Try.results49]); (try go_simp); (try rfl)))
  refine ⟨rfl, ?_⟩
  exact belBy
set_option linter.unusedVariables false in
set_option maxRecDepth 100000 in
set_option maxHeartbeats 3200000 in
theorem sProgCost (A : Option Addr) (c : Nat) (L : List St) (w : World) (hc : Cells w w.heap.size A (ints (flatS L))) (hn : L.length ≤ 1000000000) :
    Calls Try.prog 20 #[.slice A L.length c] w fun e w' => e = .returned (costV L) ∧ Below w.heap.size w w' := by
  have HU := hid (fun w hc => sCompile A c L w hc hn)
  have hok := comp_okc L
  have hol := comp_outs L
  have HC := hid hc
  cases hu : unrB L
  · have HV := hid (show costV L = .agg #[.int .i64 0, .int .i64 0, .int .i64 0, .int .i64 0] by unfold costV; rw [hu]; rfl)
    rw [HV.out]
    rw [hu] at HU
    clear hc hok hol hu HV
    go_enter Try.func20, Try.ntmps20
    have b_0 := (Below.refl w.heap.size w)
    have s_0 := b_0.size
    go_upto_region 1 with fail
    refine wp_forget1 (w0 := w) (B := w.heap.size) (b0 := w.heap.size) (t0 := 33) (c0 := #[.int .i64 0, .int .i64 0, .int .i64 0, .int .i64 0]) ?_ ?_ ?_
    (focus exact blkcBy2)
    (focus (exact belBy))
    intro w1 r_1 hX1
    have sX1 := hX1.size
    have r_lt := r_1.lt
    have b_1 := b_0.trans (hX1.mono (by omega))
    clear b_0 hX1
    have cell_r := r_1.cell
    have froz_r := r_1.frozen
    have lt_r := r_1.lt
    have H1 := hid (And.intro r_1 b_1)
    have z1 := b_1.size
    have hc1 := hid ((HC.out.below b_1).more (B' := w1.heap.size) (by omega))
    clear r_1 b_1 cell_r froz_r lt_r
    go_wp2_with fail
    refine Calls.mono (HU.out _ hc1.out) ?_
    rintro e w2 ⟨G, cg, O, co, rfl, h1, h2, hb⟩
    have hr2 := H1.out.1.past hb
    have hb2 := H1.out.2.trans (hb.mono z1)
    have cell_r := hr2.cell
    have froz_r := hr2.frozen
    have lt_r := hr2.lt
    have z2 := hb.size
    clear h1 h2 hb H1 hc1
    go_wp2
    ((try simp only [Exit.inBlock, Exit.then]); apply bodyPost_ret0; focus ((try simp only [results, Try.results20]); (try go_simp); (try rfl)))
    refine ⟨rfl, ?_⟩
    exact belBy
  · have hv : circB (compL L).g (compL L).o = true := hok hu
    have HV := hid (show costV L = .agg #[.int .i64 2, .int .i64 0, .int .i64 0, .int .i64 (2 * (cntG (optC (compL L).g (compL L).o).1 4 : Int))] by unfold costV; rw [hu]; rfl)
    rw [HV.out]
    rw [hu] at HU
    have HO := hid (fun G O cg co w hg ho => sOptimize G O cg co (compL L).g (compL L).o w hg ho hv (by omega))
    have hpl : (optC (compL L).g (compL L).o).2.length ≤ 1000000 := by
      have h1 := prun_outs (simpC (compL L).g (compL L).o).1 (simpC (compL L).g (compL L).o).2
      have h2 := simp_outs (compL L).g (compL L).o
      show (prunC _ _).2.length ≤ 1000000
      omega
    have HK := hid (fun G O cg co w hg ho => sGarbled G O cg co (optC (compL L).g (compL L).o).1 (optC (compL L).g (compL L).o).2 w hg ho (opt_valid hv) hpl)
    obtain ⟨R, hR⟩ : ∃ r, optC (compL L).g (compL L).o = r := ⟨_, rfl⟩
    rw [hR] at HO HK ⊢
    obtain ⟨K, hK⟩ : ∃ r, compL L = r := ⟨_, rfl⟩
    rw [hK] at HO HU
    clear hc hok hol hu HV hv hpl hR hK
    go_enter Try.func20, Try.ntmps20
    have b_0 := (Below.refl w.heap.size w)
    have s_0 := b_0.size
    go_upto_region 1 with fail
    refine wp_forget1 (w0 := w) (B := w.heap.size) (b0 := w.heap.size) (t0 := 33) (c0 := #[.int .i64 0, .int .i64 0, .int .i64 0, .int .i64 0]) ?_ ?_ ?_
    (focus exact blkcBy2)
    (focus (exact belBy))
    intro w1 r_1 hX1
    have sX1 := hX1.size
    have r_lt := r_1.lt
    have b_1 := b_0.trans (hX1.mono (by omega))
    clear b_0 hX1
    have cell_r := r_1.cell
    have froz_r := r_1.frozen
    have lt_r := r_1.lt
    have H1 := hid (And.intro r_1 b_1)
    have z1 := b_1.size
    have hrl := r_1.lt
    have hc1 := hid ((HC.out.below b_1).more (B' := w1.heap.size) (by omega))
    clear r_1 b_1 cell_r froz_r lt_r
    go_wp2_with fail
    refine Calls.mono (HU.out _ hc1.out) ?_
    rintro e w2 ⟨G, cg, O, co, rfl, h1, h2, hb⟩
    have H2 := hid (And.intro (H1.out.1.past hb) (And.intro (H1.out.2.trans (hb.mono z1)) (And.intro (Cells.of_own h1) (Cells.of_own h2))))
    have z2 := hb.size
    clear h1 h2 hb H1 hc1 HU
    have b_2 := (Below.refl w2.heap.size w2)
    have s_2 := b_2.size
    go_upto_region 2 with fail
    refine wp_forget1 (w0 := w2) (B := w2.heap.size) (b0 := w2.heap.size) (t0 := 27) (c0 := #[.slice G K.g.length cg, .slice O K.o.length co]) ?_ ?_ ?_
    (focus exact blkcBy2)
    (focus (exact belBy))
    intro w3 x_3 hX3
    have sX3 := hX3.size
    have x_lt := x_3.lt
    have b_3 := b_2.trans (hX3.mono (by omega))
    clear b_2 hX3
    have cell_x := x_3.cell
    have froz_x := x_3.frozen
    have lt_x := x_3.lt
    have H3 := hid (And.intro (H2.out.1.past b_3) (And.intro (H2.out.2.1.trans (b_3.mono (by omega))) (And.intro ((H2.out.2.2.1.below b_3).more (B' := w3.heap.size) (by omega)) ((H2.out.2.2.2.below b_3).more (B' := w3.heap.size) (by omega)))))
    have z3 := b_3.size
    clear x_3 b_3 H2 froz_x
    go_wp2_with fail
    refine Calls.mono (HO.out _ _ _ _ _ H3.out.2.2.1 H3.out.2.2.2) ?_
    rintro e w4 ⟨G4, cg4, O4, co4, rfl, h1, h2, hb⟩
    have H4 := hid (And.intro (H3.out.1.past hb) (And.intro (H3.out.2.1.trans (hb.mono (by omega))) (And.intro (Cells.of_own h1) (Cells.of_own h2))))
    have z4 := hb.size
    clear h1 h2 hb H3 cell_x lt_x HO
    go_wp2_with fail
    refine Calls.mono (HK.out _ _ _ _ _ H4.out.2.2.1 H4.out.2.2.2) ?_
    rintro e w5 ⟨rfl, hb⟩
    have hr5 := H4.out.1.past hb
    have hb5 := H4.out.2.1.trans (hb.mono (by omega))
    have z5 := hb.size
    have cell_r := hr5.cell
    have froz_r := hr5.frozen
    have lt_r := hr5.lt
    clear hb H4 HK
    go_wp2
    ((try simp only [Exit.inBlock, Exit.then]); apply bodyPost_ret0; focus ((try simp only [results, Try.results20]); (try go_simp); (try rfl)))
    refine ⟨rfl, ?_⟩
    exact belBy
end Go.Proofs.Ytihbaieiempjeaa
/- Rows of structs of numbers, read as their cells one after another. No program is named here. -/
namespace Go.Proofs.Ytihbaieiempjeaa
open Go.RowKit

theorem made_all (z : Array Value) (v : Value) (m : Nat) (h : ∀ q, z[q % z.size]! = v) : (madeCells z m).toList = List.replicate m v := by
  rw [List.eq_replicate_iff]
  refine ⟨by simp [madeCells], fun x hx => ?_⟩
  simp [madeCells] at hx
  obtain ⟨q, _, rfl⟩ := hx
  simpa using h q
theorem made2 (n : Nat) : (madeCells #[Value.int IntKind.i64 0, Value.int IntKind.i64 0] (n * 2)).toList = List.replicate (n * 2) (.int .i64 0) := by
  refine made_all _ _ _ fun q => ?_
  have h : q % 2 = 0 ∨ q % 2 = 1 := by omega
  show #[Value.int IntKind.i64 0, Value.int IntKind.i64 0][q % 2]! = _
  rcases h with h | h <;> rw [h] <;> rfl
theorem made3 (n : Nat) : (madeCells #[Value.int IntKind.i64 0, Value.int IntKind.i64 0, Value.int IntKind.i64 0] (n * 3)).toList = List.replicate (n * 3) (.int .i64 0) := by
  refine made_all _ _ _ fun q => ?_
  have h : q % 3 = 0 ∨ q % 3 = 1 ∨ q % 3 = 2 := by omega
  show #[Value.int IntKind.i64 0, Value.int IntKind.i64 0, Value.int IntKind.i64 0][q % 3]! = _
  rcases h with h | h | h <;> rw [h] <;> rfl
theorem made4 (n : Nat) : (madeCells #[Value.int IntKind.i64 0, Value.int IntKind.i64 0, Value.int IntKind.i64 0, Value.int IntKind.i64 0] (n * 4)).toList = List.replicate (n * 4) (.int .i64 0) := by
  refine made_all _ _ _ fun q => ?_
  have h : q % 4 = 0 ∨ q % 4 = 1 ∨ q % 4 = 2 ∨ q % 4 = 3 := by omega
  show #[Value.int IntKind.i64 0, Value.int IntKind.i64 0, Value.int IntKind.i64 0, Value.int IntKind.i64 0][q % 4]! = _
  rcases h with h | h | h | h <;> rw [h] <;> rfl
end Go.Proofs.Ytihbaieiempjeaa
/- The laws' own functions on slices of Stmt: the copy, the comparison of equal ones, the marks, the count. -/
namespace Go.Proofs.Ytihbaieiempjeaa
open Go.RowKit

theorem made6 (n : Nat) : (madeCells #[Value.int IntKind.i64 0, Value.int IntKind.i64 0, Value.int IntKind.i64 0, Value.int IntKind.i64 0, Value.int IntKind.i64 0, Value.int IntKind.i64 0] (n * 6)).toList = List.replicate (n * 6) (.int .i64 0) := by
  refine made_all _ _ _ fun q => ?_
  have h : q % 6 = 0 ∨ q % 6 = 1 ∨ q % 6 = 2 ∨ q % 6 = 3 ∨ q % 6 = 4 ∨ q % 6 = 5 := by omega
  show #[Value.int IntKind.i64 0, Value.int IntKind.i64 0, Value.int IntKind.i64 0, Value.int IntKind.i64 0, Value.int IntKind.i64 0, Value.int IntKind.i64 0][q % 6]! = _
  rcases h with h | h | h | h | h | h <;> rw [h] <;> rfl

theorem infoStmt : (Try.prog.info? 45).map (fun i => (i.zero, i.size, i.bytes)) = some (some (.agg #[.int .i64 0, .int .i64 0, .int .i64 0, .int .i64 0, .int .i64 0, .int .i64 0]), 6, 48) := by kernel_rfl
theorem toStmt_any (x0 x1 x2 x3 x4 x5 : Int) (w : World) :
    Calls Try.prog 50 #[.agg #[.int .i64 x0, .int .i64 x1, .int .i64 x2, .int .i64 x3, .int .i64 x4, .int .i64 x5]] w fun e w' => e = .returned (.agg #[.int .i64 x0, .int .i64 x1, .int .i64 x2, .int .i64 x3, .int .i64 x4, .int .i64 x5]) ∧ Below w.heap.size w w' := by
  go_enter Try.func50, Try.ntmps50
  go_wp2
  go_returns
  refine ⟨rfl, ?_⟩
  exact belBy
theorem eqStmt_same (x0 x1 x2 x3 x4 x5 : Int) (w : World) :
    Calls Try.prog 51 #[.agg #[.int .i64 x0, .int .i64 x1, .int .i64 x2, .int .i64 x3, .int .i64 x4, .int .i64 x5], .agg #[.int .i64 x0, .int .i64 x1, .int .i64 x2, .int .i64 x3, .int .i64 x4, .int .i64 x5]] w fun e w' => e = .returned (.bool true) ∧ Below w.heap.size w w' := by
  go_enter Try.func51, Try.ntmps51
  go_wp2
  go_ret
  refine ⟨rfl, ?_⟩
  exact belBy
set_option maxRecDepth 100000 in
set_option maxHeartbeats 1600000 in
theorem toStmtS_any (A : Option Addr) (c n : Nat) (xs : List Int) (w : World) (hl : xs.length = n * 6) (hc : Cells w w.heap.size A (ints xs)) (hn : n ≤ 1048576) :
    Calls Try.prog 21 #[.slice A n c] w fun e w' => e = .returned (.slice (some ⟨w.heap.size, 0, none⟩) n n) ∧
      w'.ownsRow w.heap.size 45 6 (.slice (some ⟨w.heap.size, 0, none⟩) n n) n (ints xs) ∧ Below w.heap.size w w' := by
  obtain ⟨i0, hi, hz0, hz1, hz2⟩ := info_parts infoStmt
  go_enter Try.func21, Try.ntmps21
  go_wp2_with (at_make; refine wpList_make_full _ rfl _ _ 39 rfl w.heap.size 45 i0 (.agg #[.int .i64 0, .int .i64 0, .int .i64 0, .int .i64 0, .int .i64 0, .int .i64 0]) 6 Try.underlying39 hi hz0 hz1 _ _ _ _ n rfl rfl rfl rfl (by rw [hz2]; omega) (by unfold maxLen; omega) (Nat.le_refl _) ?_)
  intro w1 hown1 hg1
  have hb1 : Below w.heap.size w w1 := (Below.refl _ _).grown hg1 (Nat.le_refl _) (fun k hk => by cases hk)
  have hsz1 := hb1.size
  have hL : (madeCells #[Value.int IntKind.i64 0, Value.int IntKind.i64 0, Value.int IntKind.i64 0, Value.int IntKind.i64 0, Value.int IntKind.i64 0, Value.int IntKind.i64 0] (n * 6)).toList = copyTo xs 0 := by
    rw [copyTo_zero, hl]
    exact made6 n
  have hown2 : w1.ownsRow w.heap.size 45 6 (.slice (some ⟨w.heap.size, 0, none⟩) n n) n (copyTo xs 0) := by rw [← hL]; exact hown1
  have HL := hid hl
  clear hL hg1 hi hz0 hz1 hz2 hown1 hl
  go_wp2_with fail
  go_loopw [4] (fun i wr => ∃ k : Nat, k ≤ n ∧ i = .int .i64 k ∧ wr.ownsRow w.heap.size 45 6 (.slice (some ⟨w.heap.size, 0, none⟩) n n) n (copyTo xs (k * 6)) ∧ Below w.heap.size w wr) (fun i _ => n - (intOf i).toNat)
  case atStart => exact ⟨0, Nat.zero_le _, rfl, hown2, hb1⟩
  case round =>
    obtain ⟨k, hk, rfl, hown, hb⟩ := hrel
    by_cases hlt : k < n
    · have hl := HL.out
      obtain ⟨x0, hx0⟩ : ∃ x, xs[k * 6]? = some x := ⟨_, List.getElem?_eq_getElem (by omega)⟩
      obtain ⟨x1, hx1⟩ : ∃ x, xs[k * 6 + 1]? = some x := ⟨_, List.getElem?_eq_getElem (by omega)⟩
      obtain ⟨x2, hx2⟩ : ∃ x, xs[k * 6 + 2]? = some x := ⟨_, List.getElem?_eq_getElem (by omega)⟩
      obtain ⟨x3, hx3⟩ : ∃ x, xs[k * 6 + 3]? = some x := ⟨_, List.getElem?_eq_getElem (by omega)⟩
      obtain ⟨x4, hx4⟩ : ∃ x, xs[k * 6 + 4]? = some x := ⟨_, List.getElem?_eq_getElem (by omega)⟩
      obtain ⟨x5, hx5⟩ : ∃ x, xs[k * 6 + 5]? = some x := ⟨_, List.getElem?_eq_getElem (by omega)⟩
      obtain ⟨b, off, rfl, hB, hcl⟩ := hc (by rw [ints_length]; omega)
      have hc0 : wr.cell? ⟨b, off + k * 6, none⟩ = some (.int .i64 x0) := (hb.cell (p := ⟨b, off + k * 6, none⟩) hB).trans (hcl (k * 6) _ (ints_get hx0))
      have hc1 : wr.cell? ⟨b, off + k * 6 + 1, none⟩ = some (.int .i64 x1) := (hb.cell (p := ⟨b, off + k * 6 + 1, none⟩) hB).trans (hcl (k * 6 + 1) _ (ints_get hx1))
      have hc2 : wr.cell? ⟨b, off + k * 6 + 2, none⟩ = some (.int .i64 x2) := (hb.cell (p := ⟨b, off + k * 6 + 2, none⟩) hB).trans (hcl (k * 6 + 2) _ (ints_get hx2))
      have hc3 : wr.cell? ⟨b, off + k * 6 + 3, none⟩ = some (.int .i64 x3) := (hb.cell (p := ⟨b, off + k * 6 + 3, none⟩) hB).trans (hcl (k * 6 + 3) _ (ints_get hx3))
      have hc4 : wr.cell? ⟨b, off + k * 6 + 4, none⟩ = some (.int .i64 x4) := (hb.cell (p := ⟨b, off + k * 6 + 4, none⟩) hB).trans (hcl (k * 6 + 4) _ (ints_get hx4))
      have hc5 : wr.cell? ⟨b, off + k * 6 + 5, none⟩ = some (.int .i64 x5) := (hb.cell (p := ⟨b, off + k * 6 + 5, none⟩) hB).trans (hcl (k * 6 + 5) _ (ints_get hx5))
      have HO := hid hown
      have HB := hid hb
      have zr := hb.size
      have HX0 := hid hx0
      have HX1 := hid hx1
      have HX2 := hid hx2
      have HX3 := hid hx3
      have HX4 := hid hx4
      have HX5 := hid hx5
      clear hcl hl hown hown2 hb1 hc hb hx0 hx1 hx2 hx3 hx4 hx5
      go_wp2_with fail
      refine calls_forget0 (W := wr) ?_ ?_
      (focus (exact belBy))
      intro X hX
      refine (toStmt_any _ _ _ _ _ _ _).mono ?_
      rintro e w2 ⟨rfl, hb2⟩
      have hbX := hX.trans (hb2.mono hX.size)
      have z2 := hbX.size
      have ho2 := own_below HO.out hbX
      have hB2 := HB.out.trans (hbX.mono zr)
      have hu0 : ∃ u, w2.cell? ⟨w.heap.size, k * 6, none⟩ = some u := by
        rw [ho2.cellAt (k * 6) (by omega)]
        have h1 := ho2.1
        exact ⟨_, List.getElem?_eq_getElem (by omega)⟩
      obtain ⟨u0, hu0⟩ := hu0
      have hf0 := ho2.frozenAt (k * 6)
      have hu1 : ∃ u, w2.cell? ⟨w.heap.size, k * 6 + 1, none⟩ = some u := by
        rw [ho2.cellAt (k * 6 + 1) (by omega)]
        have h1 := ho2.1
        exact ⟨_, List.getElem?_eq_getElem (by omega)⟩
      obtain ⟨u1, hu1⟩ := hu1
      have hf1 := ho2.frozenAt (k * 6 + 1)
      have hu2 : ∃ u, w2.cell? ⟨w.heap.size, k * 6 + 2, none⟩ = some u := by
        rw [ho2.cellAt (k * 6 + 2) (by omega)]
        have h1 := ho2.1
        exact ⟨_, List.getElem?_eq_getElem (by omega)⟩
      obtain ⟨u2, hu2⟩ := hu2
      have hf2 := ho2.frozenAt (k * 6 + 2)
      have hu3 : ∃ u, w2.cell? ⟨w.heap.size, k * 6 + 3, none⟩ = some u := by
        rw [ho2.cellAt (k * 6 + 3) (by omega)]
        have h1 := ho2.1
        exact ⟨_, List.getElem?_eq_getElem (by omega)⟩
      obtain ⟨u3, hu3⟩ := hu3
      have hf3 := ho2.frozenAt (k * 6 + 3)
      have hu4 : ∃ u, w2.cell? ⟨w.heap.size, k * 6 + 4, none⟩ = some u := by
        rw [ho2.cellAt (k * 6 + 4) (by omega)]
        have h1 := ho2.1
        exact ⟨_, List.getElem?_eq_getElem (by omega)⟩
      obtain ⟨u4, hu4⟩ := hu4
      have hf4 := ho2.frozenAt (k * 6 + 4)
      have hu5 : ∃ u, w2.cell? ⟨w.heap.size, k * 6 + 5, none⟩ = some u := by
        rw [ho2.cellAt (k * 6 + 5) (by omega)]
        have h1 := ho2.1
        exact ⟨_, List.getElem?_eq_getElem (by omega)⟩
      obtain ⟨u5, hu5⟩ := hu5
      have hf5 := ho2.frozenAt (k * 6 + 5)
      have hst0 := ho2.stored (k * 6) (.int .i64 x0)
      rw [copyTo_set HX0.out] at hst0
      have hst1 := hst0.1.stored (k * 6 + 1) (.int .i64 x1)
      rw [copyTo_set HX1.out] at hst1
      have hst2 := hst1.1.stored (k * 6 + 2) (.int .i64 x2)
      rw [copyTo_set HX2.out] at hst2
      have hst3 := hst2.1.stored (k * 6 + 3) (.int .i64 x3)
      rw [copyTo_set HX3.out] at hst3
      have hst4 := hst3.1.stored (k * 6 + 4) (.int .i64 x4)
      rw [copyTo_set HX4.out] at hst4
      have hst5 := hst4.1.stored (k * 6 + 5) (.int .i64 x5)
      rw [copyTo_set HX5.out] at hst5
      have hq := hst5.1
      rw [show k * 6 + 5 + 1 = (k + 1) * 6 by omega] at hq
      have hb3 := ((((((hB2.setCell (p := ⟨w.heap.size, k * 6, none⟩) (Nat.le_refl _) (.int .i64 x0)).setCell (p := ⟨w.heap.size, k * 6 + 1, none⟩) (Nat.le_refl _) (.int .i64 x1)).setCell (p := ⟨w.heap.size, k * 6 + 2, none⟩) (Nat.le_refl _) (.int .i64 x2)).setCell (p := ⟨w.heap.size, k * 6 + 3, none⟩) (Nat.le_refl _) (.int .i64 x3)).setCell (p := ⟨w.heap.size, k * 6 + 4, none⟩) (Nat.le_refl _) (.int .i64 x4)).setCell (p := ⟨w.heap.size, k * 6 + 5, none⟩) (Nat.le_refl _) (.int .i64 x5))
      have HQ := hid hq
      have HB3 := hid hb3
      clear hq hb3 ho2 hbX hX hb2 hB2 hst0 hst1 hst2 hst3 hst4 hst5
      go_wp2
      go_roundw
      case rel => exact ⟨k + 1, by omega, by go_num, HQ.out, HB3.out⟩
      case measure => simp [intOf]; omega
    · obtain rfl : k = n := by omega
      rw [← HL.out, copyTo_all] at hown
      go_wp2
      go_ret
      exact ⟨rfl, hown, hb⟩
set_option maxRecDepth 100000 in
set_option maxHeartbeats 1600000 in
theorem eqStmtS_same (A B : Option Addr) (c d n : Nat) (xs : List Int) (w : World) (hl : xs.length = n * 6) (ha : Cells w w.heap.size A (ints xs)) (hc : Cells w w.heap.size B (ints xs)) (hn : n ≤ 1000000000) :
    Calls Try.prog 23 #[.slice A n c, .slice B n d] w fun e w' => e = .returned (.bool true) ∧ Below w.heap.size w w' := by
  go_enter Try.func23, Try.ntmps23
  go_wp2
  go_loopw [5] (fun i wr => ∃ k : Nat, k ≤ n ∧ i = .int .i64 k ∧ Below w.heap.size w wr) (fun i _ => n - (intOf i).toNat)
  case atStart => exact ⟨0, Nat.zero_le _, rfl, Below.refl _ _⟩
  case round =>
    obtain ⟨k, hk, rfl, hb⟩ := hrel
    by_cases hlt : k < n
    · skip
      obtain ⟨x0, hx0⟩ : ∃ x, xs[k * 6]? = some x := ⟨_, List.getElem?_eq_getElem (by omega)⟩
      obtain ⟨x1, hx1⟩ : ∃ x, xs[k * 6 + 1]? = some x := ⟨_, List.getElem?_eq_getElem (by omega)⟩
      obtain ⟨x2, hx2⟩ : ∃ x, xs[k * 6 + 2]? = some x := ⟨_, List.getElem?_eq_getElem (by omega)⟩
      obtain ⟨x3, hx3⟩ : ∃ x, xs[k * 6 + 3]? = some x := ⟨_, List.getElem?_eq_getElem (by omega)⟩
      obtain ⟨x4, hx4⟩ : ∃ x, xs[k * 6 + 4]? = some x := ⟨_, List.getElem?_eq_getElem (by omega)⟩
      obtain ⟨x5, hx5⟩ : ∃ x, xs[k * 6 + 5]? = some x := ⟨_, List.getElem?_eq_getElem (by omega)⟩
      obtain ⟨b, off, rfl, hB, hcl⟩ := ha (by rw [ints_length]; omega)
      obtain ⟨b', off', rfl, hB', hcl'⟩ := hc (by rw [ints_length]; omega)
      have hc0 : wr.cell? ⟨b, off + k * 6, none⟩ = some (.int .i64 x0) := (hb.cell (p := ⟨b, off + k * 6, none⟩) hB).trans (hcl (k * 6) _ (ints_get hx0))
      have hd0 : wr.cell? ⟨b', off' + k * 6, none⟩ = some (.int .i64 x0) := (hb.cell (p := ⟨b', off' + k * 6, none⟩) hB').trans (hcl' (k * 6) _ (ints_get hx0))
      have hc1 : wr.cell? ⟨b, off + k * 6 + 1, none⟩ = some (.int .i64 x1) := (hb.cell (p := ⟨b, off + k * 6 + 1, none⟩) hB).trans (hcl (k * 6 + 1) _ (ints_get hx1))
      have hd1 : wr.cell? ⟨b', off' + k * 6 + 1, none⟩ = some (.int .i64 x1) := (hb.cell (p := ⟨b', off' + k * 6 + 1, none⟩) hB').trans (hcl' (k * 6 + 1) _ (ints_get hx1))
      have hc2 : wr.cell? ⟨b, off + k * 6 + 2, none⟩ = some (.int .i64 x2) := (hb.cell (p := ⟨b, off + k * 6 + 2, none⟩) hB).trans (hcl (k * 6 + 2) _ (ints_get hx2))
      have hd2 : wr.cell? ⟨b', off' + k * 6 + 2, none⟩ = some (.int .i64 x2) := (hb.cell (p := ⟨b', off' + k * 6 + 2, none⟩) hB').trans (hcl' (k * 6 + 2) _ (ints_get hx2))
      have hc3 : wr.cell? ⟨b, off + k * 6 + 3, none⟩ = some (.int .i64 x3) := (hb.cell (p := ⟨b, off + k * 6 + 3, none⟩) hB).trans (hcl (k * 6 + 3) _ (ints_get hx3))
      have hd3 : wr.cell? ⟨b', off' + k * 6 + 3, none⟩ = some (.int .i64 x3) := (hb.cell (p := ⟨b', off' + k * 6 + 3, none⟩) hB').trans (hcl' (k * 6 + 3) _ (ints_get hx3))
      have hc4 : wr.cell? ⟨b, off + k * 6 + 4, none⟩ = some (.int .i64 x4) := (hb.cell (p := ⟨b, off + k * 6 + 4, none⟩) hB).trans (hcl (k * 6 + 4) _ (ints_get hx4))
      have hd4 : wr.cell? ⟨b', off' + k * 6 + 4, none⟩ = some (.int .i64 x4) := (hb.cell (p := ⟨b', off' + k * 6 + 4, none⟩) hB').trans (hcl' (k * 6 + 4) _ (ints_get hx4))
      have hc5 : wr.cell? ⟨b, off + k * 6 + 5, none⟩ = some (.int .i64 x5) := (hb.cell (p := ⟨b, off + k * 6 + 5, none⟩) hB).trans (hcl (k * 6 + 5) _ (ints_get hx5))
      have hd5 : wr.cell? ⟨b', off' + k * 6 + 5, none⟩ = some (.int .i64 x5) := (hb.cell (p := ⟨b', off' + k * 6 + 5, none⟩) hB').trans (hcl' (k * 6 + 5) _ (ints_get hx5))
      have HB := hid hb
      have zr := hb.size
      have hlt' : (k : Int) < (n : Int) := by omega
      clear hcl hcl' ha hc hb hx0 hx1 hx2 hx3 hx4 hx5
      have hBr : b < wr.heap.size := by omega
      have hBr' : b' < wr.heap.size := by omega
      go_wp2_with fail
      go_region_held3 (fun w' => w'.cell? ⟨b, off + k * 6, none⟩ = some (.int .i64 x0) ∧ w'.cell? ⟨b, off + k * 6 + 1, none⟩ = some (.int .i64 x1) ∧ w'.cell? ⟨b, off + k * 6 + 2, none⟩ = some (.int .i64 x2) ∧ w'.cell? ⟨b, off + k * 6 + 3, none⟩ = some (.int .i64 x3) ∧ w'.cell? ⟨b, off + k * 6 + 4, none⟩ = some (.int .i64 x4) ∧ w'.cell? ⟨b, off + k * 6 + 5, none⟩ = some (.int .i64 x5) ∧ w'.cell? ⟨b', off' + k * 6, none⟩ = some (.int .i64 x0) ∧ w'.cell? ⟨b', off' + k * 6 + 1, none⟩ = some (.int .i64 x1) ∧ w'.cell? ⟨b', off' + k * 6 + 2, none⟩ = some (.int .i64 x2) ∧ w'.cell? ⟨b', off' + k * 6 + 3, none⟩ = some (.int .i64 x3) ∧ w'.cell? ⟨b', off' + k * 6 + 4, none⟩ = some (.int .i64 x4) ∧ w'.cell? ⟨b', off' + k * 6 + 5, none⟩ = some (.int .i64 x5)) (exact ⟨cell_kept hc0 (by exact belBy) hBr, cell_kept hc1 (by exact belBy) hBr, cell_kept hc2 (by exact belBy) hBr, cell_kept hc3 (by exact belBy) hBr, cell_kept hc4 (by exact belBy) hBr, cell_kept hc5 (by exact belBy) hBr, cell_kept hd0 (by exact belBy) hBr', cell_kept hd1 (by exact belBy) hBr', cell_kept hd2 (by exact belBy) hBr', cell_kept hd3 (by exact belBy) hBr', cell_kept hd4 (by exact belBy) hBr', cell_kept hd5 (by exact belBy) hBr'⟩) ((go_at_call 51; refine (eqStmt_same _ _ _ _ _ _ _).mono ?_; rintro e w2 ⟨rfl, hb2⟩))
      have hb3 : Below w.heap.size w w2 := by
        have hb0 := HB.out
        have hb4 := hb2
        exact belBy
      have HB3 := hid hb3
      clear hb2 hb3
      go_wp2
      go_roundw
      case rel => exact ⟨k + 1, by omega, by go_num, HB3.out⟩
      case measure => simp [intOf]; omega
    · obtain rfl : k = n := by omega
      go_wp2
      go_ret
      exact ⟨rfl, hb⟩
theorem szStmtS_any (A : Option Addr) (c n : Nat) (left : Int) (w : World) (hn : n ≤ 9223372036854775807) (h0 : 0 ≤ left) (h1 : left ≤ 1048576) :
    Calls Try.prog 19 #[.slice A n c, .int .i64 left] w fun e w' => e = .returned (.int .i64 (pick (decide (left - n < 0)) (-1) (left - n))) ∧ w = w' := by
  by_cases hlt : left - n < 0
  all_goals
    simp only [hlt, decide_true, decide_false, pick_yes, pick_no]
    go_enter Try.func19, Try.ntmps19
    go_wp2
    go_ret
    exact ⟨rfl, rfl⟩
end Go.Proofs.Ytihbaieiempjeaa
/- Arguments that are slices of structs of numbers: their cells, one after another. No program is named here. -/
namespace Go.Proofs.Ytihbaieiempjeaa
open Go.RowKit Go.ChangeShapes Go.WideShapes Go.Deep

theorem list_of (n : Nat) (R : Nat → Int → Prop) (h : ∀ q, q < n → ∃ x, R q x) : ∃ xs : List Int, xs.length = n ∧ ∀ q x, xs[q]? = some x → R q x := by
  induction n with
  | zero => exact ⟨[], rfl, fun q x hq => by simp at hq⟩
  | succ n ih =>
    obtain ⟨xs, hl, hx⟩ := ih fun q hq => h q (by omega)
    obtain ⟨y, hy⟩ := h n (by omega)
    refine ⟨xs ++ [y], by simp [hl], fun q x hq => ?_⟩
    rw [List.getElem?_append] at hq
    split at hq
    · exact hx q x hq
    · have h1 := (List.getElem?_eq_some_iff.1 hq).1
      simp at h1
      have h2 : q = n := by omega
      subst h2
      rw [hl] at hq
      simp at hq
      exact hq ▸ hy
def isI64 (P : Program) (t : TypeId) : Bool := match P.underlying t with
  | some (.int .i64) => true
  | _ => false
theorem isI64_under {P : Program} {t : TypeId} (h : isI64 P t = true) : P.underlying t = some (.int .i64) := by
  unfold isI64 at h
  split at h
  · assumption
  · cases h
def allI64 (P : Program) (fs : Array Field) : Bool := fs.toList.all fun f => isI64 P f.type
theorem allI64_at {P : Program} {fs : Array Field} (h : allI64 P fs = true) {j : Nat} {f : Field} (hf : fs[j]? = some f) : P.underlying f.type = some (.int .i64) := by
  unfold allI64 at h
  rw [List.all_eq_true] at h
  refine isI64_under (h f ?_)
  have h1 := Array.mem_of_getElem? hf
  simpa using h1
section
variable {H : Type} {enc : TypeId × Value → H} {P : Program} {W : World}
theorem view_structsF {t e : TypeId} {v : Value} {fs : Array Field} {fuel F : Nat} {y : DataW H × List MemPlace} (ht : P.underlying t = some (.slice e)) (he : P.underlying e = some (.struct fs))
    (hone : oneCellFields P fs = true) (hint : allI64 P fs = true) (hF : fs.size = F) (hC : P.cellsOf e = F) (hF0 : 0 < F)
    (hf : DataW.trod enc P W 0 (fun _ => true) true fuel t [v] = some y) (hlt : ∀ x ∈ y.2, x.block < W.heap.size) :
    ∃ A c n xs, v = .slice A n c ∧ xs.length = n * F ∧ Cells W W.heap.size A (ints xs) ∧ n ≤ maxLen := by
  rcases open_slice ht hf with ⟨hcs, hx⟩ | ⟨a, len, cap, m, n, D, Pl, hcs, _, hl, hm, hmm, hx, hi⟩
  · simp at hcs
    subst hcs
    exact ⟨none, 0, 0, [], rfl, by simp, Cells.nil_, by simp⟩
  · simp at hcs
    subst hcs
    simp only [if_true] at hmm
    subst hmm
    have hcell : ∀ q, q < len * F → ∃ x, W.cell? (a.add q) = some (.int .i64 x) := by
      intro q hq
      have hqi : q / F < len := by
        rw [Nat.div_lt_iff_lt_mul hF0]; exact hq
      obtain ⟨cs', hc, ht'⟩ := hi (q / F) (by omega)
      rw [hC] at hc
      obtain ⟨ys, n', hn', hy, hlen, hyl, hff⟩ := DataW.trod_struct he ht'
      obtain ⟨_, hcl, hat⟩ := World.cells?_some hc
      have hj : q % F < F := Nat.mod_lt _ hF0
      obtain ⟨f, hfj⟩ : ∃ f, fs[q % F]? = some f := ⟨_, Array.getElem?_eq_getElem (by omega)⟩
      obtain ⟨ho, hk⟩ := hone_of hone (q % F) f hfj
      have h1 := hff (q % F) f hfj
      rw [ho, hk] at h1
      have hv : cs'[q % F]? = some (cs'[q % F]'(by omega)) := List.getElem?_eq_getElem (by omega)
      have hone' : (cs'.drop (q % F)).take 1 = [cs'[q % F]'(by omega)] := by
        rw [List.drop_eq_getElem_cons (by omega)]
        rfl
      rw [hone', List.getElem?_eq_getElem (by omega)] at h1
      obtain ⟨x, ex, _, _⟩ := DataW.trod_int (allI64_at hint hfj) h1
      have ex' : cs'[q % F]'(by omega) = .int .i64 x := by simpa using ex
      refine ⟨x, ?_⟩
      have h2 := hat (q % F) hj
      rw [hv, ex', Deep.add_add] at h2
      rw [← h2, show q / F * F + q % F = q from Nat.div_add_mod' q F]
    obtain ⟨xs, hxl, hxs⟩ := list_of (len * F) (fun q x => W.cell? (a.add q) = some (.int .i64 x)) hcell
    refine ⟨some a, m, len, xs, rfl, hxl, fun h0 => ?_, by omega⟩
    rw [ints_length, hxl] at h0
    obtain ⟨b, off, spot⟩ := a
    have hspot : spot = none := by
      obtain ⟨x, hx0⟩ := hcell 0 h0
      simpa [Addr.add] using World.cell?_spot hx0
    subst hspot
    have hlen0 : 0 < len := by
      rcases Nat.eq_zero_or_pos len with h | h
      · subst h; simp at h0
      · exact h
    have hle : len ≤ m * F := Nat.le_trans hl (Nat.le_mul_of_pos_right _ hF0)
    refine ⟨b, off, rfl, hlt (.cell b off) (by rw [hx, hC]; exact List.mem_append_left _ (MemPlace.mem_row.2 ⟨0, by omega, by simp⟩)), fun i v hv => ?_⟩
    simp only [ints, List.getElem?_map, Option.map_eq_some_iff] at hv
    obtain ⟨x, hx1, rfl⟩ := hv
    have h3 := hxs i x hx1
    rw [add_plain] at h3
    exact h3
theorem view_structs {r : Reach} {b0 : Nat} {t e : TypeId} {v : Value} {d : DataW H} {ps : List MemPlace} {fs : Array Field} {F : Nat} (ht : P.underlying t = some (.slice e)) (he : P.underlying e = some (.struct fs))
    (hone : oneCellFields P fs = true) (hint : allI64 P fs = true) (hF : fs.size = F) (hC : P.cellsOf e = F) (hF0 : 0 < F) (hv : Value.okWide P W r b0 t v)
    (h : DataW.Trod enc P W 0 (fun _ => true) true t v d ps) (hlt : ∀ x ∈ ps, x.block < W.heap.size) :
    ∃ A c n xs, v = .slice A n c ∧ xs.length = n * F ∧ Cells W W.heap.size A (ints xs) ∧ n ≤ maxLen := by
  obtain ⟨a0, len, cap, rfl⟩ := okWide_slice ht hv
  obtain ⟨fuel, hf⟩ := h
  exact view_structsF ht he hone hint hF hC hF0 (by simpa [Value.cells] using hf) hlt
end
end Go.Proofs.Ytihbaieiempjeaa
/- The law that ProgramCost of the program returns what the reference's returns, for all arguments. No conditions. -/
set_option linter.unusedVariables false
namespace Go.Proofs.Ytihbaieiempjeaa
open Go.RowKit Go.ChangeShapes Go.WideShapes Go.ChangeAt

/- In this text: blkcBy2. -/
theorem flat_of : ∀ (n : Nat) (xs : List Int), xs.length = n * 6 → ∃ L : List St, L.length = n ∧ flatS L = xs
  | 0, xs, h => ⟨[], rfl, by rw [List.length_eq_zero_iff.1 (by omega : xs.length = 0)]; rfl⟩
  | n + 1, xs, h => by
    match xs, h with
    | a :: b :: c :: d :: e :: f :: r, h =>
      obtain ⟨L, h1, h2⟩ := flat_of n r (by simp only [List.length_cons] at h; omega)
      exact ⟨⟨a, b, c, d, e, f⟩ :: L, by simp [h1], by rw [← h2]; rfl⟩
    | [], h => simp only [List.length_nil] at h; omega
    | [_], h => simp only [List.length_cons, List.length_nil] at h; omega
    | [_, _], h => simp only [List.length_cons, List.length_nil] at h; omega
    | [_, _, _], h => simp only [List.length_cons, List.length_nil] at h; omega
    | [_, _, _, _], h => simp only [List.length_cons, List.length_nil] at h; omega
    | [_, _, _, _, _], h => simp only [List.length_cons, List.length_nil] at h; omega
theorem costV_is (L : List St) : ∃ a b c d : Int, costV L = .agg #[.int .i64 a, .int .i64 b, .int .i64 c, .int .i64 d] := by
  unfold costV
  split
  · exact ⟨_, _, _, _, rfl⟩
  · exact ⟨_, _, _, _, rfl⟩
theorem eqCost_same (a b c d : Int) (w : World) :
    Calls Try.prog 22 #[.agg #[.int .i64 a, .int .i64 b, .int .i64 c, .int .i64 d], .agg #[.int .i64 a, .int .i64 b, .int .i64 c, .int .i64 d]] w fun e w' => e = .returned (.bool true) ∧ Below w.heap.size w w' := by
  go_enter Try.func22, Try.ntmps22
  go_wp2
  go_ret
  refine ⟨rfl, ?_⟩
  exact belBy
namespace exactProgramCost
set_option maxRecDepth 100000 in
set_option maxHeartbeats 6400000 in
theorem walk (A : Option Addr) (c n : Nat) (xs : List Int) (w : World) (hl : xs.length = n * 6) (hx : Cells w w.heap.size A (ints xs)) (hn : n ≤ maxLen) :
    Calls Try.prog 5 #[.slice A n c] w fun e w' => e = .returned (.bool true) ∧ Below w.heap.size w w' := by
  unfold maxLen at hn
  by_cases h1 : n ≤ 1048576
  · have hd : decide ((1048576 : Int) - (n : Int) < 0) = false := by simp; omega
    have HD := hid hd
    clear hd
    obtain ⟨L, hL, hf⟩ := flat_of n xs hl
    have CS := hid (fun A w (hc : Cells w w.heap.size A (ints xs)) => by
      have q := sProgCost A n L w (by rw [hf]; exact hc) (by omega)
      rwa [hL] at q)
    have CI := hid (fun A w (hc : Cells w w.heap.size A (ints xs)) => by
      have q := iProgCost A n L w (by rw [hf]; exact hc) (by omega) (by omega)
      rwa [hL] at q)
    obtain ⟨c0, c1, c2, c3, hcv⟩ := costV_is L
    rw [hcv] at CS CI
    have TA := hid (fun A c w hc => toStmtS_any A c n xs w hl hc h1)
    have EA := hid (fun A B c d w ha hc => eqStmtS_same A B c d n xs w hl ha hc (by omega))
    clear hL hf hcv
    go_enter Try.func5, Try.ntmps5
    have b_0 := (Below.refl w.heap.size w)
    have s_0 := b_0.size
    have x_0 := hx
    clear hx
    go_wp2_with fail
    refine calls_forget0 (W := w) ?_ ?_
    (focus (exact belBy))
    intro X1 hX1
    have sX1 := hX1.size
    refine (szStmtS_any _ _ _ _ _ hn (by omega) (by omega)).mono ?_
    rintro e w' ⟨rfl, rfl⟩
    have b_1 := b_0.trans (hX1.mono (by omega))
    have x_1 := cells_below x_0 hX1 (by omega)
    clear x_0 b_0 hX1
    rw [HD.out, pick_no]
    go_wp2_with fail
    refine calls_forget0 (W := X1) ?_ ?_
    (focus (exact belBy))
    intro X2 hX2
    have sX2 := hX2.size
    refine (TA.out _ _ _ ((cells_below x_1 hX2 (by omega)).more (by omega))).mono ?_
    rintro e w2 ⟨rfl, m_2, hb2⟩
    have s2 := hb2.size
    have hT2 := hX2.trans (hb2.mono sX2)
    have b_2 := b_1.trans (hT2.mono (by omega))
    have x_2 := cells_below x_1 hT2 (by omega)
    have m_in := own_in m_2
    clear x_1 b_1 hX2 hT2 hb2
    go_wp2_with fail
    refine calls_forget0 (W := w2) ?_ ?_
    (focus (exact belBy))
    intro X3 hX3
    have sX3 := hX3.size
    refine (CS.out _ _ (Cells.of_own (own_below m_2 hX3))).mono ?_
    rintro e w3 ⟨rfl, hb3⟩
    have s3 := hb3.size
    have hT3 := hX3.trans (hb3.mono sX3)
    have b_3 := b_2.trans (hT3.mono (by omega))
    have x_3 := cells_below x_2 hT3 (by omega)
    have m_3 := own_below m_2 hT3
    clear x_2 m_2 b_2 hX3 hT3 hb3
    clear m_3
    go_upto_region 6 with fail
    refine wp_forget1 (w0 := w3) (B := w3.heap.size) (b0 := w3.heap.size) (t0 := 33) (c0 := #[.int .i64 c0, .int .i64 c1, .int .i64 c2, .int .i64 c3]) ?_ ?_ ?_
    (focus exact blkcBy2)
    (focus (exact belBy))
    intro w4 u_4 hX4
    have sX4 := hX4.size
    have u_lt := u_4.lt
    have b_4 := b_3.trans (hX4.mono (by omega))
    have x_4 := cells_below x_3 hX4 (by omega)
    clear x_3 b_3 hX4
    have cell_u := u_4.cell
    have froz_u := u_4.frozen
    have lt_u := u_4.lt
    go_wp2_with fail
    refine calls_forget0 (W := w4) ?_ ?_
    (focus (exact belBy))
    intro X5 hX5
    have sX5 := hX5.size
    refine (TA.out _ _ _ ((cells_below x_4 hX5 (by omega)).more (by omega))).mono ?_
    rintro e w5 ⟨rfl, y_5, hb5⟩
    have s5 := hb5.size
    have hT5 := hX5.trans (hb5.mono sX5)
    have b_5 := b_4.trans (hT5.mono (by omega))
    have x_5 := cells_below x_4 hT5 (by omega)
    have u_5 := Blk.past hT5 u_4
    have y_in := own_in y_5
    clear x_4 u_4 b_4 cell_u froz_u lt_u hX5 hT5 hb5
    have cell_u := u_5.cell
    have froz_u := u_5.frozen
    have lt_u := u_5.lt
    go_wp2_with fail
    refine calls_forget0 (W := w5) ?_ ?_
    (focus (exact belBy))
    intro X6 hX6
    have sX6 := hX6.size
    refine (CI.out _ _ (Cells.of_own (own_below y_5 hX6))).mono ?_
    rintro e w6 ⟨rfl, hb6⟩
    have s6 := hb6.size
    have hT6 := hX6.trans (hb6.mono sX6)
    have b_6 := b_5.trans (hT6.mono (by omega))
    have x_6 := cells_below x_5 hT6 (by omega)
    have y_6 := own_below y_5 hT6
    have u_6 := Blk.past hT6 u_5
    clear x_5 y_5 u_5 b_5 cell_u froz_u lt_u hX6 hT6 hb6
    have cell_u := u_6.cell
    have froz_u := u_6.frozen
    have lt_u := u_6.lt
    go_upto_region 8 with fail
    refine wp_forget1 (w0 := w6) (B := w6.heap.size) (b0 := w6.heap.size) (t0 := 33) (c0 := #[.int .i64 c0, .int .i64 c1, .int .i64 c2, .int .i64 c3]) ?_ ?_ ?_
    (focus exact blkcBy2)
    (focus (exact belBy))
    intro w7 g_7 hX7
    have sX7 := hX7.size
    have g_lt := g_7.lt
    have b_7 := b_6.trans (hX7.mono (by omega))
    have x_7 := cells_below x_6 hX7 (by omega)
    have y_7 := own_below y_6 hX7
    have u_7 := Blk.past hX7 u_6
    clear x_6 y_6 u_6 b_6 cell_u froz_u lt_u hX7
    have cell_u := u_7.cell
    have froz_u := u_7.frozen
    have lt_u := u_7.lt
    have cell_g := g_7.cell
    have froz_g := g_7.frozen
    have lt_g := g_7.lt
    go_wp2_with fail
    refine calls_forget0 (W := w7) ?_ ?_
    (focus (exact belBy))
    intro X8 hX8
    have sX8 := hX8.size
    refine (eqCost_same _ _ _ _ _).mono ?_
    rintro e w8 ⟨rfl, hb8⟩
    have s8 := hb8.size
    have hT8 := hX8.trans (hb8.mono sX8)
    have b_8 := b_7.trans (hT8.mono (by omega))
    have x_8 := cells_below x_7 hT8 (by omega)
    have y_8 := own_below y_7 hT8
    have u_8 := Blk.past hT8 u_7
    have g_8 := Blk.past hT8 g_7
    clear x_7 y_7 u_7 g_7 b_7 cell_u froz_u lt_u cell_g froz_g lt_g hX8 hT8 hb8
    have cell_u := u_8.cell
    have froz_u := u_8.frozen
    have lt_u := u_8.lt
    have cell_g := g_8.cell
    have froz_g := g_8.frozen
    have lt_g := g_8.lt
    go_wp2_with fail
    refine calls_forget0 (W := w8) ?_ ?_
    (focus (exact belBy))
    intro X9 hX9
    have sX9 := hX9.size
    refine (TA.out _ _ _ ((cells_below x_8 hX9 (by omega)).more (by omega))).mono ?_
    rintro e w9 ⟨rfl, v_9, hb9⟩
    have s9 := hb9.size
    have hT9 := hX9.trans (hb9.mono sX9)
    have b_9 := b_8.trans (hT9.mono (by omega))
    have x_9 := cells_below x_8 hT9 (by omega)
    have y_9 := own_below y_8 hT9
    have u_9 := Blk.past hT9 u_8
    have g_9 := Blk.past hT9 g_8
    have v_in := own_in v_9
    clear x_8 y_8 u_8 g_8 b_8 cell_u froz_u lt_u cell_g froz_g lt_g hX9 hT9 hb9
    have cell_u := u_9.cell
    have froz_u := u_9.frozen
    have lt_u := u_9.lt
    have cell_g := g_9.cell
    have froz_g := g_9.frozen
    have lt_g := g_9.lt
    go_wp2_with fail
    refine calls_forget0 (W := w9) ?_ ?_
    (focus (exact belBy))
    intro X10 hX10
    have sX10 := hX10.size
    refine (EA.out _ _ _ _ _ (Cells.of_own (own_below y_9 hX10)) (Cells.of_own (own_below v_9 hX10))).mono ?_
    rintro e w10 ⟨rfl, hb10⟩
    have s10 := hb10.size
    have hT10 := hX10.trans (hb10.mono sX10)
    have b_10 := b_9.trans (hT10.mono (by omega))
    have x_10 := cells_below x_9 hT10 (by omega)
    have y_10 := own_below y_9 hT10
    have v_10 := own_below v_9 hT10
    have u_10 := Blk.past hT10 u_9
    have g_10 := Blk.past hT10 g_9
    clear x_9 y_9 v_9 u_9 g_9 b_9 cell_u froz_u lt_u cell_g froz_g lt_g hX10 hT10 hb10
    have cell_u := u_10.cell
    have froz_u := u_10.frozen
    have lt_u := u_10.lt
    have cell_g := g_10.cell
    have froz_g := g_10.frozen
    have lt_g := g_10.lt
    go_wp2
    go_ret
    refine ⟨rfl, b_10.trans ?_⟩
    exact belBy
  · have hd : decide ((1048576 : Int) - (n : Int) < 0) = true := by simp; omega
    have HD := hid hd
    clear hd
    go_enter Try.func5, Try.ntmps5
    have b_0 := (Below.refl w.heap.size w)
    have s_0 := b_0.size
    go_wp2_with fail
    refine calls_forget0 (W := w) ?_ ?_
    (focus (exact belBy))
    intro X1 hX1
    have sX1 := hX1.size
    refine (szStmtS_any _ _ _ _ _ hn (by omega) (by omega)).mono ?_
    rintro e w' ⟨rfl, rfl⟩
    have b_1 := b_0.trans (hX1.mono (by omega))
    clear b_0 hX1
    rw [HD.out, pick_yes]
    go_wp2
    go_ret
    refine ⟨rfl, b_1.trans ?_⟩
    exact belBy
set_option maxRecDepth 100000 in
theorem lifted (os : Os) (started : os.Started) (H : Type) (enc : TypeId × Value → H) :
    ReturnsInHanded {} Try.checked os 5 .any (Rows.fnExactProgramCostSpec.pre6 enc Try.prog Try.f5 Rows.fnExactProgramCostRow.domain false) (Rows.fnExactProgramCostSpec.post enc Try.prog Try.f5 false true false false) := by
  refine returnsInHanded_of_change (C := Try.checked) own started (by kernel_rfl) Try.func5
    (ChangeSpec.witness6 (enc := enc) (C := Try.checked) false ⟨#[], #[.slice none 0 0], []⟩ 8 (by kernel_rfl) (by kernel_rfl) (by kernel_rfl) (by kernel_rfl)) ?_
  intro W base args ds gs before hval0 hW _ _
  have hval : ∀ (j : Nat) t v, Try.f5.params[j]? = some t → args[j]? = some v → Value.okWide Try.prog W .any base t v := hval0
  have hW' := hW
  obtain ⟨p, q, hA0, hV, rfl, _, _⟩ := hW
  have hA : DataW.TrodAll enc Try.prog W 0 (fun _ => true) true Try.f5.params.toList args.toList ds p := hA0
  rw [Try.params5] at hA hval
  obtain ⟨v0, vs0, d0, ds0, p0, q0, hargs, rfl, rfl, h0, r0⟩ := trodAll_cons hA
  obtain ⟨rfl, rfl, rfl⟩ := trodAll_nil r0
  obtain rfl : args = #[v0] := by cases args; simp_all
  obtain ⟨rfl, rfl⟩ := trodVars_none hV
  obtain ⟨A0, c0, n0, xs0, rfl, hl0, hc0, hn0⟩ := view_structs (F := 6) Try.underlying55 Try.underlying84 (by kernel_rfl) (by kernel_rfl) rfl (by kernel_rfl) (by decide) (hval 0 55 v0 rfl rfl) h0 (fun x hx => hW'.lt x (by simp [hx]))
  refine (walk A0 c0 n0 xs0 W hl0 hc0 hn0).mono fun e W' ⟨he, hb⟩ => ?_
  subst he
  exact ⟨_, rfl, law_post rfl (by kernel_rfl) (by kernel_rfl) rfl Try.underlying4 hW' rfl rfl rfl hb⟩
theorem closed : joinedFacts Try.prog 5 Try.f5 Rows.fnExactProgramCostSpec Rows.fnExactProgramCostRow = true := by
  unfold joinedFacts
  rw [makeIs, mayIs, finalsIs]
  kernel_rfl
theorem over : Rows.fnExactProgramCostRow.holds Try.pinned (OpenSpec.ofChange Rows.fnExactProgramCostSpec) :=
  OpenClaim.holds_of_wide 5 Try.f5 rfl rfl rfl rfl rfl rfl rfl ⟨rfl, rfl, rfl, rfl, rfl⟩ rfl rfl rfl rfl rfl (by kernel_rfl) Try.func5 closed
    (of_decide_eq_true (by kernel_rfl)) (by unfold Func.isWrapper; first | (rw [if_pos (by decide +kernel)]; kernel_rfl) | (rw [if_neg (by decide +kernel)]; exact ⟨rfl, rfl⟩))
    (fun os started H enc _ => lifted os started H enc)
theorem proved : Rows.FnExactProgramCostSaid := over
#print axioms proved

end exactProgramCost
end Go.Proofs.Ytihbaieiempjeaa
