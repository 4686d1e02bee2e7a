/- The law that frames are accepted once and in order, whatever is lost, repeated or reordered (FnDelivered). No conditions. -/
import Derived.Test.YtdfomahaplcgoaaRunI
import Derived.Test.YtdfomahaplcgoaaLPads
import Derived.Test.YtdfomahaplcgoaaHead
set_option linter.unusedVariables false
namespace Go.Proofs.Ytdfomahaplcgoaa
open Go.RowKit Go.ChangeShapes Go.WideShapes Go.ChangeAt

namespace delivered
def upTo : Nat → List Int
  | 0 => []
  | j + 1 => upTo j ++ [(j : Int)]
theorem upTo_length (j : Nat) : (upTo j).length = j := by
  induction j with
  | zero => rfl
  | succ j ih => simp [upTo, ih]
theorem got_upTo {n g : Nat} (hg : g ≤ n) : ∀ m, m ≤ n → (upTo m).foldl (gotStep n) g = max g m := by
  intro m
  induction m with
  | zero => intro _; simp [upTo]
  | succ m ih =>
    intro hm
    show (upTo m ++ [(m : Int)]).foldl (gotStep n) g = _
    rw [List.foldl_append, ih (by omega)]
    show gotStep n (max g m) m = _
    unfold gotStep
    split <;> omega
theorem gotTo_full (n : Nat) (ys : List Int) : gotTo n (ys ++ upTo n) (ys ++ upTo n).length = n := by
  unfold gotTo
  rw [List.take_length, List.foldl_append]
  have h := gotTo_le n ys ys.length
  unfold gotTo at h
  rw [List.take_length] at h
  rw [got_upTo h n (Nat.le_refl _)]
  omega
def sub (ps : List Int) (m : Nat) : List Int := (ps.drop 1).take m
theorem sub_length {ps : List Int} {m : Nat} (h : ps.length = 12) (hm : m ≤ 5) : (sub ps m).length = m := by unfold sub; rw [List.length_take, List.length_drop]; omega
theorem sub_get {ps : List Int} {m i : Nat} (hi : i < m) : (sub ps m)[i]? = ps[1 + i]? := by
  unfold sub
  rw [List.getElem?_take, if_pos hi, List.getElem?_drop]
theorem cells_sub {w : World} {base c gp m : Nat} {ps : List Int} (h : w.ownsRow base 3 1 (.slice (some ⟨gp, 0, none⟩) 12 c) 12 (ints ps)) (hl : ps.length = 12) (hm : m ≤ 5) : Cells w w.heap.size (some ⟨gp, 1, none⟩) (ints (sub ps m)) := fun _ => by
  obtain ⟨h1, h2⟩ := own_cells h (by omega)
  refine ⟨gp, 1, rfl, h1, fun i v hv => h2 (1 + i) v ?_⟩
  have hi : i < m := by
    have := (List.getElem?_eq_some_iff.1 hv).1
    rw [ints_length, sub_length hl hm] at this
    exact this
  rw [← hv]
  simp only [ints, List.getElem?_map, sub_get hi]
theorem sub_words {ps : List Int} {m : Nat} (h : ∀ x ∈ ps, 0 ≤ x ∧ x < 10000) : wordsB (sub ps m) = true := by
  unfold wordsB
  rw [List.all_eq_true]
  intro x hx
  have := h x (List.mem_of_mem_drop (List.mem_of_mem_take hx))
  exact isWordB_iff.2 (by omega)
theorem own_cap {w : World} {base e size n c g : Nat} {xs : List Value} (h : w.ownsRow base e size (.slice (some ⟨g, 0, none⟩) n c) n xs) : n ≤ c := by
  rcases h.2 with ⟨hv, _⟩ | ⟨g', cap, cur, hv, hg, hh, hn', r⟩
  · injection hv with h2 _ _
    cases h2
  · injection hv with _ _ hcc
    subst hcc
    exact hn'
theorem iRun_at (k : Int) (A B : Option Addr) (c d n m l : Nat) (xs ys zs : List Int) (w : World) (hn : xs.length = n) (hm : ys.length = m) (hz : runL k xs ys = zs) (hl : zs.length = l) (hx : Cells w w.heap.size A (ints xs)) (hy : Cells w w.heap.size B (ints ys)) (hn2 : n ≤ 1000000000) (hm2 : m ≤ 1000000000) :
    Calls Try.prog 24 #[.int .i64 k, .slice A n c, .slice B m d] w fun e w' => ∃ A' c', e = .returned (.slice A' l c') ∧ w'.ownsRow w.heap.size 3 1 (.slice A' l c') l (ints zs) ∧ Below w.heap.size w w' := by
  subst hn hm hz hl
  exact iRunFrames k A B c d xs ys w hx hy hn2 hm2
theorem same_at (A B : Option Addr) (c d n : Nat) (xs : List Int) (w : World) (hn : xs.length = n) (ha : Cells w w.heap.size A (ints xs)) (hc : Cells w w.heap.size B (ints xs)) (hn2 : n ≤ 1000000000) :
    Calls Try.prog 20 #[.slice A n c, .slice B n d] w fun e w' => e = .returned (.bool true) ∧ Below w.heap.size w w' := by
  subst hn
  exact sameInts_same A B c d xs w ha hc hn2
theorem runL_small {k : Int} {xs ys : List Int} (hk : isWordB k = true) (hw : wordsB xs = true) (h1 : xs.length ≤ 200) (h2 : ys.length ≤ 200) : runL k xs ys = xs.take (gotTo xs.length ys ys.length) := by
  unfold runL runB
  simp [hk, hw, h1, h2]
set_option maxRecDepth 100000 in
set_option maxHeartbeats 6400000 in
theorem walk (A : Option Addr) (c : Nat) (bs : List Int) (w : World) (hb : Bytes w w.heap.size A bs) :
    Calls Try.prog 6 #[.slice A bs.length c] w fun e w' => e = .returned (.bool true) ∧ Below w.heap.size w w' := by
  have hl := hb.len
  have HB := hid hb
  clear hb
  by_cases h1 : (1048576 : Int) < (bs.length : Int)
  · go_enter Try.func6, Try.ntmps6
    go_wp2_with (go_at_call 11; refine (big_any _ _ _ _ hl).mono ?_; rintro e w' ⟨rfl, rfl⟩)
    go_ret
    exact ⟨rfl, Below.refl _ _⟩
  go_enter Try.func6, Try.ntmps6
  go_wp2_with fail
  refine (big_any _ _ _ _ hl).mono ?_
  rintro e w' ⟨rfl, rfl⟩
  go_wp2_with fail
  refine (places_any _ _ _ _ HB.out).mono ?_
  rintro e w0 ⟨ps, hlen, hsm, Ap, cp, he, hop, hb0⟩
  rw [hlen] at he hop
  subst he
  have HB0 := hid hb0
  have zw := hb0.size
  obtain ⟨g, rfl, hg0, hg1, hgc⟩ := own_at hop (by omega)
  have hcap := own_cap hop
  have HGC := hid hgc
  have HSM := hid hsm
  have HLEN := hid hlen
  have HOP := hid hop
  obtain ⟨x0, e0⟩ : ∃ x, ps[0]? = some x := ⟨_, List.getElem?_eq_getElem (by omega)⟩
  obtain ⟨x7, e7⟩ : ∃ x, ps[7]? = some x := ⟨_, List.getElem?_eq_getElem (by omega)⟩
  obtain ⟨p0, q0⟩ := hsm x0 (List.mem_of_getElem? e0)
  obtain ⟨p7, q7⟩ := hsm x7 (List.mem_of_getElem? e7)
  have r0 := hgc 0 _ (ints_get e0)
  have R7 := hid (hgc 7 _ (ints_get e7))
  have HW7 := hid (show isWordB x7 = true from isWordB_iff.2 (by omega))
  obtain ⟨m, hm⟩ : ∃ m : Nat, 1 + x0 % 5 = (m : Int) := ⟨(1 + x0 % 5).toNat, by omega⟩
  have hm1 : 1 ≤ m := by omega
  have hm5 : m ≤ 5 := by omega
  have HM := hid hm
  have HSW := hid (sub_words (m := m) hsm)
  have HSL := hid (sub_length (m := m) hlen hm5)
  clear hop hgc e0 e7 hlen hsm hb0 hm
  go_upto_region 5 with fail
  rw [HM.out]
  go_upto_region 6 with fail
  rw [show 1 + m - 1 = m by omega]
  go_wp2_with fail
  go_loopw [6, 7] (fun o i wr => ∃ (j : Nat) (ys : List Int) (A2 : Option Addr) (c2 : Nat), j ≤ 40 ∧ i = .int .i64 j ∧ ys.length = j ∧ o = .slice A2 j c2 ∧
    wr.ownsRow w0.heap.size 3 1 (.slice A2 j c2) j (ints ys) ∧ Below w0.heap.size w0 wr) (fun _ i _ => 40 - (intOf i).toNat)
  case atStart => exact ⟨0, [], some ⟨w0.heap.size, 0, none⟩, 0, Nat.zero_le _, rfl, rfl, rfl, own_lit (size := 1) #[] 0 rfl (Nat.le_refl _) (Nat.zero_le _) rfl, (Below.refl _ _).alloc (Nat.le_refl _) _⟩
  case round =>
    obtain ⟨j, ys, A2, c2, hj, rfl, hyl, rfl, hown, hb⟩ := hrel
    have zr := hb.size
    have HYL := hid hyl
    clear hyl
    by_cases hlt : j < 40
    · obtain ⟨y, hy⟩ : ∃ y, ps[j % 12]? = some y := ⟨_, List.getElem?_eq_getElem (by have := HLEN.out; omega)⟩
      obtain ⟨p1, q1⟩ := HSM.out y (List.mem_of_getElem? hy)
      have hcell := cell_kept (HGC.out (j % 12) _ (ints_get hy)) hb hg1
      have hq0 : 0 ≤ y / (1 + (j : Int) / 12) := Int.ediv_nonneg p1 (by omega)
      have hr0 := Int.emod_nonneg (y / (1 + (j : Int) / 12)) (show (m : Int) + 1 ≠ 0 by omega)
      have hr1 := Int.emod_lt_of_pos (y / (1 + (j : Int) / 12)) (show (0 : Int) < (m : Int) + 1 by omega)
      have HO := hid hown
      have HD := hid hb
      clear hy hown hb
      go_wp2_with (at_builtin; refine wpList_appi rfl _ _ 24 rfl w0.heap.size 3 (.int .i64 0) 1 8 Try.underlying24 infoInt rfl (by decide) _ j _ rfl (HO.out.alloc _) ⟨wr.heap.size, 0, none⟩ 1 1 _ rfl rfl (one_new _ _ _) (one_one _) (by omega) (by decide) (by simp; omega) ?_)
      intro A3 c3 w3 ho3 hg3 li3
      have hg := grown_alloc hg3
      have hb3 := gr_below hg HD.out (by omega) (fun q hq => (own_in HO.out q hq).1)
      rw [← ints_snoc] at ho3
      have HO3 := hid ho3
      have HD3 := hid hb3
      clear hg hg3 li3 ho3 hb3
      go_wp2
      go_roundw
      case rel => exact ⟨j + 1, _, A3, c3, by omega, by go_num, by rw [List.length_append, HYL.out]; rfl, rfl, HO3.out, HD3.out⟩
      case measure => simp [intOf]; omega
    · obtain rfl : j = 40 := by omega
      obtain ⟨wa, rfl⟩ : ∃ z : World, z = wr := ⟨_, rfl⟩
      have hpl := own_below HOP.out hb
      have r7 := cell_kept R7.out hb hg1
      have hgl := gotTo_le m ys 40
      have hra : runL x7 (sub ps m) ys = (sub ps m).take (gotTo m ys 40) := by
        rw [runL_small HW7.out HSW.out (by rw [HSL.out]; omega) (by rw [HYL.out]; omega), HSL.out, HYL.out]
      have HRA := hid hra
      have hla : ((sub ps m).take (gotTo m ys 40)).length = gotTo m ys 40 := by rw [List.length_take, HSL.out]; omega
      have HLA := hid hla
      have hrb : runL x7 (sub ps m) (ys ++ upTo m) = sub ps m := by
        rw [runL_small HW7.out HSW.out (by rw [HSL.out]; omega) (by rw [List.length_append, HYL.out, upTo_length]; omega), HSL.out, gotTo_full, List.take_of_length_le (by rw [HSL.out]; exact Nat.le_refl _)]
      have HRB := hid hrb
      have hlb : (ys ++ upTo m).length = 40 + m := by rw [List.length_append, HYL.out, upTo_length]
      have HLBB := hid hlb
      clear hra hla hrb hlb
      generalize hgg : gotTo m ys 40 = gg at *
      have HGG := hid hgg
      clear hgg
      have b_20 := hb
      have s_20 := b_20.size
      have pl_in := own_in hpl
      have pl_20 := hpl
      clear hpl
      have od_in := own_in hown
      have od_20 := hown
      clear hown
      have f7_20 := r7
      clear r7
      have lt_f7 : g < wa.heap.size := by omega
      go_wp2_with fail
      refine calls_forget0 (W := wa) ?_ ?_
      (focus (repeat (first | (with_reducible exact Below.refl _ _) | (with_reducible refine Below.trans ?_ (Below.mono (by assumption) (by first | omega | (simp; done) | (simp; omega) | (simp [*]; done)))) | (with_reducible refine Below.alloc ?_ (by first | omega | (simp; done) | (simp; omega) | (simp [*]; done)) _) | (with_reducible refine Below.setCell ?_ (by first | omega | (simp; done) | (simp; omega) | (simp [*]; done)) _) | (with_reducible refine Below.drew ?_))))
      intro X21 hX21
      have sX21 := hX21.size
      refine (iRun_at _ _ _ _ _ m 40 gg (sub ps m) ys _ _ HSL.out HYL.out HRA.out HLA.out (cells_sub (own_below pl_20 hX21) HLEN.out hm5) (Cells.of_own (own_below od_20 hX21)) (by omega) (by omega)).mono ?_
      rintro e w21 ⟨Aa, ca, rfl, aa_21, hb21⟩
      have s21 := hb21.size
      have hT21 := hX21.trans (hb21.mono sX21)
      have b_21 := b_20.trans (hT21.mono (by omega))
      have pl_21 := own_below pl_20 hT21
      have od_21 := own_below od_20 hT21
      have f7_21 := cell_kept f7_20 hT21 (by dsimp only; omega)
      have aa_in := own_in aa_21
      clear pl_20 od_20 f7_20 b_20 lt_f7 hX21 hT21 hb21
      have lt_f7 : g < w21.heap.size := by omega
      obtain ⟨wo, rfl⟩ : ∃ wo : World, wo = w21 := ⟨_, rfl⟩
      go_wp2_with fail
      clear f7_21 lt_f7
      have zo := b_21.size
      have hai := aa_in
      have hoi := od_in
      have hai2 := own_in pl_21
      go_loopw [9, 10] (fun o i wq => ∃ (j : Nat) (A4 : Option Addr) (c4 : Nat), j ≤ m ∧ i = .int .i64 j ∧ o = .slice A4 (40 + j) c4 ∧
        wq.ownsRow w0.heap.size 3 1 (.slice A4 (40 + j) c4) (40 + j) (ints (ys ++ upTo j)) ∧ (∀ q, (Value.slice A4 (40 + j) c4).ownBlock = some q → (w0.heap.size ≤ q ∧ q < wa.heap.size) ∨ wo.heap.size ≤ q) ∧
        wq.ownsRow X21.heap.size 3 1 (.slice Aa gg ca) gg (ints ((sub ps m).take gg)) ∧
        Below w0.heap.size w0 wq ∧ wo.heap.size ≤ wq.heap.size) (fun _ i _ => m - (intOf i).toNat)
      case atStart => exact ⟨0, A2, c2, by omega, rfl, rfl, by rw [show upTo 0 = [] from rfl, List.append_nil]; exact od_21, fun q hq => Or.inl (hoi q hq), aa_21, b_21, Nat.le_refl _⟩
      case round =>
        obtain ⟨j, A4, c4, hj, rfl, rfl, ho4, hin4, haa, hb2, hz⟩ := hrel
        clear pl_21 od_21 aa_21 b_21
        by_cases hlt : j < m
        · skip
          have b_30 := hb2
          have s_30 := b_30.size
          have od_in := hin4
          have od_30 := ho4
          clear ho4
          have aa_in := hai
          have aa_30 := haa
          clear haa
          go_wp2_with (at_builtin; refine wpList_appi rfl _ _ 24 rfl w0.heap.size 3 (.int .i64 0) 1 8 Try.underlying24 infoInt rfl (by decide) _ (40 + j) _ rfl (od_30.alloc _) ⟨wr.heap.size, 0, none⟩ 1 1 _ rfl rfl (one_new _ _ _) (one_one _) (by omega) (by decide) (by simp; omega) ?_)
          intro A_od c_od w31 od_31 hg31 li31
          have hg31 := grown_alloc hg31
          try simp only [World.size_alloc] at li31
          have s31 := hg31.size
          have b_31 := gr_below hg31 b_30 (by omega) (fun q hq => by have h1 := od_in q hq; omega)
          have aa_31 := gr_own hg31 aa_30 (fun q p hq hp => by have h1 := od_in q hq; have h2 := aa_in p hp; omega)
          have od_ix : ∀ q, (Value.slice A_od ((40 + j) + 1) c_od).ownBlock = some q → (w0.heap.size ≤ q ∧ q < wa.heap.size) ∨ wo.heap.size ≤ q := (fun q hq => by have h3 := (own_in od_31 q hq).2; rcases li31 q hq with h | h; (have h1 := od_in q h; omega); omega)
          clear od_30 aa_30 b_30 hg31 li31 od_in
          have od_in := od_ix
          clear od_ix
          rw [← ints_snoc, List.append_assoc] at od_31
          go_wp2
          go_roundw
          case rel => exact ⟨j + 1, A_od, c_od, by omega, by go_num, rfl, od_31, od_in, aa_31, b_31, by omega⟩
          case measure => simp [intOf]; omega
        · obtain rfl : j = m := by omega
          have hpl := own_below HOP.out hb2
          have r7 := cell_kept R7.out hb2 hg1
          have hdec : decide (j < gg) = false := by simp; omega
          have b_40 := hb2
          have s_40 := b_40.size
          have pl_in := own_in hpl
          have pl_40 := hpl
          clear hpl
          have od_in := hin4
          have od_40 := ho4
          clear ho4
          have aa_in := hai
          have aa_40 := haa
          clear haa
          have f7_40 := r7
          clear r7
          have lt_f7 : g < wr.heap.size := by omega
          go_wp2_with fail
          refine calls_forget0 (W := wr) ?_ ?_
          (focus (repeat (first | (with_reducible exact Below.refl _ _) | (with_reducible refine Below.trans ?_ (Below.mono (by assumption) (by first | omega | (simp; done) | (simp; omega) | (simp [*]; done)))) | (with_reducible refine Below.alloc ?_ (by first | omega | (simp; done) | (simp; omega) | (simp [*]; done)) _) | (with_reducible refine Below.setCell ?_ (by first | omega | (simp; done) | (simp; omega) | (simp [*]; done)) _) | (with_reducible refine Below.drew ?_))))
          intro X41 hX41
          have sX41 := hX41.size
          refine (iRun_at _ _ _ _ _ j (40 + j) j (sub ps j) (ys ++ upTo j) _ _ HSL.out HLBB.out HRB.out HSL.out (cells_sub (own_below pl_40 hX41) HLEN.out hm5) (Cells.of_own (own_below od_40 hX41)) (by omega) (by omega)).mono ?_
          rintro e w41 ⟨Ab, cb, rfl, rb_41, hb41⟩
          have s41 := hb41.size
          have hT41 := hX41.trans (hb41.mono sX41)
          have b_41 := b_40.trans (hT41.mono (by omega))
          have pl_41 := own_below pl_40 hT41
          have od_41 := own_below od_40 hT41
          have aa_41 := own_below aa_40 hT41
          have f7_41 := cell_kept f7_40 hT41 (by dsimp only; omega)
          have rb_in := own_in rb_41
          clear pl_40 od_40 aa_40 f7_40 b_40 lt_f7 hX41 hT41 hb41
          have lt_f7 : g < w41.heap.size := by omega
          go_wp2_with fail
          refine calls_forget0 (W := w41) ?_ ?_
          (focus (repeat (first | (with_reducible exact Below.refl _ _) | (with_reducible refine Below.trans ?_ (Below.mono (by assumption) (by first | omega | (simp; done) | (simp; omega) | (simp [*]; done)))) | (with_reducible refine Below.alloc ?_ (by first | omega | (simp; done) | (simp; omega) | (simp [*]; done)) _) | (with_reducible refine Below.setCell ?_ (by first | omega | (simp; done) | (simp; omega) | (simp [*]; done)) _) | (with_reducible refine Below.drew ?_))))
          intro X42 hX42
          have sX42 := hX42.size
          refine (same_at _ _ _ _ j (sub ps j) _ HSL.out (Cells.of_own (own_below rb_41 hX42)) (cells_sub (own_below pl_41 hX42) HLEN.out hm5) (by omega)).mono ?_
          rintro e w42 ⟨rfl, hb42⟩
          have s42 := hb42.size
          have hT42 := hX42.trans (hb42.mono sX42)
          have b_42 := b_41.trans (hT42.mono (by omega))
          have pl_42 := own_below pl_41 hT42
          have od_42 := own_below od_41 hT42
          have aa_42 := own_below aa_41 hT42
          have rb_42 := own_below rb_41 hT42
          have f7_42 := cell_kept f7_41 hT42 (by dsimp only; omega)
          clear pl_41 od_41 aa_41 rb_41 f7_41 b_41 lt_f7 hX42 hT42 hb42
          have lt_f7 : g < w42.heap.size := by omega
          obtain ⟨wz, rfl⟩ : ∃ z : World, z = w42 := ⟨_, rfl⟩
          go_wp2_with fail
          have hca := Cells.of_own aa_42
          have hcb := cells_sub pl_42 HLEN.out hm5
          have HCA := hid hca
          have HCB := hid hcb
          have HB42 := hid b_42
          have zz := b_42.size
          clear hca hcb aa_42 pl_42 od_42 rb_42 f7_42 lt_f7 b_42
          go_loopw [12] (fun i wq => ∃ k : Nat, k ≤ gg ∧ i = .int .i64 k ∧ Below wz.heap.size wz wq) (fun i _ => gg - (intOf i).toNat)
          case atStart => exact ⟨0, Nat.zero_le _, rfl, Below.refl _ _⟩
          case round =>
            obtain ⟨k, hk, rfl, hb5⟩ := hrel
            by_cases hkl : k < gg
            · obtain ⟨x, hx⟩ : ∃ x, (sub ps j)[k]? = some x := ⟨_, List.getElem?_eq_getElem (by rw [HSL.out]; omega)⟩
              have hx2 : ((sub ps j).take gg)[k]? = some x := by rw [List.getElem?_take, if_pos hkl]; exact hx
              obtain ⟨b1, o1, rfl, hB1, hc1⟩ := HCA.out (by rw [ints_length, HLA.out]; omega)
              obtain ⟨b2, o2, he2, hB2, hc2⟩ := HCB.out (by rw [ints_length, HSL.out]; omega)
              injection he2 with he2
              injection he2 with he2 he3 _
              subst he2 he3
              have hcell := cell_kept (hc1 k _ (ints_get hx2)) hb5 hB1
              have hcell' := cell_kept (hc2 k _ (ints_get hx)) hb5 hB2
              have HB5 := hid hb5
              have hk1 : (k : Int) < (gg : Int) := by omega
              have hk2 : (k : Int) < (j : Int) := by omega
              clear hc1 hc2 hx hx2 hb5
              go_wp2
              go_quiet (fail)
              go_wp2
              go_roundw
              case rel => exact ⟨k + 1, by omega, by go_num, ⟨HB5.out.os, HB5.out.tape, HB5.out.output, HB5.out.size, HB5.out.block⟩⟩
              case measure => simp [intOf]; omega
            · obtain rfl : k = gg := by omega
              go_wp2
              go_ret
              exact ⟨rfl, HB0.out.trans (((HB42.out).trans (hb5.mono zz)).mono zw)⟩
set_option maxRecDepth 100000 in
theorem lifted (os : Os) (started : os.Started) (H : Type) (enc : TypeId × Value → H) :
    ReturnsInHanded {} Try.checked os 6 .any (Rows.fnDeliveredSpec.pre6 enc Try.prog Try.f6 Rows.fnDeliveredRow.domain false) (Rows.fnDeliveredSpec.post enc Try.prog Try.f6 false true false false) := by
  refine returnsInHanded_of_change (C := Try.checked) own started (by kernel_rfl) Try.func6
    (ChangeSpec.witness6 (enc := enc) (C := Try.checked) false ⟨#[], #[.slice none 0 0], []⟩ 8 (by kernel_rfl) (by kernel_rfl) (by kernel_rfl) (by kernel_rfl)) ?_
  intro W base args ds gs before hval0 hW _ _
  have hval : ∀ (j : Nat) t v, Try.f6.params[j]? = some t → args[j]? = some v → Value.okWide Try.prog W .any base t v := hval0
  have hW' := hW
  obtain ⟨p, q, hA0, hV, rfl, _, _⟩ := hW
  have hA : DataW.TrodAll enc Try.prog W 0 (fun _ => true) true Try.f6.params.toList args.toList ds p := hA0
  rw [Try.params6] at hA hval
  obtain ⟨v0, vs0, d0, ds0, p0, q0, hargs, rfl, rfl, h0, r0⟩ := trodAll_cons hA
  obtain ⟨rfl, rfl, rfl⟩ := trodAll_nil r0
  obtain rfl : args = #[v0] := by cases args; simp_all
  obtain ⟨rfl, rfl⟩ := trodVars_none hV
  obtain ⟨A0, c0, xs0, rfl, hb0⟩ := view_bytes Try.underlying22 Try.underlying5 (by kernel_rfl) (hval 0 22 v0 rfl rfl) h0 (fun x hx => hW'.lt x (by simp [hx]))
  refine (walk A0 c0 xs0 W hb0).mono fun e W' ⟨he, hb⟩ => ?_
  subst he
  exact ⟨_, rfl, law_post rfl (by kernel_rfl) (by kernel_rfl) rfl Try.underlying4 hW' rfl rfl rfl hb⟩
theorem closed : joinedFacts Try.prog 6 Try.f6 Rows.fnDeliveredSpec Rows.fnDeliveredRow = true := by
  unfold joinedFacts
  rw [makeIs, mayIs, finalsIs]
  kernel_rfl
theorem over : Rows.fnDeliveredRow.holds Try.pinned (OpenSpec.ofChange Rows.fnDeliveredSpec) :=
  OpenClaim.holds_of_wide 6 Try.f6 rfl rfl rfl rfl rfl rfl rfl ⟨rfl, rfl, rfl, rfl, rfl⟩ rfl rfl rfl rfl rfl (by kernel_rfl) Try.func6 closed
    (of_decide_eq_true (by kernel_rfl)) (by unfold Func.isWrapper; first | (rw [if_pos (by decide +kernel)]; kernel_rfl) | (rw [if_neg (by decide +kernel)]; exact ⟨rfl, rfl⟩))
    (fun os started H enc _ => lifted os started H enc)
theorem proved : Rows.FnDeliveredSaid := over
#print axioms proved

end delivered
end Go.Proofs.Ytdfomahaplcgoaa
