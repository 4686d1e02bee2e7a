import Derived.Test.YtjknadnknainbaaGreatDoorFmtAct
import Derived.Test.YtjknadnknainbaaGreatDoorWordsP
import Derived.Lib.AtoiErrMem
import Derived.Test.YtjknadnknainbaaGreatDoorSchedTxt
import Derived.Test.YtjknadnknainbaaGreatDoorFlat
/- ParseUint, in the program: strconv.Atoi by the library's own contracts. -/
namespace Go.Proofs.YtjknadnknainbaaGreatDoor
open Go.RowKit

theorem var_below {w w' : World} {b : Nat} {name : String} {cs : Array Value} (h : w.var? Tryz.prog name = some cs) (hb : Below b w w') (hg : ∀ g, Tryz.prog.globalNamed name = some g → g < b) : w'.var? Tryz.prog name = some cs := by
  unfold World.var? at h ⊢
  rcases hq : Tryz.prog.globalNamed name with _ | g
  · rw [hq] at h
    simp at h
  · rw [hq] at h
    simp only [Option.bind_some] at h ⊢
    rw [hb.block g (hg g hq)]
    exact h
theorem var_lt {w : World} {name : String} {cs : Array Value} (h : w.var? Tryz.prog name = some cs) : ∀ g, Tryz.prog.globalNamed name = some g → g < w.heap.size := by
  intro g hq
  unfold World.var? at h
  rw [hq] at h
  simp only [Option.bind_some] at h
  rcases Nat.lt_or_ge g w.heap.size with h' | h'
  · exact h'
  · rw [Array.getElem?_eq_none h'] at h; cases h
/-- What the library's functions read of the library's own variables. -/
structure Env (w : World) : Prop where
  tab : Tab w
  syn : ∃ tp p, w.var? Tryz.prog "strconv.ErrSyntax" = some #[.iface tp p]
  rng : ∃ tp p, w.var? Tryz.prog "strconv.ErrRange" = some #[.iface tp p]
  max : ∃ m, w.cell? ⟨0, 0, none⟩ = some (.int .i64 m)
  lt : 0 < w.heap.size
theorem Env.step {w0 w w' : World} (h : Env w) (hb : Below w0.heap.size w w') (h0 : Env w0) : Env w' := by
  obtain ⟨tp, p, h1⟩ := h.syn
  obtain ⟨tp', p', h2⟩ := h.rng
  obtain ⟨m, h3⟩ := h.max
  obtain ⟨_, _, g1⟩ := h0.syn
  obtain ⟨_, _, g2⟩ := h0.rng
  exact ⟨h.tab.step hb h0.tab, ⟨tp, p, var_below h1 hb (var_lt g1)⟩, ⟨tp', p', var_below h2 hb (var_lt g2)⟩, ⟨m, (hb.cell (p := ⟨0, 0, none⟩) h0.lt).trans h3⟩, Nat.lt_of_lt_of_le h.lt hb.size⟩
theorem size_le {l : List UInt8} {n : Nat} (h : l.length ≤ n) : (ByteArray.mk l.toArray).size ≤ n := by
  show l.toArray.size ≤ n
  rw [List.size_toArray]
  exact h
/-- strconv.Atoi at every text: a number and no error, or an error. -/
theorem iAtoi (l : List UInt8) (w : World) (hl : l.length ≤ 100000) (he : Env w) :
    Calls Tryz.prog 60 #[.string ⟨l.toArray⟩] w fun e w' => ((∃ v, Lib.atoiAll l = .ok v ∧ e = .returned (.tuple #[.int .i64 v, .nilIface])) ∨ ((∀ v, Lib.atoiAll l ≠ .ok v) ∧ ∃ x t p, e = .returned (.tuple #[.int .i64 x, .iface t p]))) ∧ Below w.heap.size w w' := by
  have hs := size_le (Nat.le_trans hl (show 100000 ≤ 281474976710656 by decide))
  rcases h : Lib.atoiAll l with v | _ | _
  · refine (Tryz.strconv_Atoi_ok ⟨l.toArray⟩ (Nat.le_trans hs (by decide)) v h w).mono ?_
    rintro e w' ⟨he, hw⟩
    refine ⟨.inl ⟨v, rfl, he⟩, ?_⟩
    rcases hw with rfl | ⟨t, rfl⟩
    · exact Below.refl _ _
    · exact Lib.bytesWorld_below _ _ _
  · obtain ⟨tp, p, h1⟩ := he.syn
    refine (Tryz.strconv_Atoi_syntax_var ⟨l.toArray⟩ hs (fun v hv => by have e := h.symm.trans hv; cases e) (fun hv => by have e := h.symm.trans hv; cases e) tp p w h1).mono ?_
    rintro e w' ⟨N, he, _, _, hb⟩
    exact ⟨.inr ⟨(fun v hv => by cases hv), _, _, _, he⟩, hb⟩
  · obtain ⟨tp, p, h1⟩ := he.rng
    refine (Tryz.strconv_Atoi_range_var ⟨l.toArray⟩ hs h tp p w h1).mono ?_
    rintro e w' ⟨N, he, _, _, hb⟩
    exact ⟨.inr ⟨(fun v hv => by cases hv), _, _, _, he⟩, hb⟩
set_option maxHeartbeats 1600000 in
theorem iParseUint (l : List UInt8) (w : World) (hl : l.length ≤ 100000) (he : Env w) :
    Calls Tryz.prog 40 #[.string ⟨l.toArray⟩] w fun e w' => e = .returned (.tuple #[.int .i64 (puN l), .bool (puB l)]) ∧ Below w.heap.size w w' := by
  have HE := hid he
  have HA := hid (fun w he => iAtoi l w hl he)
  clear he
  go_enter Tryz.func40, Tryz.ntmps40
  go_wp2_with fail
  refine (HA.out _ HE.out).mono ?_
  rintro e w1 ⟨hv, hb1⟩
  have HE1 := hid (HE.out.step hb1 HE.out)
  have HB := hid hb1
  clear hb1
  rcases hv with ⟨v, hv, rfl⟩ | ⟨hno, x, t, p, rfl⟩
  · by_cases h0 : v < 0
    · have hb := puB_no (l := l) (fun u hu => by rw [hv] at hu; cases hu; omega)
      have HN := hid (show puN l = 0 by unfold puN; rw [hb]; rfl)
      have HP := hid hb
      clear hb hv
      go_wp2
      go_returns
      exact ⟨by rw [HN.out, HP.out]; rfl, HB.out⟩
    by_cases h1 : 1000000000 < v
    · have hb := puB_no (l := l) (fun u hu => by rw [hv] at hu; cases hu; omega)
      have HN := hid (show puN l = 0 by unfold puN; rw [hb]; rfl)
      have HP := hid hb
      clear hb hv
      go_wp2
      go_returns
      exact ⟨by rw [HN.out, HP.out]; rfl, HB.out⟩
    have h0' : 0 ≤ v := by omega
    have h1' : v ≤ 1000000000 := by omega
    have HC := hid (fun w ht => Tryz.strconv_Itoa v (by omega) (by omega) w ht)
    obtain ⟨T, hT⟩ : ∃ T, Lib.itoa v = T := ⟨_, rfl⟩
    rw [hT] at HC
    by_cases he : T = l
    · subst he
      obtain ⟨hb, hn⟩ := puB_of h0' h1' hT
      have HN := hid hn
      have HP := hid hb
      clear hb hn hT hv
      go_wp2_with fail
      refine (HC.out _ HE1.out.tab).mono ?_
      rintro e w2 ⟨rfl, k, os, rfl⟩
      have HB2 := hid (HB.out.trans ((grow_below w1 k os).mono HB.out.size))
      go_wp2
      go_returns
      exact ⟨by rw [HN.out, HP.out]; rfl, HB2.out⟩
    · have hb := puB_no (l := l) (fun u hu => by
        rw [hv] at hu
        cases hu
        rw [hT]
        exact fun h => he h.2.2)
      have HN := hid (show puN l = 0 by unfold puN; rw [hb]; rfl)
      have HP := hid hb
      have hne : (T == l) = false := by simpa using he
      clear hb hT hv he
      go_wp2_with fail
      refine (HC.out _ HE1.out.tab).mono ?_
      rintro e w2 ⟨rfl, k, os, rfl⟩
      have HB2 := hid (HB.out.trans ((grow_below w1 k os).mono HB.out.size))
      go_wp2
      go_returns
      exact ⟨by rw [HN.out, HP.out]; rfl, HB2.out⟩
  · have hb := puB_no (l := l) (fun v hv => absurd hv (hno v))
    have HN := hid (show puN l = 0 by unfold puN; rw [hb]; rfl)
    have HP := hid hb
    clear hno hb
    go_wp2
    go_returns
    exact ⟨by rw [HN.out, HP.out]; rfl, HB.out⟩
end Go.Proofs.YtjknadnknainbaaGreatDoor
/- SplitFields, in the program: strings.Split by the library's own contract. -/
namespace Go.Proofs.YtjknadnknainbaaGreatDoor
open Go.RowKit

/-- Whether a line may be read: its length, its bytes, how many words. -/
def byteOk (b : UInt8) : Bool := decide (32 ≤ b.toNat) && decide (b.toNat ≤ 126)
def sfB (l : List UInt8) : Bool := decide (l.length ≤ 600) && l.all byteOk && decide ((flds l).length ≤ 24)
theorem index_byte (l : List UInt8) (k : Nat) (x : UInt8) (h : l[k]? = some x) : ∀ (hk : k < (ByteArray.mk l.toArray).size), (ByteArray.mk l.toArray)[k]'hk = x := fun hk => by
  have h2 := List.getElem?_eq_some_iff.1 h
  exact h2.2
theorem take_all_snoc {l : List UInt8} {k : Nat} {x : UInt8} (h : l[k]? = some x) (ha : (l.take k).all byteOk = true) (hx : byteOk x = true) : (l.take (k + 1)).all byteOk = true := by
  rw [List.take_add_one, h, List.all_append, ha]
  simp [hx]
theorem all_no {l : List UInt8} {k : Nat} {x : UInt8} (h : l[k]? = some x) (hx : byteOk x = false) : l.all byteOk = false := by
  rw [List.all_eq_false]
  exact ⟨x, List.mem_of_getElem? h, by simp [hx]⟩
theorem mk_back : ∀ (P : List ByteArray) (L : List (List UInt8)), P.map (·.data.toList) = L → P.map Value.string = strs L
  | [], _, h => by subst h; rfl
  | b :: P, _, h => by
    subst h
    have ih := mk_back P _ rfl
    rw [List.map_cons, ih]
    rfl
theorem iSplitLib (l : List UInt8) (w : World) (hl : l.length ≤ 1048576) (he : Env w) :
    Calls Tryz.prog 21 #[.string ⟨l.toArray⟩, .string ⟨#[32]⟩] w fun e w' => e = .returned (.slice (some ⟨w.heap.size, 0, none⟩) (spl l).length (spl l).length) ∧ w' = w.alloc (.cells (strs (spl l)).toArray 9) := by
  obtain ⟨m, hm⟩ := he.max
  have h := Tryz.strings_Split ⟨l.toArray⟩ ⟨#[32]⟩ m w (Nat.lt_of_le_of_lt (size_le hl) (by decide)) hm (by decide)
  have h1 : (Lib.splitB ⟨#[32]⟩ 0 (Lib.countB ⟨l.toArray⟩ ⟨#[32]⟩) ⟨l.toArray⟩).map (·.data.toList) = spl l := by
    rw [Lib.splitB_data]
    exact splitK_spl l
  have h2 := mk_back _ _ h1
  have h3 : Lib.countB ⟨l.toArray⟩ ⟨#[32]⟩ + 1 = (spl l).length := by
    rw [← h1, List.length_map]
    exact (Lib.splitB_all ⟨#[32]⟩ (by decide) 0 _ _ rfl).symm
  rw [h2, h3] at h
  exact h
theorem spl_len : ∀ l, (spl l).length ≤ l.length + 1
  | [] => by simp [spl]
  | b :: r => by
    have ih := spl_len r
    unfold spl
    split
    · simp; omega
    · split
      · rename_i h t e
        rw [e] at ih
        simp at ih ⊢
        omega
      · simp
theorem str_one (a : ByteArray) : ∀ u ∈ [Value.string a], u.oneCell' = true := by
  intro u hu
  simp at hu
  subst hu
  rfl
def full (w : List UInt8) : Bool := decide (w ≠ [])
theorem flds_full (l : List UInt8) : flds l = (spl l).filter full := rfl
theorem filter_snoc {L : List (List UInt8)} {k : Nat} {x : List UInt8} (h : L[k]? = some x) : (L.take (k + 1)).filter full = (L.take k).filter full ++ (if x = [] then [] else [x]) := by
  rw [List.take_add_one, h, List.filter_append]
  by_cases hx : x = []
  · subst hx; simp [full]
  · rw [if_neg hx]; simp [full, hx]
set_option maxHeartbeats 3200000 in
theorem iSplitFields (l : List UInt8) (w : World) (hl : l.length ≤ 1048576) (he : Env w) :
    Calls Tryz.prog 22 #[.string ⟨l.toArray⟩] w fun e w' => ∃ (n : Nat) (A : Option Addr) (c : Nat), e = .returned (.tuple #[.slice A n c, .bool (sfB l)]) ∧ (sfB l = true → n = (flds l).length ∧ w'.ownsRow w.heap.size 9 1 (.slice A n c) n (strs (flds l))) ∧ Below w.heap.size w w' := by
  have HE := hid he
  clear he
  by_cases h1 : 600 < l.length
  · have hs : sfB l = false := by unfold sfB; rw [decide_eq_false (by omega)]; rfl
    have HS := hid hs
    have h1' : (600 : Int) < (l.length : Int) := by omega
    clear hs
    go_enter Tryz.func22, Tryz.ntmps22
    go_wp2
    go_returns
    exact ⟨0, none, 0, by rw [HS.out]; rfl, fun h => absurd (HS.out.symm.trans h) (by decide), Below.refl _ _⟩
  have h1' : ¬ (600 : Int) < (l.length : Int) := by omega
  go_enter Tryz.func22, Tryz.ntmps22
  go_wp2
  go_loopw [4] (fun i wr => ∃ k : Nat, k ≤ l.length ∧ i = .int .i64 k ∧ w = wr ∧ (l.take k).all byteOk = true) (fun i _ => l.length - (intOf i).toNat)
  case atStart => exact ⟨0, Nat.zero_le _, rfl, rfl, rfl⟩
  case round =>
    obtain ⟨k, hk, rfl, rfl, hall⟩ := hrel
    by_cases hlt : k < l.length
    · obtain ⟨x, hx⟩ : ∃ x, l[k]? = some x := ⟨_, List.getElem?_eq_getElem hlt⟩
      have hlt' : (k : Int) < (l.length : Int) := by omega
      have hix := index_byte l k x hx
      cases hok : byteOk x
      · have hno := all_no hx hok
        have hs : sfB l = false := by unfold sfB; rw [hno]; simp
        have HS := hid hs
        have h3 : (x.toNat : Int) < 32 ∨ (126 : Int) < (x.toNat : Int) ∧ (32 : Int) ≤ (x.toNat : Int) := by
          unfold byteOk at hok
          simp at hok
          omega
        clear hx hall hno hs hok
        rcases h3 with h3 | ⟨h3, h4⟩
        all_goals
          go_wp2
          go_returns
          exact ⟨0, none, 0, by rw [HS.out]; rfl, (fun h => absurd (HS.out.symm.trans h) (by decide)), Below.refl _ _⟩
      · have h3 : ¬ (x.toNat : Int) < 32 ∧ ¬ (126 : Int) < (x.toNat : Int) := by
          unfold byteOk at hok
          simp at hok
          omega
        obtain ⟨h4, h5⟩ := h3
        have HA := hid (take_all_snoc hx hall hok)
        clear hx hall hok
        go_wp2
        go_roundw
        case rel => exact ⟨k + 1, by omega, by go_num, trivial, HA.out⟩
        case measure => simp [intOf]; omega
    · obtain rfl : k = l.length := by omega
      rw [List.take_length] at hall
      have HA := hid hall
      clear hall
      have hlen := spl_len l
      have HSL := hid (fun w he => iSplitLib l w hl he)
      obtain ⟨L, hL⟩ : ∃ L, spl l = L := ⟨_, rfl⟩
      rw [hL] at hlen
      rw [hL] at HSL
      have HFL := hid (show flds l = L.filter full by rw [flds_full, hL])
      obtain ⟨N, hN⟩ : ∃ N, L.length = N := ⟨_, rfl⟩
      rw [hN] at HSL hlen
      have HLN := hid hN
      clear hL hN
      go_wp2_with fail
      refine (HSL.out _ (HE.out.step ((Below.refl w.heap.size w).alloc (Nat.le_refl _) _) HE.out)).mono ?_
      rintro e w2 ⟨rfl, rfl⟩
      have HO := hid (show ((w.alloc (.cells #[] 9)).alloc (.cells (strs L).toArray 9)).ownsRow w.heap.size 9 1 (.slice (some ⟨w.heap.size, 0, none⟩) 0 0) 0 (strs []) from World.ownsRow.alloc (own_lit (size := 1) #[] 0 rfl (Nat.le_refl _) (Nat.zero_le _) rfl) _)
      have HK := hid (show Blk ((w.alloc (.cells #[] 9)).alloc (.cells (strs L).toArray 9)) (w.alloc (.cells #[] 9)).heap.size 9 (strs L).toArray from Blk.new rfl)
      have HB := hid (show Below w.heap.size w ((w.alloc (.cells #[] 9)).alloc (.cells (strs L).toArray 9)) from ((Below.refl w.heap.size w).alloc (Nat.le_refl _) _).alloc (by simp) _)
      have hz : (w.alloc (.cells #[] 9)).heap.size = w.heap.size + 1 := by simp
      have hz2 : ((w.alloc (.cells #[] 9)).alloc (.cells (strs L).toArray 9)).heap.size = w.heap.size + 2 := by simp
      rw [hz] at HK
      rw [hz]
      obtain ⟨w2, hw2⟩ : ∃ w2, w2 = (w.alloc (.cells #[] 9)).alloc (.cells (strs L).toArray 9) := ⟨_, rfl⟩
      rw [← hw2] at HO HK HB hz2
      rw [← hw2]
      clear hw2 hz
      go_wp2_with fail
      go_loopw [5, 7, 31] (fun o _ i wr => ∃ (k n : Nat) (A : Option Addr) (c : Nat), k ≤ N ∧ i = .int .i64 k ∧ o = .slice A n c ∧ n ≤ k ∧ n = ((L.take k).filter full).length ∧ wr.ownsRow w.heap.size 9 1 (.slice A n c) n (strs ((L.take k).filter full)) ∧
        (∀ q, (Value.slice A n c).ownBlock = some q → q = w.heap.size ∨ w.heap.size + 2 ≤ q) ∧ Blk wr (w.heap.size + 1) 9 (strs L).toArray ∧ Below w.heap.size w wr) (fun _ _ i _ => N - (intOf i).toNat)
      case atStart => exact ⟨0, 0, some ⟨w.heap.size, 0, none⟩, 0, Nat.zero_le _, rfl, rfl, Nat.le_refl _, rfl, HO.out, (fun q hq => .inl (own_here q hq)), HK.out, HB.out⟩
      case round =>
        obtain ⟨k, n, A, c, hk, rfl, rfl, hnk, hn, hown, hne, hkb, hb⟩ := hrel
        have zr := hkb.lt
        have zb := hb.size
        by_cases hlt : k < N
        · obtain ⟨x, hx⟩ : ∃ x, L[k]? = some x := ⟨_, List.getElem?_eq_getElem (by rw [HLN.out]; exact hlt)⟩
          have hlt' : (k : Int) < (N : Int) := by omega
          have hcell : wr.cell? ⟨w.heap.size + 1, k, none⟩ = some (.string ⟨x.toArray⟩) := by
            rw [hkb.cell k]
            have := strs_get hx
            simpa [txt] using this
          have HF := hid (filter_snoc hx)
          have HNN := hid hn
          have HOW := hid hown
          have HNE := hid hne
          have HKB := hid hkb
          have HBB := hid hb
          clear hx hn hown hne hkb hb
          rcases x with _ | ⟨a, r⟩
          · go_wp2
            go_roundw
            case rel => exact ⟨k + 1, n, A, c, by omega, by go_num, rfl, by omega, by rw [HF.out]; simpa using HNN.out, by rw [HF.out]; simpa using HOW.out, HNE.out, HKB.out, HBB.out⟩
            case measure => simp [intOf]; omega
          · go_wp2_with (at_builtin; go_loud (refine wpList_appi rfl _ _ 31 rfl w.heap.size 9 (.string ⟨#[]⟩) 1 16 Tryz.underlying31 infoStr rfl (by decide) _ n _ rfl (HOW.out.alloc _) ⟨wr.heap.size, 0, none⟩ 1 1 _ rfl rfl (one_new _ _ _) (str_one _) (by omega) (by decide) (by simp; omega) ?_))
            intro A3 c3 w3 ho3 hg3 li3
            have hg := grown_alloc hg3
            have s3 := hg.size
            have hne3 : ∀ q, (Value.slice A3 (n + 1) c3).ownBlock = some q → q = w.heap.size ∨ w.heap.size + 2 ≤ q := fun q hq => by
              rcases li3 q hq with h | h
              · exact HNE.out q h
              · (try simp at h); omega
            have HKB3 := hid (gr_blk hg HKB.out (fun q hq => by have := HNE.out q hq; omega))
            have HBB3 := hid (gr_below hg HBB.out (by omega) (fun q hq => by have := HNE.out q hq; omega))
            have HN3 := hid hne3
            have HOW3 := hid (show w3.ownsRow w.heap.size 9 1 (.slice A3 (n + 1) c3) (n + 1) (strs ((L.take (k + 1)).filter full)) by rw [HF.out, if_neg (by simp), strs_snoc]; exact ho3)
            have HL3 := hid (show n + 1 = ((L.take (k + 1)).filter full).length by rw [HF.out, if_neg (by simp), List.length_append, ← HNN.out]; rfl)
            clear hg hg3 li3 ho3 hne3
            go_wp2
            go_roundw
            case rel => exact ⟨k + 1, n + 1, A3, c3, by omega, by go_num, rfl, by omega, HL3.out, HOW3.out, HN3.out, HKB3.out, HBB3.out⟩
            case measure => simp [intOf]; omega
        · obtain rfl : k = N := by omega
          have HNN := hid (show n = (flds l).length by rw [HFL.out, hn, ← HLN.out, List.take_length])
          have HOW := hid (show wr.ownsRow w.heap.size 9 1 (.slice A n c) n (strs (flds l)) by rw [HFL.out, ← List.take_length (l := L), HLN.out]; exact hown)
          have HBB := hid hb
          have hs : sfB l = decide (n ≤ 24) := by
            unfold sfB
            rw [HA.out, decide_eq_true (by omega), ← HNN.out]
            simp
          have HS := hid hs
          clear hn hown hne hkb hb hs
          by_cases h24 : (24 : Int) < (n : Int)
          · go_wp2
            go_returns
            exact ⟨0, none, 0, by rw [HS.out, decide_eq_false (by omega)]; rfl, (fun h => by rw [HS.out] at h; simp at h; omega), HBB.out⟩
          · go_wp2
            go_returns
            exact ⟨n, A, c, by rw [HS.out, decide_eq_true (by omega)]; rfl, (fun _ => ⟨HNN.out, HOW.out⟩), HBB.out⟩
end Go.Proofs.YtjknadnknainbaaGreatDoor
/- An act's text and its words: the plain law of ParseAct. -/
namespace Go.Proofs.YtjknadnknainbaaGreatDoor
open Go.RowKit

def wAdd : List UInt8 := [97, 100, 100]
def wStep : List UInt8 := [115, 116, 101, 112]
def wRes : List UInt8 := [114, 101, 115, 101, 114, 118, 101]
def wCrash : List UInt8 := [99, 114, 97, 115, 104]
/-- The words of an act's text. -/
def actWs (k i d n : Int) : List (List UInt8) := if k = 1 then [wAdd, Lib.itoa i, Lib.itoa d, Lib.itoa n] else if k = 2 then [wStep, Lib.itoa n] else if k = 3 then [wRes, Lib.itoa n] else [wCrash]
theorem actWs_ne (k i d n : Int) : actWs k i d n ≠ [] := by
  unfold actWs
  split
  · simp
  · split
    · simp
    · split <;> simp
def kdOf (x : List UInt8) : Int := if x = wCrash then 4 else if x = wRes then 3 else if x = wStep then 2 else if x = wAdd then 1 else 0
def nfOf (x : List UInt8) : Nat := if x = wAdd then 3 else 1
def gN (ws : List (List UInt8)) (j : Nat) : Int := puN (ws.getD j [])
def aI (x : List UInt8) (ws : List (List UInt8)) : Int := if x = wAdd then gN ws 0 else 0
def aD (x : List UInt8) (ws : List (List UInt8)) : Int := if x = wAdd then gN ws 1 else 0
def aN (x : List UInt8) (ws : List (List UInt8)) : Int := if x = wAdd then gN ws 2 else gN ws 0
/-- Whether the words are those of an act. -/
def paB : List (List UInt8) → Bool
  | [] => false
  | x :: ws => ws.all puB && decide (ws.length ≤ nfOf x) && actOkB (kdOf x) (aI x ws) (aD x ws) (aN x ws) && decide (actTxt (kdOf x) (aI x ws) (aD x ws) (aN x ws) = Lib.join (x :: ws) [32])
theorem puN_nil : puN [] = 0 := by
  unfold puN
  split
  · simp [valF]
  · rfl
theorem itoa_wordB {n : Int} (h : 0 ≤ n) : wordB (Lib.itoa n) := by
  obtain ⟨m, rfl⟩ : ∃ m : Nat, n = m := ⟨n.toNat, by omega⟩
  rw [Lib.itoa_nonneg]
  refine ⟨dec_ne m, fun b hb e => ?_⟩
  have := dec_digits m b hb
  subst e
  simp at this
theorem actWs_txt {k i d n : Int} (h : actOkB k i d n = true) : actTxt k i d n = Lib.join (actWs k i d n) [32] := by
  rcases act_kinds h with ⟨rfl, h1, h2, h3⟩ | ⟨rfl, h3⟩ | ⟨rfl, h3⟩ | rfl
  · rw [actTxt_add h]
    simp [actWs, Lib.join_cons, Lib.joinTail, wAdd]
  · rw [actTxt_step h]
    simp [actWs, Lib.join_cons, Lib.joinTail, wStep]
  · rw [actTxt_res h]
    simp [actWs, Lib.join_cons, Lib.joinTail, wRes]
  · rw [actTxt_crash h]
    simp [actWs, Lib.join_cons, Lib.joinTail, wCrash]
theorem actWs_words {k i d n : Int} (h : actOkB k i d n = true) : ∀ x ∈ actWs k i d n, wordB x := by
  rcases act_kinds h with ⟨rfl, h1, h2, h3⟩ | ⟨rfl, h3⟩ | ⟨rfl, h3⟩ | rfl
  · have e1 := itoa_wordB h1.1
    have e2 := itoa_wordB h2.1
    have e3 := itoa_wordB h3.1
    have e4 : wordB wAdd := ⟨by decide, by decide⟩
    intro x hx
    simp [actWs] at hx
    rcases hx with rfl | rfl | rfl | rfl <;> assumption
  · have e3 := itoa_wordB h3.1
    have e4 : wordB wStep := ⟨by decide, by decide⟩
    intro x hx
    simp [actWs] at hx
    rcases hx with rfl | rfl <;> assumption
  · have e3 := itoa_wordB h3.1
    have e4 : wordB wRes := ⟨by decide, by decide⟩
    intro x hx
    simp [actWs] at hx
    rcases hx with rfl | rfl <;> assumption
  · have e4 : wordB wCrash := ⟨by decide, by decide⟩
    intro x hx
    simp [actWs] at hx
    subst hx
    exact e4
theorem act_zero2 {i d n : Int} (h : actOkB 2 i d n = true) : i = 0 ∧ d = 0 := by
  rw [actOkB_2] at h
  simp at h
  exact h.1
theorem act_zero3 {i d n : Int} (h : actOkB 3 i d n = true) : i = 0 ∧ d = 0 := by
  rw [actOkB_3] at h
  simp at h
  exact h.1
theorem act_zero4 {i d n : Int} (h : actOkB 4 i d n = true) : i = 0 ∧ d = 0 ∧ n = 0 := by
  rw [actOkB_4] at h
  simp at h
  omega
/-- An act with these words is the one that is read from them. -/
theorem act_read {k i d n : Int} {x : List UInt8} {ws : List (List UInt8)} (h : actOkB k i d n = true) (hw : ∀ y ∈ x :: ws, wordB y) (ht : actTxt k i d n = Lib.join (x :: ws) [32]) :
    paB (x :: ws) = true ∧ kdOf x = k ∧ aI x ws = i ∧ aD x ws = d ∧ aN x ws = n := by
  have hA : actWs k i d n = x :: ws := join_inj (actWs_words h) hw (actWs_ne _ _ _ _) (by simp) ((actWs_txt h).symm.trans ht)
  have hmain : ws.all puB = true ∧ ws.length ≤ nfOf x ∧ kdOf x = k ∧ aI x ws = i ∧ aD x ws = d ∧ aN x ws = n := by
    clear hw ht
    rcases act_kinds h with ⟨rfl, h1, h2, h3⟩ | ⟨rfl, h3⟩ | ⟨rfl, h3⟩ | rfl
    · have hA' : [wAdd, Lib.itoa i, Lib.itoa d, Lib.itoa n] = x :: ws := hA
      injection hA' with e1 e2
      subst e1 e2
      have p1 := puB_of (l := Lib.itoa i) h1.1 (by omega) rfl
      have p2 := puB_of (l := Lib.itoa d) h2.1 (by omega) rfl
      have p3 := puB_of (l := Lib.itoa n) h3.1 (by omega) rfl
      refine ⟨by simp [p1.1, p2.1, p3.1], by simp [nfOf], by decide, ?_, ?_, ?_⟩
      · show (if wAdd = wAdd then puN (Lib.itoa i) else 0) = i
        rw [if_pos rfl, p1.2]
      · show (if wAdd = wAdd then puN (Lib.itoa d) else 0) = d
        rw [if_pos rfl, p2.2]
      · show (if wAdd = wAdd then puN (Lib.itoa n) else _) = n
        rw [if_pos rfl, p3.2]
    · have hA' : [wStep, Lib.itoa n] = x :: ws := hA
      injection hA' with e1 e2
      subst e1 e2
      obtain ⟨rfl, rfl⟩ := act_zero2 h
      have p3 := puB_of (l := Lib.itoa n) h3.1 (by omega) rfl
      have hne : ¬ wStep = wAdd := by decide
      refine ⟨by simp [p3.1], by simp [nfOf, hne], by decide, ?_, ?_, ?_⟩
      · unfold aI; rw [if_neg hne]
      · unfold aD; rw [if_neg hne]
      · unfold aN; rw [if_neg hne]
        exact p3.2
    · have hA' : [wRes, Lib.itoa n] = x :: ws := hA
      injection hA' with e1 e2
      subst e1 e2
      obtain ⟨rfl, rfl⟩ := act_zero3 h
      have p3 := puB_of (l := Lib.itoa n) h3.1 (by omega) rfl
      have hne : ¬ wRes = wAdd := by decide
      refine ⟨by simp [p3.1], by simp [nfOf, hne], by decide, ?_, ?_, ?_⟩
      · unfold aI; rw [if_neg hne]
      · unfold aD; rw [if_neg hne]
      · unfold aN; rw [if_neg hne]
        exact p3.2
    · have hA' : [wCrash] = x :: ws := hA
      injection hA' with e1 e2
      subst e1 e2
      obtain ⟨rfl, rfl, rfl⟩ := act_zero4 h
      have hne : ¬ wCrash = wAdd := by decide
      refine ⟨rfl, by simp [nfOf], by decide, ?_, ?_, ?_⟩
      · unfold aI; rw [if_neg hne]
      · unfold aD; rw [if_neg hne]
      · unfold aN; rw [if_neg hne]
        exact puN_nil
  obtain ⟨m1, m2, rfl, rfl, rfl, rfl⟩ := hmain
  refine ⟨?_, rfl, rfl, rfl, rfl⟩
  simp only [paB, m1, m2, h, ht, decide_true, Bool.and_self]
theorem paB_cons {x : List UInt8} {ws : List (List UInt8)} (h : paB (x :: ws) = true) : ws.all puB = true ∧ ws.length ≤ nfOf x ∧ actOkB (kdOf x) (aI x ws) (aD x ws) (aN x ws) = true ∧ actTxt (kdOf x) (aI x ws) (aD x ws) (aN x ws) = Lib.join (x :: ws) [32] := by
  simp only [paB, Bool.and_eq_true, decide_eq_true_eq] at h
  exact ⟨h.1.1.1, h.1.1.2, h.1.2, h.2⟩
/-- The value that is read from the words. -/
def paV : List (List UInt8) → Value
  | [] => .agg #[.int .i64 0, .int .i64 0, .int .i64 0, .int .i64 0]
  | x :: ws => if paB (x :: ws) then .agg #[.int .i64 (kdOf x), .int .i64 (aI x ws), .int .i64 (aD x ws), .int .i64 (aN x ws)] else .agg #[.int .i64 0, .int .i64 0, .int .i64 0, .int .i64 0]
theorem paV_no {L : List (List UInt8)} (h : paB L = false) : paV L = .agg #[.int .i64 0, .int .i64 0, .int .i64 0, .int .i64 0] := by
  cases L with
  | nil => rfl
  | cons x ws => simp only [paV]; rw [if_neg (by rw [h]; decide)]
theorem paV_of {k i d n : Int} {L : List (List UInt8)} (h : actOkB k i d n = true) (hw : ∀ y ∈ L, wordB y) (hne : L ≠ []) (ht : actTxt k i d n = Lib.join L [32]) : paB L = true ∧ paV L = .agg #[.int .i64 k, .int .i64 i, .int .i64 d, .int .i64 n] := by
  cases L with
  | nil => exact absurd rfl hne
  | cons x ws =>
    obtain ⟨h1, rfl, rfl, rfl, rfl⟩ := act_read h hw ht
    refine ⟨h1, ?_⟩
    simp only [paV]
    rw [if_pos h1]
/-- The words of an act's text are its own. -/
theorem act_flds {k i d n : Int} (h : actOkB k i d n = true) : flds (actTxt k i d n) = actWs k i d n := by
  rw [actWs_txt h]
  have hw := actWs_words h
  cases hL : actWs k i d n with
  | nil => exact absurd hL (actWs_ne _ _ _ _)
  | cons a u =>
    rw [hL] at hw
    exact flds_join a u (hw a (by simp)) (fun x hx => hw x (by simp [hx]))
theorem act_back {k i d n : Int} (h : actOkB k i d n = true) : paB (flds (actTxt k i d n)) = true ∧ paV (flds (actTxt k i d n)) = .agg #[.int .i64 k, .int .i64 i, .int .i64 d, .int .i64 n] := by
  rw [act_flds h]
  exact paV_of h (actWs_words h) (actWs_ne _ _ _ _) (actWs_txt h)
/-- The acts that the reference tries. -/
def cK (j : Nat) : Int := (j : Int) + 1
def cI (ws : List (List UInt8)) (j : Nat) : Int := if j = 0 then gN ws 0 else 0
def cD (ws : List (List UInt8)) (j : Nat) : Int := if j = 0 then gN ws 1 else 0
def cN (ws : List (List UInt8)) (j : Nat) : Int := if j = 0 then gN ws 2 else if j = 3 then 0 else gN ws 0
theorem cand_none {x : List UInt8} {ws : List (List UInt8)} (h : ∀ j, j < 4 → ¬ (actOkB (cK j) (cI ws j) (cD ws j) (cN ws j) = true ∧ actTxt (cK j) (cI ws j) (cD ws j) (cN ws j) = Lib.join (x :: ws) [32])) : paB (x :: ws) = false := by
  cases hb : paB (x :: ws) with
  | false => rfl
  | true =>
    exfalso
    obtain ⟨m1, m2, m3, m4⟩ := paB_cons hb
    by_cases h1 : x = wAdd
    · subst h1
      refine h 0 (by omega) ⟨?_, ?_⟩
      · simpa [kdOf, aI, aD, aN, cK, cI, cD, cN, wAdd, wStep, wRes, wCrash] using m3
      · simpa [kdOf, aI, aD, aN, cK, cI, cD, cN, wAdd, wStep, wRes, wCrash] using m4
    have eI : aI x ws = 0 := by unfold aI; rw [if_neg h1]
    have eD : aD x ws = 0 := by unfold aD; rw [if_neg h1]
    have eN : aN x ws = gN ws 0 := by unfold aN; rw [if_neg h1]
    rw [eI, eD, eN] at m3 m4
    rcases act_kinds m3 with ⟨e, -⟩ | ⟨e, -⟩ | ⟨e, -⟩ | e
    · exfalso
      unfold kdOf at e
      split at e
      · simp at e
      · split at e
        · simp at e
        · split at e
          · simp at e
          · simp at e
    · rw [e] at m3 m4
      exact h 1 (by omega) ⟨by simpa [cK, cI, cD, cN] using m3, by simpa [cK, cI, cD, cN] using m4⟩
    · rw [e] at m3 m4
      exact h 2 (by omega) ⟨by simpa [cK, cI, cD, cN] using m3, by simpa [cK, cI, cD, cN] using m4⟩
    · rw [e] at m3 m4
      have e0 := (act_zero4 m3).2.2
      rw [e0] at m3 m4
      exact h 3 (by omega) ⟨by simpa [cK, cI, cD, cN] using m3, by simpa [cK, cI, cD, cN] using m4⟩
end Go.Proofs.YtjknadnknainbaaGreatDoor
/- ParseAct, in the program: what its walks share. -/
namespace Go.Proofs.YtjknadnknainbaaGreatDoor
open Go.RowKit

theorem pa_no1 {x : List UInt8} {ws : List (List UInt8)} {k : Nat} {y : List UInt8} (h : ws[k]? = some y) (hy : puB y = false) : paB (x :: ws) = false := by
  have h1 : ws.all puB = false := by
    rw [List.all_eq_false]
    exact ⟨y, List.mem_of_getElem? h, by simp [hy]⟩
  simp only [paB, h1, Bool.false_and]
theorem pa_no2 {x : List UInt8} {ws : List (List UInt8)} (h : nfOf x < ws.length) : paB (x :: ws) = false := by
  have h1 : decide (ws.length ≤ nfOf x) = false := decide_eq_false (by omega)
  simp only [paB, h1, Bool.and_false, Bool.false_and]
theorem pa_end {x : List UInt8} {ws : List (List UInt8)} (h1 : ws.all puB = true) (h2 : ws.length ≤ nfOf x) : paB (x :: ws) = (actOkB (kdOf x) (aI x ws) (aD x ws) (aN x ws) && decide (actTxt (kdOf x) (aI x ws) (aD x ws) (aN x ws) = Lib.join (x :: ws) [32])) := by
  simp only [paB, h1, decide_eq_true h2, Bool.true_and]
theorem pa_yes {x : List UInt8} {ws : List (List UInt8)} (h : paB (x :: ws) = true) : paV (x :: ws) = .agg #[.int .i64 (kdOf x), .int .i64 (aI x ws), .int .i64 (aD x ws), .int .i64 (aN x ws)] := by
  simp only [paV, h, if_true]
theorem all_snoc {f : List UInt8 → Bool} {l : List (List UInt8)} {k : Nat} {x : List UInt8} (h : l[k]? = some x) (ha : (l.take k).all f = true) (hx : f x = true) : (l.take (k + 1)).all f = true := by
  rw [List.take_add_one, h, List.all_append, ha]
  simp [hx]
theorem gN_at {ws : List (List UInt8)} {k : Nat} {y : List UInt8} (h : ws[k]? = some y) : gN ws k = puN y := by
  unfold gN
  rw [List.getD_eq_getElem?_getD, h]
  rfl
theorem gN_out {ws : List (List UInt8)} {k : Nat} (h : ws.length ≤ k) : gN ws k = 0 := by
  unfold gN
  rw [List.getD_eq_getElem?_getD, List.getElem?_eq_none h]
  exact puN_nil
theorem kd_fun (x : List UInt8) : (if x = wCrash then 4 else if x = wRes then 3 else if x = wStep then 2 else if x = wAdd then 1 else 0 : Int) = kdOf x := rfl
theorem len_flds {l : List UInt8} : ∀ y ∈ flds l, y.length ≤ l.length := by
  have h : ∀ l : List UInt8, ∀ y ∈ spl l, y.length ≤ l.length := by
    intro l
    induction l with
    | nil => intro y hy; simp [spl] at hy; subst hy; simp
    | cons b r ih =>
      intro y hy
      by_cases hb : b = 32
      · subst hb
        rw [spl_space, List.mem_cons] at hy
        rcases hy with rfl | hy
        · simp
        · have := ih y hy
          simp
          omega
      · obtain ⟨h2, t2, e2⟩ : ∃ h2 t2, spl r = h2 :: t2 := by
          cases hs : spl r with
          | nil => exact absurd hs (spl_ne r)
          | cons a b => exact ⟨a, b, rfl⟩
        rw [spl_other hb e2, List.mem_cons] at hy
        rw [e2] at ih
        rcases hy with rfl | hy
        · have := ih h2 (by simp)
          simp
          omega
        · have := ih y (by simp [hy])
          simp
          omega
  intro y hy
  unfold flds at hy
  exact h l y (List.mem_filter.1 hy).1
theorem joinTail_len (M : Nat) : ∀ L : List (List UInt8), (∀ y ∈ L, y.length ≤ M) → (Lib.joinTail [32] L).length ≤ L.length * (M + 1)
  | [], _ => by simp [Lib.joinTail]
  | y :: r, h => by
    have ih := joinTail_len M r (fun z hz => h z (by simp [hz]))
    have h1 := h y (by simp)
    rw [joinTail_cons]
    simp only [List.length_cons, List.length_append, Nat.add_mul, Nat.one_mul]
    omega
theorem iJoin (L : List (List UInt8)) (n g c base : Nat) (w : World) (ho : w.ownsRow base 9 1 (.slice (some ⟨g, 0, none⟩) n c) n (strs L)) (hn : L.length = n) (h24 : n ≤ 24) (hl : ∀ y ∈ L, y.length ≤ 1048576) :
    Calls Tryz.prog 42 #[.slice (some ⟨g, 0, none⟩) n c, .string ⟨#[32]⟩] w fun e w' => e = .returned (.string ⟨(Lib.join L [32]).toArray⟩) ∧ Below w.heap.size w w' := by
  subst hn
  have hm : (L.map (fun y => (ByteArray.mk y.toArray))).map (·.data.toList) = L := by
    rw [List.map_map]
    conv => rhs; rw [← List.map_id L]
    exact List.map_congr_left (fun y _ => rfl)
  cases L with
  | nil =>
    have h := Tryz.strings_Join_none (some ⟨g, 0, none⟩) c ⟨#[32]⟩ w
    refine h.mono ?_
    rintro e w2 ⟨rfl, rfl⟩
    exact ⟨rfl, Below.refl _ _⟩
  | cons a u =>
    obtain ⟨g2, e2, h0, h1, hc⟩ := own_at ho (by simp)
    injection e2 with e2
    injection e2 with e2
    subst e2
    have h := Tryz.strings_Join g 0 c ((a :: u).map (fun y => (ByteArray.mk y.toArray))) ⟨#[32]⟩ w (fun j x hx => by
      rw [Nat.zero_add]
      refine hc j _ ?_
      rw [List.getElem?_map] at hx
      obtain ⟨y, hy, rfl⟩ := Option.map_eq_some_iff.1 hx
      exact (strs_get hy)) h1 (by rw [List.length_map]; omega) (by rw [List.length_map]; exact own_cap' ho) (by
        rw [hm]
        have h2 := joinTail_len 1048576 u (fun z hz => hl z (by simp [hz]))
        have h3 := hl a (by simp)
        rw [Lib.join_cons]
        simp only [List.length_append]
        have h4 : (a :: u).length = u.length + 1 := rfl
        omega)
    rw [hm, List.length_map] at h
    exact h
end Go.Proofs.YtjknadnknainbaaGreatDoor
