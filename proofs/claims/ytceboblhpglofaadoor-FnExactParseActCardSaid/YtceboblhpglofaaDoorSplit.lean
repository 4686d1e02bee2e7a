/- SplitFields, in the program: strings.Split by the library's own contract. -/
import Derived.Test.YtceboblhpglofaaDoorUint
import Derived.Test.YtceboblhpglofaaDoorWordsP
import Derived.Test.YtceboblhpglofaaDoorSchedTxt
namespace Go.Proofs.YtceboblhpglofaaDoor
open Go.RowKit

/-- Whether a line may be read: its length, its bytes, how many words. -/
def byteOk (b : UInt8) : Bool := decide (32 ≤ b.toNat) && decide (b.toNat ≤ 126)
def sfB (l : List UInt8) : Bool := decide (l.length ≤ 600) && l.all byteOk && decide ((flds l).length ≤ 24)
theorem index_byte (l : List UInt8) (k : Nat) (x : UInt8) (h : l[k]? = some x) : ∀ (hk : k < (ByteArray.mk l.toArray).size), (ByteArray.mk l.toArray)[k]'hk = x := fun hk => by
  have h2 := List.getElem?_eq_some_iff.1 h
  exact h2.2
theorem take_all_snoc {l : List UInt8} {k : Nat} {x : UInt8} (h : l[k]? = some x) (ha : (l.take k).all byteOk = true) (hx : byteOk x = true) : (l.take (k + 1)).all byteOk = true := by
  rw [List.take_add_one, h, List.all_append, ha]
  simp [hx]
theorem all_no {l : List UInt8} {k : Nat} {x : UInt8} (h : l[k]? = some x) (hx : byteOk x = false) : l.all byteOk = false := by
  rw [List.all_eq_false]
  exact ⟨x, List.mem_of_getElem? h, by simp [hx]⟩
theorem mk_back : ∀ (P : List ByteArray) (L : List (List UInt8)), P.map (·.data.toList) = L → P.map Value.string = strs L
  | [], _, h => by subst h; rfl
  | b :: P, _, h => by
    subst h
    have ih := mk_back P _ rfl
    rw [List.map_cons, ih]
    rfl
theorem iSplitLib (l : List UInt8) (w : World) (hl : l.length ≤ 1048576) (he : Env w) :
    Calls Tryd.prog 27 #[.string ⟨l.toArray⟩, .string ⟨#[32]⟩] w fun e w' => e = .returned (.slice (some ⟨w.heap.size, 0, none⟩) (spl l).length (spl l).length) ∧ w' = w.alloc (.cells (strs (spl l)).toArray 9) := by
  obtain ⟨m, hm⟩ := he.max
  have h := Tryd.strings_Split ⟨l.toArray⟩ ⟨#[32]⟩ m w (Nat.lt_of_le_of_lt (size_le hl) (by decide)) hm (by decide)
  have h1 : (Lib.splitB ⟨#[32]⟩ 0 (Lib.countB ⟨l.toArray⟩ ⟨#[32]⟩) ⟨l.toArray⟩).map (·.data.toList) = spl l := by
    rw [Lib.splitB_data]
    exact splitK_spl l
  have h2 := mk_back _ _ h1
  have h3 : Lib.countB ⟨l.toArray⟩ ⟨#[32]⟩ + 1 = (spl l).length := by
    rw [← h1, List.length_map]
    exact (Lib.splitB_all ⟨#[32]⟩ (by decide) 0 _ _ rfl).symm
  rw [h2, h3] at h
  exact h
theorem spl_len : ∀ l, (spl l).length ≤ l.length + 1
  | [] => by simp [spl]
  | b :: r => by
    have ih := spl_len r
    unfold spl
    split
    · simp; omega
    · split
      · rename_i h t e
        rw [e] at ih
        simp at ih ⊢
        omega
      · simp
theorem str_one (a : ByteArray) : ∀ u ∈ [Value.string a], u.oneCell' = true := by
  intro u hu
  simp at hu
  subst hu
  rfl
def full (w : List UInt8) : Bool := decide (w ≠ [])
theorem flds_full (l : List UInt8) : flds l = (spl l).filter full := rfl
theorem filter_snoc {L : List (List UInt8)} {k : Nat} {x : List UInt8} (h : L[k]? = some x) : (L.take (k + 1)).filter full = (L.take k).filter full ++ (if x = [] then [] else [x]) := by
  rw [List.take_add_one, h, List.filter_append]
  by_cases hx : x = []
  · subst hx; simp [full]
  · rw [if_neg hx]; simp [full, hx]
set_option maxHeartbeats 3200000 in
theorem iSplitFields (l : List UInt8) (w : World) (hl : l.length ≤ 1048576) (he : Env w) :
    Calls Tryd.prog 16 #[.string ⟨l.toArray⟩] w fun e w' => ∃ (n : Nat) (A : Option Addr) (c : Nat), e = .returned (.tuple #[.slice A n c, .bool (sfB l)]) ∧ (sfB l = true → n = (flds l).length ∧ w'.ownsRow w.heap.size 9 1 (.slice A n c) n (strs (flds l))) ∧ Below w.heap.size w w' := by
  have HE := hid he
  clear he
  by_cases h1 : 600 < l.length
  · have hs : sfB l = false := by unfold sfB; rw [decide_eq_false (by omega)]; rfl
    have HS := hid hs
    have h1' : (600 : Int) < (l.length : Int) := by omega
    clear hs
    go_enter Tryd.func16, Tryd.ntmps16
    go_wp2
    go_returns
    exact ⟨0, none, 0, by rw [HS.out]; rfl, fun h => absurd (HS.out.symm.trans h) (by decide), Below.refl _ _⟩
  have h1' : ¬ (600 : Int) < (l.length : Int) := by omega
  go_enter Tryd.func16, Tryd.ntmps16
  go_wp2
  go_loopw [4] (fun i wr => ∃ k : Nat, k ≤ l.length ∧ i = .int .i64 k ∧ w = wr ∧ (l.take k).all byteOk = true) (fun i _ => l.length - (intOf i).toNat)
  case atStart => exact ⟨0, Nat.zero_le _, rfl, rfl, rfl⟩
  case round =>
    obtain ⟨k, hk, rfl, rfl, hall⟩ := hrel
    by_cases hlt : k < l.length
    · obtain ⟨x, hx⟩ : ∃ x, l[k]? = some x := ⟨_, List.getElem?_eq_getElem hlt⟩
      have hlt' : (k : Int) < (l.length : Int) := by omega
      have hix := index_byte l k x hx
      cases hok : byteOk x
      · have hno := all_no hx hok
        have hs : sfB l = false := by unfold sfB; rw [hno]; simp
        have HS := hid hs
        have h3 : (x.toNat : Int) < 32 ∨ (126 : Int) < (x.toNat : Int) ∧ (32 : Int) ≤ (x.toNat : Int) := by
          unfold byteOk at hok
          simp at hok
          omega
        clear hx hall hno hs hok
        rcases h3 with h3 | ⟨h3, h4⟩
        all_goals
          go_wp2
          go_returns
          exact ⟨0, none, 0, by rw [HS.out]; rfl, (fun h => absurd (HS.out.symm.trans h) (by decide)), Below.refl _ _⟩
      · have h3 : ¬ (x.toNat : Int) < 32 ∧ ¬ (126 : Int) < (x.toNat : Int) := by
          unfold byteOk at hok
          simp at hok
          omega
        obtain ⟨h4, h5⟩ := h3
        have HA := hid (take_all_snoc hx hall hok)
        clear hx hall hok
        go_wp2
        go_roundw
        case rel => exact ⟨k + 1, by omega, by go_num, trivial, HA.out⟩
        case measure => simp [intOf]; omega
    · obtain rfl : k = l.length := by omega
      rw [List.take_length] at hall
      have HA := hid hall
      clear hall
      have hlen := spl_len l
      have HSL := hid (fun w he => iSplitLib l w hl he)
      obtain ⟨L, hL⟩ : ∃ L, spl l = L := ⟨_, rfl⟩
      rw [hL] at hlen
      rw [hL] at HSL
      have HFL := hid (show flds l = L.filter full by rw [flds_full, hL])
      obtain ⟨N, hN⟩ : ∃ N, L.length = N := ⟨_, rfl⟩
      rw [hN] at HSL hlen
      have HLN := hid hN
      clear hL hN
      go_wp2_with fail
      refine (HSL.out _ (HE.out.step ((Below.refl w.heap.size w).alloc (Nat.le_refl _) _) HE.out)).mono ?_
      rintro e w2 ⟨rfl, rfl⟩
      have HO := hid (show ((w.alloc (.cells #[] 9)).alloc (.cells (strs L).toArray 9)).ownsRow w.heap.size 9 1 (.slice (some ⟨w.heap.size, 0, none⟩) 0 0) 0 (strs []) from World.ownsRow.alloc (own_lit (size := 1) #[] 0 rfl (Nat.le_refl _) (Nat.zero_le _) rfl) _)
      have HK := hid (show Blk ((w.alloc (.cells #[] 9)).alloc (.cells (strs L).toArray 9)) (w.alloc (.cells #[] 9)).heap.size 9 (strs L).toArray from Blk.new rfl)
      have HB := hid (show Below w.heap.size w ((w.alloc (.cells #[] 9)).alloc (.cells (strs L).toArray 9)) from ((Below.refl w.heap.size w).alloc (Nat.le_refl _) _).alloc (by simp) _)
      have hz : (w.alloc (.cells #[] 9)).heap.size = w.heap.size + 1 := by simp
      have hz2 : ((w.alloc (.cells #[] 9)).alloc (.cells (strs L).toArray 9)).heap.size = w.heap.size + 2 := by simp
      rw [hz] at HK
      rw [hz]
      obtain ⟨w2, hw2⟩ : ∃ w2, w2 = (w.alloc (.cells #[] 9)).alloc (.cells (strs L).toArray 9) := ⟨_, rfl⟩
      rw [← hw2] at HO HK HB hz2
      rw [← hw2]
      clear hw2 hz
      go_wp2_with fail
      go_loopw [5, 7, 31] (fun o _ i wr => ∃ (k n : Nat) (A : Option Addr) (c : Nat), k ≤ N ∧ i = .int .i64 k ∧ o = .slice A n c ∧ n ≤ k ∧ n = ((L.take k).filter full).length ∧ wr.ownsRow w.heap.size 9 1 (.slice A n c) n (strs ((L.take k).filter full)) ∧
        (∀ q, (Value.slice A n c).ownBlock = some q → q = w.heap.size ∨ w.heap.size + 2 ≤ q) ∧ Blk wr (w.heap.size + 1) 9 (strs L).toArray ∧ Below w.heap.size w wr) (fun _ _ i _ => N - (intOf i).toNat)
      case atStart => exact ⟨0, 0, some ⟨w.heap.size, 0, none⟩, 0, Nat.zero_le _, rfl, rfl, Nat.le_refl _, rfl, HO.out, (fun q hq => .inl (own_here q hq)), HK.out, HB.out⟩
      case round =>
        obtain ⟨k, n, A, c, hk, rfl, rfl, hnk, hn, hown, hne, hkb, hb⟩ := hrel
        have zr := hkb.lt
        have zb := hb.size
        by_cases hlt : k < N
        · obtain ⟨x, hx⟩ : ∃ x, L[k]? = some x := ⟨_, List.getElem?_eq_getElem (by rw [HLN.out]; exact hlt)⟩
          have hlt' : (k : Int) < (N : Int) := by omega
          have hcell : wr.cell? ⟨w.heap.size + 1, k, none⟩ = some (.string ⟨x.toArray⟩) := by
            rw [hkb.cell k]
            have := strs_get hx
            simpa [txt] using this
          have HF := hid (filter_snoc hx)
          have HNN := hid hn
          have HOW := hid hown
          have HNE := hid hne
          have HKB := hid hkb
          have HBB := hid hb
          clear hx hn hown hne hkb hb
          rcases x with _ | ⟨a, r⟩
          · go_wp2
            go_roundw
            case rel => exact ⟨k + 1, n, A, c, by omega, by go_num, rfl, by omega, by rw [HF.out]; simpa using HNN.out, by rw [HF.out]; simpa using HOW.out, HNE.out, HKB.out, HBB.out⟩
            case measure => simp [intOf]; omega
          · go_wp2_with (at_builtin; go_loud (refine wpList_appi rfl _ _ 41 rfl w.heap.size 9 (.string ⟨#[]⟩) 1 16 Tryd.underlying41 infoStr rfl (by decide) _ n _ rfl (HOW.out.alloc _) ⟨wr.heap.size, 0, none⟩ 1 1 _ rfl rfl (one_new _ _ _) (str_one _) (by omega) (by decide) (by simp; omega) ?_))
            intro A3 c3 w3 ho3 hg3 li3
            have hg := grown_alloc hg3
            have s3 := hg.size
            have hne3 : ∀ q, (Value.slice A3 (n + 1) c3).ownBlock = some q → q = w.heap.size ∨ w.heap.size + 2 ≤ q := fun q hq => by
              rcases li3 q hq with h | h
              · exact HNE.out q h
              · (try simp at h); omega
            have HKB3 := hid (gr_blk hg HKB.out (fun q hq => by have := HNE.out q hq; omega))
            have HBB3 := hid (gr_below hg HBB.out (by omega) (fun q hq => by have := HNE.out q hq; omega))
            have HN3 := hid hne3
            have HOW3 := hid (show w3.ownsRow w.heap.size 9 1 (.slice A3 (n + 1) c3) (n + 1) (strs ((L.take (k + 1)).filter full)) by rw [HF.out, if_neg (by simp), strs_snoc]; exact ho3)
            have HL3 := hid (show n + 1 = ((L.take (k + 1)).filter full).length by rw [HF.out, if_neg (by simp), List.length_append, ← HNN.out]; rfl)
            clear hg hg3 li3 ho3 hne3
            go_wp2
            go_roundw
            case rel => exact ⟨k + 1, n + 1, A3, c3, by omega, by go_num, rfl, by omega, HL3.out, HOW3.out, HN3.out, HKB3.out, HBB3.out⟩
            case measure => simp [intOf]; omega
        · obtain rfl : k = N := by omega
          have HNN := hid (show n = (flds l).length by rw [HFL.out, hn, ← HLN.out, List.take_length])
          have HOW := hid (show wr.ownsRow w.heap.size 9 1 (.slice A n c) n (strs (flds l)) by rw [HFL.out, ← List.take_length (l := L), HLN.out]; exact hown)
          have HBB := hid hb
          have hs : sfB l = decide (n ≤ 24) := by
            unfold sfB
            rw [HA.out, decide_eq_true (by omega), ← HNN.out]
            simp
          have HS := hid hs
          clear hn hown hne hkb hb hs
          by_cases h24 : (24 : Int) < (n : Int)
          · go_wp2
            go_returns
            exact ⟨0, none, 0, by rw [HS.out, decide_eq_false (by omega)]; rfl, (fun h => by rw [HS.out] at h; simp at h; omega), HBB.out⟩
          · go_wp2
            go_returns
            exact ⟨n, A, c, by rw [HS.out, decide_eq_true (by omega)]; rfl, (fun _ => ⟨HNN.out, HOW.out⟩), HBB.out⟩
end Go.Proofs.YtceboblhpglofaaDoor
