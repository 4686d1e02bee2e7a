import Derived.Test.YtjknadnknainbaaGreatDoorPActL
/- ParseUint, in the reference. -/
namespace Go.Proofs.YtjknadnknainbaaGreatDoor
open Go.RowKit

theorem dec_len : ∀ (k n : Nat), n < 10 ^ (k + 1) → (Lib.decDigits n).length ≤ k + 1
  | 0, n, h => by
    rw [Lib.decDigits_one (by simpa using h)]
    simp
  | k + 1, n, h => by
    rw [Lib.decDigits.eq_1]
    split
    · simp
    · have h2 := dec_len k (n / 10) (by
        rw [Nat.pow_succ] at h
        omega)
      simp
      omega
theorem puB_parts {l : List UInt8} (h : puB l = true) : l.length ≤ 10 ∧ digits l := by
  unfold puB at h
  simp only [decide_eq_true_eq] at h
  obtain ⟨h1, h2⟩ := h
  constructor
  · rw [h2]
    exact dec_len 9 _ (by omega)
  · rw [h2]
    exact dec_digits _
theorem puN_no {l : List UInt8} (h : puB l = false) : puN l = 0 := by
  unfold puN
  rw [h]
  rfl
theorem valF_bound : ∀ (l : List UInt8), digits l → valF 0 l < 10 ^ l.length := by
  have h : ∀ (l : List UInt8) (acc : Nat), digits l → valF acc l < (acc + 1) * 10 ^ l.length := by
    intro l
    induction l with
    | nil => intro acc _; simp [valF]
    | cons b r ih =>
      intro acc hd
      rw [valF_cons, dstep_is]
      have h1 := hd b (by simp)
      have h2 := ih (acc * 10 + (b.toNat - 48)) (fun x hx => hd x (by simp [hx]))
      refine Nat.lt_of_lt_of_le h2 ?_
      rw [List.length_cons, Nat.pow_succ, Nat.mul_comm (10 ^ r.length) 10, ← Nat.mul_assoc]
      exact Nat.mul_le_mul_right _ (by omega)
  intro l hd
  have := h l 0 hd
  omega
theorem valF_snoc {l : List UInt8} {k : Nat} {x : UInt8} (h : l[k]? = some x) : valF 0 (l.take (k + 1)) = valF 0 (l.take k) * 10 + (x.toNat - 48) := by
  rw [List.take_add_one, h, valF_app]
  show valF (valF 0 (l.take k)) [x] = _
  rw [valF_cons, valF_nil, dstep_is]
theorem digits_snoc {l : List UInt8} {k : Nat} {x : UInt8} (h : l[k]? = some x) (hd : digits (l.take k)) (hx : 48 ≤ x.toNat ∧ x.toNat ≤ 57) : digits (l.take (k + 1)) := by
  intro b hb
  rw [List.take_add_one, h, List.mem_append] at hb
  rcases hb with hb | hb
  · exact hd b hb
  · simp at hb
    subst hb
    exact hx
theorem sFormatIntS (n : Int) (w : World) (h0 : -9223372036854775808 ≤ n) (h1 : n ≤ 9223372036854775807) :
    Calls Tryz.prog 10 #[.int .i64 n] w fun e w' => e = .returned (.string ⟨(Lib.itoa n).toArray⟩) ∧ Below w.heap.size w w' := sFormatInt n w h0 h1
set_option maxRecDepth 100000 in
set_option maxHeartbeats 3200000 in
theorem sParseUint (l : List UInt8) (w : World) :
    Calls Tryz.prog 56 #[.string ⟨l.toArray⟩] w fun e w' => e = .returned (.tuple #[.int .i64 (puN l), .bool (puB l)]) ∧ Below w.heap.size w w' := by
  by_cases h1 : 10 < l.length
  · have hb : puB l = false := by
      cases hb : puB l
      · rfl
      · exact absurd (puB_parts hb).1 (by omega)
    have HN := hid (puN_no hb)
    have HP := hid hb
    have h1' : (10 : Int) < (l.length : Int) := by omega
    clear hb h1
    go_enter Tryz.func56, Tryz.ntmps56
    go_wp2
    go_returns
    exact ⟨by rw [HN.out, HP.out]; rfl, Below.refl _ _⟩
  have h1' : ¬ (10 : Int) < (l.length : Int) := by omega
  go_enter Tryz.func56, Tryz.ntmps56
  go_wp2_with fail
  go_loopw [4, 5] (fun n i wr => ∃ (k : Nat) (V : Nat), k ≤ l.length ∧ i = .int .i64 k ∧ n = .int .i64 V ∧ V = valF 0 (l.take k) ∧ digits (l.take k) ∧ w = wr) (fun _ i _ => l.length - (intOf i).toNat)
  case atStart => exact ⟨0, 0, Nat.zero_le _, rfl, rfl, rfl, (fun b hb => by simp at hb), rfl⟩
  case round =>
    obtain ⟨k, V, hk, rfl, rfl, hV, hd, rfl⟩ := hrel
    have hVb : V < 10000000000 := by
      have h2 := valF_bound _ hd
      rw [← hV] at h2
      have h3 : (l.take k).length ≤ 10 := by rw [List.length_take]; omega
      exact Nat.lt_of_lt_of_le h2 (Nat.pow_le_pow_right (by omega) h3)
    have HV := hid hV
    have HD := hid hd
    clear hV hd
    by_cases hlt : k < l.length
    · obtain ⟨x, hx⟩ : ∃ x, l[k]? = some x := ⟨_, List.getElem?_eq_getElem hlt⟩
      have hlt' : (k : Int) < (l.length : Int) := by omega
      have hix := index_byte l k x hx
      by_cases hdx : 48 ≤ x.toNat ∧ x.toNat ≤ 57
      · have HV2 := hid (valF_snoc hx)
        have HD2 := hid (digits_snoc hx HD.out hdx)
        obtain ⟨d0, d1⟩ := hdx
        have h3 : ¬ (x.toNat : Int) < 48 := by omega
        have h4 : ¬ (57 : Int) < (x.toNat : Int) := by omega
        have w1 : IntKind.i64.wrap (10 * (V : Int)) = 10 * (V : Int) := IntWalk.i64_in _ (by omega)
        have w2 : IntKind.i64.wrap (10 * (V : Int) + (x.toNat : Int)) = 10 * (V : Int) + (x.toNat : Int) := IntWalk.i64_in _ (by omega)
        have w3 : IntKind.i64.wrap (10 * (V : Int) + (x.toNat : Int) - 48) = 10 * (V : Int) + (x.toNat : Int) - 48 := IntWalk.i64_in _ (by omega)
        have w4 : IntKind.i64.wrap (x.toNat : Int) = (x.toNat : Int) := IntWalk.i64_in _ (by omega)
        clear hx
        go_wp2
        go_roundw
        case rel => exact ⟨k + 1, V * 10 + (x.toNat - 48), by omega, by go_num, congrArg (Value.int .i64) (by omega), by rw [HV2.out, ← HV.out], HD2.out, trivial⟩
        case measure => simp [intOf]; omega
      · have hb : puB l = false := by
          cases hb : puB l
          · rfl
          · exact absurd ((puB_parts hb).2 x (List.mem_of_getElem? hx)) hdx
        have HN := hid (puN_no hb)
        have HP := hid hb
        have h3 : (x.toNat : Int) < 48 ∨ (57 : Int) < (x.toNat : Int) ∧ ¬ (x.toNat : Int) < 48 := by omega
        clear hb hx hdx
        rcases h3 with h3 | ⟨h3, h4⟩
        all_goals
          go_wp2
          go_returns
          exact ⟨by rw [HN.out, HP.out]; rfl, Below.refl _ _⟩
    · obtain rfl : l.length = k := by omega
      have hV := HV.out
      rw [List.take_length] at hV
      by_cases hbig : 1000000000 < V
      · have hb : puB l = false := by
          unfold puB
          rw [← hV]
          exact decide_eq_false (by omega)
        have HN := hid (puN_no hb)
        have HP := hid hb
        have hbig' : (1000000000 : Int) < (V : Int) := by omega
        clear hb hV
        go_wp2
        go_returns
        exact ⟨by rw [HN.out, HP.out]; rfl, Below.refl _ _⟩
      · have hbig' : ¬ (1000000000 : Int) < (V : Int) := by omega
        have HC := hid (fun w => sFormatIntS (V : Int) w (by omega) (by omega))
        obtain ⟨T, hT⟩ : ∃ T, Lib.itoa (V : Int) = T := ⟨_, rfl⟩
        rw [hT] at HC
        by_cases he : T = l
        · obtain ⟨hb, hn⟩ := puB_of (l := l) (v := (V : Int)) (by omega) (by omega) (hT.trans he)
          have HN := hid hn
          have HP := hid hb
          have he' : (T == l) = true := by simpa using he
          clear hb hn hT hV he
          go_wp2_with fail
          refine (HC.out _).mono ?_
          rintro e w2 ⟨rfl, hb2⟩
          have HB2 := hid hb2
          clear hb2
          go_wp2
          go_returns
          exact ⟨by rw [HN.out, HP.out]; rfl, HB2.out⟩
        · have hb := puB_no (l := l) (fun u hu h => he (by
            have h2 := puB_of h.1 h.2.1 h.2.2
            have h3 : (V : Int) = u := by
              rw [← h2.2]
              unfold puN
              rw [h2.1, ← hV]
              rfl
            rw [← hT, h3]
            exact h.2.2))
          have HN := hid (puN_no hb)
          have HP := hid hb
          have he' : (T == l) = false := by simpa using he
          clear hb hT hV he
          go_wp2_with fail
          refine (HC.out _).mono ?_
          rintro e w2 ⟨rfl, hb2⟩
          have HB2 := hid hb2
          clear hb2
          go_wp2
          go_returns
          exact ⟨by rw [HN.out, HP.out]; rfl, HB2.out⟩
end Go.Proofs.YtjknadnknainbaaGreatDoor
/- SplitFields, in the reference. -/
namespace Go.Proofs.YtjknadnknainbaaGreatDoor
open Go.RowKit

def cut (l : List UInt8) (b k : Nat) : List UInt8 := (l.drop b).take (k - b)
/-- Where the reading stands: k bytes are read, the open word begins at b, L are the words before it. -/
def SInv (l : List UInt8) (k b : Nat) (L : List (List UInt8)) : Prop :=
  (k ≤ l.length → L ++ scan (cut l b k) (l.drop k) = flds l) ∧ (k = l.length + 1 → L = flds l) ∧ (l.take k).all byteOk = true ∧ b ≤ k
theorem sin_start (l : List UInt8) : SInv l 0 0 [] := ⟨fun _ => by
  show [] ++ scan [] l = flds l
  rw [List.nil_append, flds_scan], fun h => absurd h (by omega), rfl, Nat.le_refl _⟩
theorem cut_next {l : List UInt8} {b k : Nat} {x : UInt8} (h : l[k]? = some x) (hb : b ≤ k) : cut l b (k + 1) = cut l b k ++ [x] := by
  unfold cut
  rw [show k + 1 - b = (k - b) + 1 by omega, List.take_add_one, List.getElem?_drop, show b + (k - b) = k by omega, h]
  rfl
theorem cut_none (l : List UInt8) (k : Nat) : cut l k k = [] := by
  unfold cut
  simp
theorem cut_length {l : List UInt8} {b k : Nat} (hb : b ≤ k) (hk : k ≤ l.length) : (cut l b k).length = k - b := by
  unfold cut
  rw [List.length_take, List.length_drop]
  omega
theorem drop_at {l : List UInt8} {k : Nat} {x : UInt8} (h : l[k]? = some x) : l.drop k = x :: l.drop (k + 1) := by
  obtain ⟨hk, e⟩ := List.getElem?_eq_some_iff.1 h
  rw [List.drop_eq_getElem_cons hk, e]
theorem sin_char {l : List UInt8} {k b : Nat} {L : List (List UInt8)} {x : UInt8} (h : SInv l k b L) (hx : l[k]? = some x) (hne : x ≠ 32) (hok : byteOk x = true) : SInv l (k + 1) b L := by
  obtain ⟨h1, h2, h3, h4⟩ := h
  have hk := (List.getElem?_eq_some_iff.1 hx).1
  refine ⟨fun _ => ?_, fun e => absurd e (by omega), take_all_snoc hx h3 hok, by omega⟩
  have h5 := h1 (by omega)
  rw [drop_at hx, scan, if_neg hne, ← cut_next hx h4] at h5
  exact h5
theorem sin_flush {l : List UInt8} {k b : Nat} {L : List (List UInt8)} (h : SInv l k b L) (hk : l[k]? = some 32 ∨ k = l.length) : SInv l (k + 1) (k + 1) (if b < k then L ++ [cut l b k] else L) := by
  obtain ⟨h1, h2, h3, h4⟩ := h
  have hkl : k ≤ l.length := by
    rcases hk with h | h
    · exact Nat.le_of_lt (List.getElem?_eq_some_iff.1 h).1
    · omega
  have h5 := h1 hkl
  have hcur : cut l b k = [] ↔ ¬ b < k := by
    rw [← List.length_eq_zero_iff, cut_length h4 hkl]
    omega
  rcases hk with hx | rfl
  · have hk := (List.getElem?_eq_some_iff.1 hx).1
    refine ⟨fun _ => ?_, fun e => absurd e (by omega), take_all_snoc hx h3 (by decide), Nat.le_refl _⟩
    rw [drop_at hx, scan, if_pos rfl] at h5
    rw [cut_none]
    by_cases hb : b < k
    · rw [if_pos hb, List.append_assoc]
      rw [if_neg (fun e => hcur.1 e hb)] at h5
      exact h5
    · rw [if_neg hb]
      rw [if_pos (hcur.2 hb)] at h5
      exact h5
  · refine ⟨fun e => absurd e (by omega), fun _ => ?_, by rw [List.take_of_length_le (by omega)]; rw [List.take_length] at h3; exact h3, Nat.le_refl _⟩
    rw [List.drop_length, scan] at h5
    by_cases hb : b < l.length
    · rw [if_pos hb]
      rw [if_neg (fun e => hcur.1 e hb)] at h5
      exact h5
    · rw [if_neg hb]
      rw [if_pos (hcur.2 hb), List.append_nil] at h5
      exact h5
theorem ext_cut (l : List UInt8) (b k : Nat) : (ByteArray.mk l.toArray).extract b k = ⟨(cut l b k).toArray⟩ := by
  apply ByteArray.ext
  rw [ByteArray.data_extract]
  unfold cut
  simp
set_option maxRecDepth 100000 in
set_option maxHeartbeats 3200000 in
theorem sSplitFields (l : List UInt8) (w : World) (hl : l.length ≤ 1048576) :
    Calls Tryz.prog 32 #[.string ⟨l.toArray⟩] w fun e w' => ∃ (n : Nat) (A : Option Addr) (c : Nat), e = .returned (.tuple #[.slice A n c, .bool (sfB l)]) ∧ (sfB l = true → n = (flds l).length ∧ w'.ownsRow w.heap.size 9 1 (.slice A n c) n (strs (flds l))) ∧ Below w.heap.size w w' := by
  by_cases h1 : 600 < l.length
  · have hs : sfB l = false := by unfold sfB; rw [decide_eq_false (by omega)]; rfl
    have HS := hid hs
    have h1' : (600 : Int) < (l.length : Int) := by omega
    clear hs h1
    go_enter Tryz.func32, Tryz.ntmps32
    go_wp2
    go_returns
    exact ⟨0, some ⟨w.heap.size, 0, none⟩, 0, by rw [HS.out]; rfl, fun h => absurd (HS.out.symm.trans h) (by decide), (Below.refl _ _).alloc (Nat.le_refl _) _⟩
  have h1' : ¬ (600 : Int) < (l.length : Int) := by omega
  go_enter Tryz.func32, Tryz.ntmps32
  have HO := hid (show (w.alloc (.cells #[] 9)).ownsRow w.heap.size 9 1 (.slice (some ⟨w.heap.size, 0, none⟩) 0 0) 0 (strs []) from own_lit (w := w) (e := 9) (size := 1) #[] 0 rfl (Nat.le_refl _) (Nat.zero_le _) rfl)
  go_wp2_with fail
  go_loopw [4, 5, 6] (fun o bg i wr => ∃ (k b n : Nat) (A : Option Addr) (c : Nat) (L : List (List UInt8)), k ≤ l.length + 1 ∧ i = .int .i64 k ∧ bg = .int .i64 b ∧ o = .slice A n c ∧ n ≤ k ∧ n = L.length ∧ SInv l k b L ∧
    wr.ownsRow w.heap.size 9 1 (.slice A n c) n (strs L) ∧ Below w.heap.size w wr) (fun _ _ i _ => l.length + 1 - (intOf i).toNat)
  case atStart => exact ⟨0, 0, 0, some ⟨w.heap.size, 0, none⟩, 0, [], by omega, rfl, rfl, rfl, Nat.le_refl _, rfl, sin_start l, HO.out, (Below.refl _ _).alloc (Nat.le_refl _) _⟩
  case round =>
    obtain ⟨k, b, n, A, c, L, hk, rfl, rfl, rfl, hnk, hn, hinv, hown, hb⟩ := hrel
    have zb := hb.size
    have hbk := hinv.2.2.2
    have HI := hid hinv
    have HN := hid hn
    have HOW := hid hown
    have HB := hid hb
    clear hinv hn hown hb
    by_cases hlt : k < l.length
    · obtain ⟨x, hx⟩ : ∃ x, l[k]? = some x := ⟨_, List.getElem?_eq_getElem hlt⟩
      have hlt' : (k : Int) < (l.length : Int) := by omega
      have hix := index_byte l k x hx
      cases hok : byteOk x
      · have hs : sfB l = false := by unfold sfB; rw [all_no hx hok]; simp
        have HS := hid hs
        have h3 : (x.toNat : Int) < 32 ∨ (126 : Int) < (x.toNat : Int) ∧ ¬ (x.toNat : Int) < 32 := by
          unfold byteOk at hok
          simp at hok
          omega
        clear hx hs hok
        rcases h3 with h3 | ⟨h3, h4⟩
        all_goals
          go_wp2
          go_returns
          exact ⟨0, some ⟨wr.heap.size, 0, none⟩, 0, by rw [HS.out]; rfl, (fun h => absurd (HS.out.symm.trans h) (by decide)), HB.out.alloc zb _⟩
      · have h3 : ¬ (x.toNat : Int) < 32 ∧ ¬ (126 : Int) < (x.toNat : Int) := by
          unfold byteOk at hok
          simp at hok
          omega
        obtain ⟨h4, h5⟩ := h3
        by_cases h32 : x = 32
        · subst h32
          have HF := hid (sin_flush HI.out (.inl hx))
          clear hx hok
          by_cases hbl : b < k
          · have hbl' : (b : Int) < (k : Int) := by omega
            have HF2 := HF.out
            rw [if_pos hbl] at HF2
            have HG := hid HF2
            clear HF2
            go_wp2_with (at_builtin; go_loud (refine wpList_appi rfl _ _ 31 rfl w.heap.size 9 (.string ⟨#[]⟩) 1 16 Tryz.underlying31 infoStr rfl (by decide) _ n _ rfl (HOW.out.alloc _) ⟨wr.heap.size, 0, none⟩ 1 1 _ rfl rfl (one_new _ _ _) (str_one _) (by omega) (by decide) (by simp; omega) ?_))
            intro A3 c3 w3 ho3 hg3 li3
            rw [ext_cut] at ho3
            have hg := grown_alloc hg3
            have hrow : ∀ q, (Value.slice A n c).ownBlock = some q → w.heap.size ≤ q := fun q hq => (HOW.out.lt q hq).1
            have HBB3 := hid (gr_below hg HB.out (by omega) hrow)
            have HOW3 := hid (show w3.ownsRow w.heap.size 9 1 (.slice A3 (n + 1) c3) (n + 1) (strs (L ++ [cut l b k])) by rw [strs_snoc]; exact ho3)
            have HL3 := hid (show n + 1 = (L ++ [cut l b k]).length by rw [List.length_append, ← HN.out]; rfl)
            clear hg hg3 li3 ho3 hrow
            go_wp2
            go_roundw
            case rel => exact ⟨k + 1, k + 1, n + 1, A3, c3, L ++ [cut l b k], by omega, by go_num, by go_num, rfl, by omega, HL3.out, HG.out, HOW3.out, HBB3.out⟩
            case measure => simp [intOf]; omega
          · have hbl' : ¬ (b : Int) < (k : Int) := by omega
            have HF2 := HF.out
            rw [if_neg hbl] at HF2
            have HG := hid HF2
            clear HF2
            go_wp2
            go_roundw
            case rel => exact ⟨k + 1, k + 1, n, A, c, L, by omega, by go_num, by go_num, rfl, by omega, HN.out, HG.out, HOW.out, HB.out⟩
            case measure => simp [intOf]; omega
        · have HC := hid (sin_char HI.out hx h32 hok)
          have h6 : ¬ (x.toNat : Int) = 32 := fun e => h32 (UInt8.toNat_inj.1 (show x.toNat = 32 by omega))
          clear hx hok h32
          go_wp2
          go_roundw
          case rel => exact ⟨k + 1, b, n, A, c, L, by omega, by go_num, rfl, rfl, by omega, HN.out, HC.out, HOW.out, HB.out⟩
          case measure => simp [intOf]; omega
    · by_cases hle : k = l.length
      · have HF := hid (sin_flush HI.out (.inr hle))
        have hlt' : ¬ (k : Int) < (l.length : Int) := by omega
        have hle' : (k : Int) ≤ (l.length : Int) := by omega
        clear hle
        by_cases hbl : b < k
        · have hbl' : (b : Int) < (k : Int) := by omega
          have HF2 := HF.out
          rw [if_pos hbl] at HF2
          have HG := hid HF2
          clear HF2
          go_wp2_with (at_builtin; go_loud (refine wpList_appi rfl _ _ 31 rfl w.heap.size 9 (.string ⟨#[]⟩) 1 16 Tryz.underlying31 infoStr rfl (by decide) _ n _ rfl (HOW.out.alloc _) ⟨wr.heap.size, 0, none⟩ 1 1 _ rfl rfl (one_new _ _ _) (str_one _) (by omega) (by decide) (by simp; omega) ?_))
          intro A3 c3 w3 ho3 hg3 li3
          rw [ext_cut] at ho3
          have hg := grown_alloc hg3
          have hrow : ∀ q, (Value.slice A n c).ownBlock = some q → w.heap.size ≤ q := fun q hq => (HOW.out.lt q hq).1
          have HBB3 := hid (gr_below hg HB.out (by omega) hrow)
          have HOW3 := hid (show w3.ownsRow w.heap.size 9 1 (.slice A3 (n + 1) c3) (n + 1) (strs (L ++ [cut l b k])) by rw [strs_snoc]; exact ho3)
          have HL3 := hid (show n + 1 = (L ++ [cut l b k]).length by rw [List.length_append, ← HN.out]; rfl)
          clear hg hg3 li3 ho3 hrow
          go_wp2
          go_roundw
          case rel => exact ⟨k + 1, k + 1, n + 1, A3, c3, L ++ [cut l b k], by omega, by go_num, by go_num, rfl, by omega, HL3.out, HG.out, HOW3.out, HBB3.out⟩
          case measure => simp [intOf]; omega
        · have hbl' : ¬ (b : Int) < (k : Int) := by omega
          have HF2 := HF.out
          rw [if_neg hbl] at HF2
          have HG := hid HF2
          clear HF2
          go_wp2
          go_roundw
          case rel => exact ⟨k + 1, k + 1, n, A, c, L, by omega, by go_num, by go_num, rfl, by omega, HN.out, HG.out, HOW.out, HB.out⟩
          case measure => simp [intOf]; omega
      · have hle' : ¬ (k : Int) ≤ (l.length : Int) := by omega
        have hL : L = flds l := HI.out.2.1 (by omega)
        have hall : l.all byteOk = true := by
          have h := HI.out.2.2.1
          rw [List.take_of_length_le (by omega)] at h
          exact h
        subst hL
        have hs : sfB l = decide (n ≤ 24) := by
          unfold sfB
          rw [hall, decide_eq_true (by omega), ← HN.out]
          simp
        have HS := hid hs
        clear hs hall
        by_cases h24 : (24 : Int) < (n : Int)
        · go_wp2
          go_returns
          exact ⟨0, some ⟨wr.heap.size, 0, none⟩, 0, by rw [HS.out, decide_eq_false (by omega)]; rfl, (fun h => by rw [HS.out] at h; simp at h; omega), HB.out.alloc zb _⟩
        · go_wp2
          go_returns
          exact ⟨n, A, c, by rw [HS.out, decide_eq_true (by omega)]; rfl, (fun _ => ⟨HN.out, HOW.out⟩), HB.out⟩
end Go.Proofs.YtjknadnknainbaaGreatDoor
