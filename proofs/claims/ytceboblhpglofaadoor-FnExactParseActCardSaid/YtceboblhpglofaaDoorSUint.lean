/- ParseUint, in the reference. -/
import Derived.Test.YtceboblhpglofaaDoorUint
import Derived.Test.YtceboblhpglofaaDoorSplit
namespace Go.Proofs.YtceboblhpglofaaDoor
open Go.RowKit

theorem dec_len : ∀ (k n : Nat), n < 10 ^ (k + 1) → (Lib.decDigits n).length ≤ k + 1
  | 0, n, h => by
    rw [Lib.decDigits_one (by simpa using h)]
    simp
  | k + 1, n, h => by
    rw [Lib.decDigits.eq_1]
    split
    · simp
    · have h2 := dec_len k (n / 10) (by
        rw [Nat.pow_succ] at h
        omega)
      simp
      omega
theorem puB_parts {l : List UInt8} (h : puB l = true) : l.length ≤ 10 ∧ digits l := by
  unfold puB at h
  simp only [decide_eq_true_eq] at h
  obtain ⟨h1, h2⟩ := h
  constructor
  · rw [h2]
    exact dec_len 9 _ (by omega)
  · rw [h2]
    exact dec_digits _
theorem puN_no {l : List UInt8} (h : puB l = false) : puN l = 0 := by
  unfold puN
  rw [h]
  rfl
theorem valF_bound : ∀ (l : List UInt8), digits l → valF 0 l < 10 ^ l.length := by
  have h : ∀ (l : List UInt8) (acc : Nat), digits l → valF acc l < (acc + 1) * 10 ^ l.length := by
    intro l
    induction l with
    | nil => intro acc _; simp [valF]
    | cons b r ih =>
      intro acc hd
      rw [valF_cons, dstep_is]
      have h1 := hd b (by simp)
      have h2 := ih (acc * 10 + (b.toNat - 48)) (fun x hx => hd x (by simp [hx]))
      refine Nat.lt_of_lt_of_le h2 ?_
      rw [List.length_cons, Nat.pow_succ, Nat.mul_comm (10 ^ r.length) 10, ← Nat.mul_assoc]
      exact Nat.mul_le_mul_right _ (by omega)
  intro l hd
  have := h l 0 hd
  omega
theorem valF_snoc {l : List UInt8} {k : Nat} {x : UInt8} (h : l[k]? = some x) : valF 0 (l.take (k + 1)) = valF 0 (l.take k) * 10 + (x.toNat - 48) := by
  rw [List.take_add_one, h, valF_app]
  show valF (valF 0 (l.take k)) [x] = _
  rw [valF_cons, valF_nil, dstep_is]
theorem digits_snoc {l : List UInt8} {k : Nat} {x : UInt8} (h : l[k]? = some x) (hd : digits (l.take k)) (hx : 48 ≤ x.toNat ∧ x.toNat ≤ 57) : digits (l.take (k + 1)) := by
  intro b hb
  rw [List.take_add_one, h, List.mem_append] at hb
  rcases hb with hb | hb
  · exact hd b hb
  · simp at hb
    subst hb
    exact hx
theorem sFormatIntS (n : Int) (w : World) (h0 : -9223372036854775808 ≤ n) (h1 : n ≤ 9223372036854775807) :
    Calls Tryd.prog 32 #[.int .i64 n] w fun e w' => e = .returned (.string ⟨(Lib.itoa n).toArray⟩) ∧ Below w.heap.size w w' := sFormatInt n w h0 h1
set_option maxRecDepth 100000 in
set_option maxHeartbeats 3200000 in
theorem sParseUint (l : List UInt8) (w : World) :
    Calls Tryd.prog 22 #[.string ⟨l.toArray⟩] w fun e w' => e = .returned (.tuple #[.int .i64 (puN l), .bool (puB l)]) ∧ Below w.heap.size w w' := by
  by_cases h1 : 10 < l.length
  · have hb : puB l = false := by
      cases hb : puB l
      · rfl
      · exact absurd (puB_parts hb).1 (by omega)
    have HN := hid (puN_no hb)
    have HP := hid hb
    have h1' : (10 : Int) < (l.length : Int) := by omega
    clear hb h1
    go_enter Tryd.func22, Tryd.ntmps22
    go_wp2
    go_returns
    exact ⟨by rw [HN.out, HP.out]; rfl, Below.refl _ _⟩
  have h1' : ¬ (10 : Int) < (l.length : Int) := by omega
  go_enter Tryd.func22, Tryd.ntmps22
  go_wp2_with fail
  go_loopw [4, 5] (fun n i wr => ∃ (k : Nat) (V : Nat), k ≤ l.length ∧ i = .int .i64 k ∧ n = .int .i64 V ∧ V = valF 0 (l.take k) ∧ digits (l.take k) ∧ w = wr) (fun _ i _ => l.length - (intOf i).toNat)
  case atStart => exact ⟨0, 0, Nat.zero_le _, rfl, rfl, rfl, (fun b hb => by simp at hb), rfl⟩
  case round =>
    obtain ⟨k, V, hk, rfl, rfl, hV, hd, rfl⟩ := hrel
    have hVb : V < 10000000000 := by
      have h2 := valF_bound _ hd
      rw [← hV] at h2
      have h3 : (l.take k).length ≤ 10 := by rw [List.length_take]; omega
      exact Nat.lt_of_lt_of_le h2 (Nat.pow_le_pow_right (by omega) h3)
    have HV := hid hV
    have HD := hid hd
    clear hV hd
    by_cases hlt : k < l.length
    · obtain ⟨x, hx⟩ : ∃ x, l[k]? = some x := ⟨_, List.getElem?_eq_getElem hlt⟩
      have hlt' : (k : Int) < (l.length : Int) := by omega
      have hix := index_byte l k x hx
      by_cases hdx : 48 ≤ x.toNat ∧ x.toNat ≤ 57
      · have HV2 := hid (valF_snoc hx)
        have HD2 := hid (digits_snoc hx HD.out hdx)
        obtain ⟨d0, d1⟩ := hdx
        have h3 : ¬ (x.toNat : Int) < 48 := by omega
        have h4 : ¬ (57 : Int) < (x.toNat : Int) := by omega
        have w1 : IntKind.i64.wrap (10 * (V : Int)) = 10 * (V : Int) := IntWalk.i64_in _ (by omega)
        have w2 : IntKind.i64.wrap (10 * (V : Int) + (x.toNat : Int)) = 10 * (V : Int) + (x.toNat : Int) := IntWalk.i64_in _ (by omega)
        have w3 : IntKind.i64.wrap (10 * (V : Int) + (x.toNat : Int) - 48) = 10 * (V : Int) + (x.toNat : Int) - 48 := IntWalk.i64_in _ (by omega)
        have w4 : IntKind.i64.wrap (x.toNat : Int) = (x.toNat : Int) := IntWalk.i64_in _ (by omega)
        clear hx
        go_wp2
        go_roundw
        case rel => exact ⟨k + 1, V * 10 + (x.toNat - 48), by omega, by go_num, congrArg (Value.int .i64) (by omega), by rw [HV2.out, ← HV.out], HD2.out, trivial⟩
        case measure => simp [intOf]; omega
      · have hb : puB l = false := by
          cases hb : puB l
          · rfl
          · exact absurd ((puB_parts hb).2 x (List.mem_of_getElem? hx)) hdx
        have HN := hid (puN_no hb)
        have HP := hid hb
        have h3 : (x.toNat : Int) < 48 ∨ (57 : Int) < (x.toNat : Int) ∧ ¬ (x.toNat : Int) < 48 := by omega
        clear hb hx hdx
        rcases h3 with h3 | ⟨h3, h4⟩
        all_goals
          go_wp2
          go_returns
          exact ⟨by rw [HN.out, HP.out]; rfl, Below.refl _ _⟩
    · obtain rfl : l.length = k := by omega
      have hV := HV.out
      rw [List.take_length] at hV
      by_cases hbig : 1000000000 < V
      · have hb : puB l = false := by
          unfold puB
          rw [← hV]
          exact decide_eq_false (by omega)
        have HN := hid (puN_no hb)
        have HP := hid hb
        have hbig' : (1000000000 : Int) < (V : Int) := by omega
        clear hb hV
        go_wp2
        go_returns
        exact ⟨by rw [HN.out, HP.out]; rfl, Below.refl _ _⟩
      · have hbig' : ¬ (1000000000 : Int) < (V : Int) := by omega
        have HC := hid (fun w => sFormatIntS (V : Int) w (by omega) (by omega))
        obtain ⟨T, hT⟩ : ∃ T, Lib.itoa (V : Int) = T := ⟨_, rfl⟩
        rw [hT] at HC
        by_cases he : T = l
        · obtain ⟨hb, hn⟩ := puB_of (l := l) (v := (V : Int)) (by omega) (by omega) (hT.trans he)
          have HN := hid hn
          have HP := hid hb
          have he' : (T == l) = true := by simpa using he
          clear hb hn hT hV he
          go_wp2_with fail
          refine (HC.out _).mono ?_
          rintro e w2 ⟨rfl, hb2⟩
          have HB2 := hid hb2
          clear hb2
          go_wp2
          go_returns
          exact ⟨by rw [HN.out, HP.out]; rfl, HB2.out⟩
        · have hb := puB_no (l := l) (fun u hu h => he (by
            have h2 := puB_of h.1 h.2.1 h.2.2
            have h3 : (V : Int) = u := by
              rw [← h2.2]
              unfold puN
              rw [h2.1, ← hV]
              rfl
            rw [← hT, h3]
            exact h.2.2))
          have HN := hid (puN_no hb)
          have HP := hid hb
          have he' : (T == l) = false := by simpa using he
          clear hb hT hV he
          go_wp2_with fail
          refine (HC.out _).mono ?_
          rintro e w2 ⟨rfl, hb2⟩
          have HB2 := hid hb2
          clear hb2
          go_wp2
          go_returns
          exact ⟨by rw [HN.out, HP.out]; rfl, HB2.out⟩
end Go.Proofs.YtceboblhpglofaaDoor
