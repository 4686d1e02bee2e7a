/- Plain laws of the honest run, the judge and the coins. -/
import Derived.Test.YtgkkljcboicipaaJudge3
import Derived.Test.YtgkkljcboicipaaCoins2
namespace Go.Proofs.Ytgkkljcboicipaa
open Go.RowKit

theorem honRow_get {p : Int} {xs : List Int} {k n j : Nat} {x : Int} (h : xs[j]? = some x) (hj : j < n) (f : Nat) (hf : f < 3) : (honRow p xs k n)[j * 3 + f]? = (msg3 p x j k)[f]? := by
  induction n with
  | zero => omega
  | succ n ih =>
    show (honRow p xs k n ++ msg3 p (xs.getD n 0) n k)[j * 3 + f]? = _
    by_cases hin : j < n
    · rw [List.getElem?_append_left (by rw [honRow_length]; omega)]
      exact ih hin
    · obtain rfl : j = n := by omega
      rw [List.getElem?_append_right (by rw [honRow_length]; omega), honRow_length, getD_some h]
      have e : j * 3 + f - j * 3 = f := by omega
      rw [e]
theorem honTo_get {p : Int} {xs : List Int} {K k j : Nat} {x : Int} (h : xs[j]? = some x) (hk : k < K) (f : Nat) (hf : f < 3) : (honTo p xs K)[(k * xs.length + j) * 3 + f]? = (msg3 p x j k)[f]? := by
  have hj := (List.getElem?_eq_some_iff.1 h).1
  induction K with
  | zero => omega
  | succ K ih =>
    show (honTo p xs K ++ honRow p xs K xs.length)[(k * xs.length + j) * 3 + f]? = _
    by_cases hin : k < K
    · have hm : (k + 1) * xs.length ≤ K * xs.length := Nat.mul_le_mul_right _ hin
      rw [Nat.add_mul] at hm
      rw [List.getElem?_append_left (by rw [honTo_length]; omega)]
      exact ih hin
    · obtain rfl : k = K := by omega
      rw [List.getElem?_append_right (by rw [honTo_length]; omega), honTo_length]
      have e : (k * xs.length + j) * 3 + f - k * xs.length * 3 = j * 3 + f := by omega
      rw [e]
      exact honRow_get h hj f hf
/-- The message at a place: its sender, its round, its value. -/
theorem honTo_at {p : Int} {xs : List Int} {K q : Nat} (hL : 0 < xs.length) (hq : q < K * xs.length) :
    ∃ x, xs[q % xs.length]? = some x ∧ (honTo p xs K)[q * 3]? = some ((q % xs.length : Nat) : Int) ∧ (honTo p xs K)[q * 3 + 1]? = some ((q / xs.length : Nat) : Int) ∧ (honTo p xs K)[q * 3 + 2]? = some (belowI x ((q / xs.length : Nat) : Int) p) := by
  have hm : q % xs.length < xs.length := Nat.mod_lt _ hL
  have hd : q / xs.length < K := by rw [Nat.div_lt_iff_lt_mul hL]; exact hq
  have e : q / xs.length * xs.length + q % xs.length = q := Nat.div_add_mod' q xs.length
  obtain ⟨x, hx⟩ : ∃ x, xs[q % xs.length]? = some x := ⟨_, List.getElem?_eq_getElem hm⟩
  have h0 := honTo_get (p := p) hx hd 0 (by omega)
  have h1 := honTo_get (p := p) hx hd 1 (by omega)
  have h2 := honTo_get (p := p) hx hd 2 (by omega)
  rw [e] at h0 h1 h2
  exact ⟨x, hx, h0, h1, h2⟩
theorem agree_self (hs : List Int) {N : Nat} : Agree hs hs N N := fun i hi => by
  unfold diffB
  rw [eq3_same]
  simp
  omega
theorem blame_self (hs : List Int) (N : Nat) : blameAt hs hs N N = -1 := by
  rw [blame_end (agree_self hs), if_neg (by omega)]
theorem agree_take (hs : List Int) {k j : Nat} (hj : j ≤ k) : Agree (hs.take (k * 3)) hs k j := fun i hi => by
  unfold diffB
  have e : ∀ f, f < 3 → (hs.take (k * 3)).getD (i * 3 + f) 0 = hs.getD (i * 3 + f) 0 := fun f hf => by
    rw [List.getD_eq_getElem?_getD, List.getD_eq_getElem?_getD, List.getElem?_take, if_pos (by omega)]
  have e0 := e 0 (by omega)
  rw [Nat.add_zero] at e0
  rw [e0, e 1 (by omega), e 2 (by omega), eq3_same]
  simp
  omega
theorem blame_take {hs : List Int} {k N : Nat} {f : Int} (hk : k < N) (hf : hs[k * 3]? = some f) : blameAt (hs.take (k * 3)) hs k N = f := by
  rw [blame_hit (agree_take hs (Nat.le_refl _)) hk (diff_far (Nat.le_refl _)), getD_some hf]
theorem blame_set {hs : List Int} {k N : Nat} {f v u : Int} (hl : hs.length = N * 3) (hk : k < N) (hf : hs[k * 3]? = some f) (hv : hs[k * 3 + 2]? = some v) (hu : u ≠ v) : blameAt (hs.set (k * 3 + 2) u) hs N N = f := by
  have e : ∀ i, i ≠ k * 3 + 2 → (hs.set (k * 3 + 2) u).getD i 0 = hs.getD i 0 := fun i hi => by
    rw [List.getD_eq_getElem?_getD, List.getD_eq_getElem?_getD, List.getElem?_set_ne (by omega)]
  have ek : (hs.set (k * 3 + 2) u).getD (k * 3 + 2) 0 = u := by
    rw [List.getD_eq_getElem?_getD, List.getElem?_set_self (by omega)]
    rfl
  refine (blame_hit (j := k) (fun i hi => ?_) hk ?_).trans (getD_some hf)
  · unfold diffB
    rw [e _ (by omega), e _ (by omega), e _ (by omega), eq3_same]
    simp
    omega
  · unfold diffB
    rw [e (k * 3) (by omega), e (k * 3 + 1) (by omega), ek, getD_some hv]
    have : eq3 (hs.getD (k * 3) 0) (hs.getD (k * 3 + 1) 0) u (hs.getD (k * 3) 0) (hs.getD (k * 3 + 1) 0) v = false := by
      unfold eq3
      simp [hu]
    rw [this]
    simp
theorem blame_extra {hs : List Int} {N : Nat} {f r v : Int} (hl : hs.length = N * 3) : blameAt (hs ++ [f, r, v]) hs (N + 1) N = f := by
  have e : ∀ i, i < N * 3 → (hs ++ [f, r, v]).getD i 0 = hs.getD i 0 := fun i hi => by
    rw [List.getD_eq_getElem?_getD, List.getD_eq_getElem?_getD, List.getElem?_append_left (by omega)]
  have hag : Agree (hs ++ [f, r, v]) hs (N + 1) N := fun i hi => by
    unfold diffB
    rw [e _ (by omega), e _ (by omega), e _ (by omega), eq3_same]
    simp
    omega
  rw [blame_end hag, if_pos (by omega), List.getD_eq_getElem?_getD, List.getElem?_append_right (by omega), hl, Nat.sub_self]
  rfl
theorem belowI_lt {x p : Int} {k : Nat} (hx : isWordB x = true) (h2 : 2 ≤ p) (hp : p ≤ 101) (hk : k ≤ 999999) : 0 ≤ belowI x k p ∧ belowI x k p < p := by
  have h1 : belowB x k p = true := by
    unfold belowB tapeGoB tapeOkB
    have e1 : inB p 1 65536 = true := inB_iff.2 (by omega)
    have e2 : inB (k : Int) 0 1000000 = true := inB_iff.2 (by omega)
    have e3 : ((k : Int) == 1000000) = false := by simp; omega
    rw [hx, e1, e2, e3]
    rfl
  unfold belowI
  rw [h1, pick_yes]
  exact ⟨Int.emod_nonneg _ (by omega), Int.emod_lt_of_pos _ (by omega)⟩
theorem emod_cases {s p : Int} (_hp : 0 < p) (h0 : 0 ≤ s) (h1 : s < 2 * p) : (s < p ∧ s % p = s) ∨ (p ≤ s ∧ s % p = s - p) := by
  by_cases h : s < p
  · exact .inl ⟨h, Int.emod_eq_of_lt h0 h⟩
  · refine .inr ⟨by omega, ?_⟩
    have e : s % p = (s - p) % p := by
      have := Int.add_emod_right (s - p) p
      rw [show s - p + p = s by omega] at this
      exact this
    rw [e]
    exact Int.emod_eq_of_lt (by omega) (by omega)
theorem shift_ne {v d p : Int} (hv0 : 0 ≤ v) (hv1 : v < p) (hd0 : 1 ≤ d) (hd1 : d < p) : (v + d) % p ≠ v ∧ 0 ≤ (v + d) % p ∧ (v + d) % p < p := by
  rcases emod_cases (s := v + d) (p := p) (by omega) (by omega) (by omega) with ⟨h, e⟩ | ⟨h, e⟩ <;> rw [e] <;> omega
theorem add_inj {a b v p : Int} (ha0 : 0 ≤ a) (ha1 : a < p) (hb0 : 0 ≤ b) (hb1 : b < p) (hv0 : 0 ≤ v) (hv1 : v < p) (h : a ≠ b) : (a + v) % p ≠ (b + v) % p := by
  rcases emod_cases (s := a + v) (p := p) (by omega) (by omega) (by omega) with ⟨_, e⟩ | ⟨_, e⟩ <;>
  rcases emod_cases (s := b + v) (p := p) (by omega) (by omega) (by omega) with ⟨_, e'⟩ | ⟨_, e'⟩ <;> rw [e, e'] <;> omega
end Go.Proofs.Ytgkkljcboicipaa
