/- Decimal numerals read back. No program is named here. -/
import Derived.Test.YtceboblhpglofaaDoorBase
import Derived.Test.YtceboblhpglofaaDoorPlain
import Derived.Lib.AtoiAll
import Derived.Lib.ItoaLen
namespace Go.Proofs.YtceboblhpglofaaDoor

def dstep (a : Nat) (b : UInt8) : Nat := a * 10 + (b.toNat - 48)
def valF (acc : Nat) (l : List UInt8) : Nat := l.foldl dstep acc
theorem valF_nil (acc : Nat) : valF acc [] = acc := rfl
theorem valF_cons (acc : Nat) (b : UInt8) (r : List UInt8) : valF acc (b :: r) = valF (dstep acc b) r := List.foldl_cons ..
theorem dstep_is (a : Nat) (b : UInt8) : dstep a b = a * 10 + (b.toNat - 48) := by unfold dstep; exact Eq.refl _
def digits (l : List UInt8) : Prop := ∀ b ∈ l, 48 ≤ b.toNat ∧ b.toNat ≤ 57
theorem valF_le : ∀ (l : List UInt8) (acc : Nat), acc ≤ valF acc l
  | [], acc => by rw [valF_nil]; exact Nat.le_refl _
  | b :: r, acc => by
    have h := valF_le r (dstep acc b)
    have h2 := dstep_is acc b
    rw [valF_cons]
    generalize valF (dstep acc b) r = q at h
    omega
theorem valF_app : ∀ (l r : List UInt8) (acc : Nat), valF acc (l ++ r) = valF (valF acc l) r
  | [], r, acc => by rw [List.nil_append, valF_nil]
  | b :: l, r, acc => by rw [List.cons_append, valF_cons, valF_cons, valF_app l r]
theorem pu_ok : ∀ (l : List UInt8) (acc : Nat), digits l → valF acc l < 1844674407370955162 → Lib.parseUint10 acc l = .ok (valF acc l)
  | [], acc, _, _ => by rw [valF_nil, Lib.parseUint10]
  | b :: r, acc, hd, hv => by
    have hb := hd b (by simp)
    have h1 := valF_le r (dstep acc b)
    rw [valF_cons] at hv ⊢
    have h2 : dstep acc b < 1844674407370955162 := Nat.lt_of_le_of_lt h1 hv
    have h3 := dstep_is acc b
    rw [Lib.parseUint10, if_pos hb, if_neg (by omega), if_neg (by omega), ← h3]
    exact pu_ok r _ (fun x hx => hd x (by simp [hx])) hv
theorem dec_digits : ∀ n, digits (Lib.decDigits n) := by
  intro n
  induction n using Nat.strongRecOn with
  | _ n ih =>
    rw [Lib.decDigits]
    split
    · rename_i h
      intro b hb
      simp at hb
      subst hb
      simp
      omega
    · rename_i h
      intro b hb
      rcases List.mem_append.1 hb with h1 | h1
      · exact ih (n / 10) (by omega) b h1
      · simp at h1
        subst h1
        simp
        omega
theorem dec_val : ∀ n, valF 0 (Lib.decDigits n) = n := by
  intro n
  induction n using Nat.strongRecOn with
  | _ n ih =>
    rw [Lib.decDigits]
    split
    · rename_i h
      rw [valF_cons, valF_nil, dstep_is]
      simp
      omega
    · rename_i h
      rw [valF_app, ih (n / 10) (by omega), valF_cons, valF_nil, dstep_is]
      simp
      omega
theorem dec_ne (n : Nat) : Lib.decDigits n ≠ [] := by
  rw [Lib.decDigits]
  split <;> simp
theorem atoi_dec {n : Nat} (h : n ≤ 1000000000) : Lib.atoiAll (Lib.decDigits n) = .ok (n : Int) := by
  have hd := dec_digits n
  have hv := dec_val n
  have hne := dec_ne n
  have hok := pu_ok (Lib.decDigits n) 0 hd (by rw [hv]; omega)
  rw [hv] at hok
  cases hl : Lib.decDigits n with
  | nil => exact absurd hl hne
  | cons c r =>
    rw [hl] at hd hok
    have hc := hd c (by simp)
    unfold Lib.atoiAll
    simp only
    rw [if_neg (by omega)]
    unfold Lib.parseMag
    rw [if_neg (by simp), hok]
    simp only
    rw [if_neg (by omega), if_neg (by omega), if_neg (by omega)]
/-- Whether a text is the numeral of a number up to a billion, as the program writes it; the number. -/
def puB (l : List UInt8) : Bool := decide (valF 0 l ≤ 1000000000 ∧ l = Lib.decDigits (valF 0 l))
def puN (l : List UInt8) : Int := if puB l then (valF 0 l : Nat) else 0
theorem puB_dec {n : Nat} (h : n ≤ 1000000000) : puB (Lib.decDigits n) = true := by
  unfold puB
  rw [dec_val]
  simp [h]
theorem puN_dec {n : Nat} (h : n ≤ 1000000000) : puN (Lib.decDigits n) = n := by
  unfold puN
  rw [puB_dec h, dec_val]
  rfl
theorem puB_atoi {l : List UInt8} (h : puB l = true) : Lib.atoiAll l = .ok (puN l) ∧ 0 ≤ puN l ∧ puN l ≤ 1000000000 ∧ Lib.itoa (puN l) = l := by
  have hN : puN l = (valF 0 l : Nat) := by unfold puN; rw [h]; rfl
  unfold puB at h
  simp only [decide_eq_true_eq] at h
  obtain ⟨h1, h2⟩ := h
  refine ⟨?_, by omega, by omega, ?_⟩
  · rw [hN]
    conv => lhs; rw [h2]
    exact atoi_dec h1
  · rw [hN, Lib.itoa_nonneg, ← h2]
theorem puB_of {l : List UInt8} {v : Int} (h0 : 0 ≤ v) (h1 : v ≤ 1000000000) (h : Lib.itoa v = l) : puB l = true ∧ puN l = v := by
  obtain ⟨n, rfl⟩ : ∃ n : Nat, v = n := ⟨v.toNat, by omega⟩
  rw [Lib.itoa_nonneg] at h
  subst h
  exact ⟨puB_dec (by omega), puN_dec (by omega)⟩
theorem puB_no {l : List UInt8} (h : ∀ v, Lib.atoiAll l = .ok v → ¬ (0 ≤ v ∧ v ≤ 1000000000 ∧ Lib.itoa v = l)) : puB l = false := by
  cases hb : puB l
  · rfl
  · obtain ⟨h1, h2⟩ := puB_atoi hb
    exact absurd h2 (h _ h1)
theorem itoa_inj {a b : Int} (ha : 0 ≤ a ∧ a ≤ 1000000000) (hb : 0 ≤ b ∧ b ≤ 1000000000) (e : Lib.itoa a = Lib.itoa b) : a = b := by
  rw [← (puB_of ha.1 ha.2 rfl).2, ← (puB_of hb.1 hb.2 rfl).2, e]
end Go.Proofs.YtceboblhpglofaaDoor
