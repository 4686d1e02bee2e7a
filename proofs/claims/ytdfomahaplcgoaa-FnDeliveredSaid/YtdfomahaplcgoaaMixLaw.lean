/- The keyed function is injective in its last word. No program is named here. -/
import Derived.Test.YtdfomahaplcgoaaPlain
namespace Go.Proofs.Ytdfomahaplcgoaa

theorem xs_inv (x : Nat) (hx : x < 4294967296) : (x ^^^ x / 65536) ^^^ ((x ^^^ x / 65536) / 65536) = x := by
  have e : ∀ y : Nat, y / 65536 = y >>> 16 := fun y => (Nat.shiftRight_eq_div_pow y 16).symm
  rw [e, e, Nat.shiftRight_xor_distrib, ← Nat.shiftRight_add]
  have h0 : x >>> (16 + 16) = 0 := by rw [Nat.shiftRight_eq_div_pow]; exact Nat.div_eq_of_lt (by omega)
  rw [h0, Nat.xor_zero, Nat.xor_assoc, Nat.xor_self, Nat.xor_zero]
theorem xs_inj {x y : Nat} (hx : x < 4294967296) (hy : y < 4294967296) (h : x ^^^ x / 65536 = y ^^^ y / 65536) : x = y := by
  rw [← xs_inv x hx, ← xs_inv y hy, h]
theorem mul_inv (y : Nat) (hy : y < 4294967296) : y * 73244475 % 4294967296 * 295559667 % 4294967296 = y := by omega
theorem mixS_inj {x y : Nat} (hx : x < 4294967296) (hy : y < 4294967296) (h : mixS x = mixS y) : x = y := by
  unfold mixS at h
  have h1 := xor_lt32 hx (show x / 65536 < 4294967296 by omega)
  have h2 := xor_lt32 hy (show y / 65536 < 4294967296 by omega)
  have h3 : x ^^^ x / 65536 = y ^^^ y / 65536 := by rw [← mul_inv _ h1, ← mul_inv _ h2, h]
  exact xs_inj hx hy h3
theorem mixN_inj {x y : Nat} (hx : x < 4294967296) (hy : y < 4294967296) (h : mixN x = mixN y) : x = y := by
  unfold mixN at h
  exact mixS_inj hx hy (mixS_inj (mixS_lt _) (mixS_lt _) (xs_inj (mixS_lt _) (mixS_lt _) h))
theorem mixI_inj {a b : Int} (ha : isWordB a = true) (hb : isWordB b = true) (h : mixI a = mixI b) : a = b := by
  unfold mixI at h
  rw [ha, hb] at h
  simp only [if_true] at h
  have h1 := isWordB_iff.1 ha
  have h2 := isWordB_iff.1 hb
  have := mixN_inj (x := a.toNat) (y := b.toNat) (by omega) (by omega) (by omega)
  omega
theorem xor_word {a b : Int} (ha : isWordB a = true) (hb : isWordB b = true) : bits .xor .i64 a b = ((a.toNat ^^^ b.toNat : Nat) : Int) ∧ isWordB (bits .xor .i64 a b) = true := by
  have h1 := isWordB_iff.1 ha
  have h2 := isWordB_iff.1 hb
  obtain ⟨x, rfl⟩ := Int.eq_ofNat_of_zero_le h1.1
  obtain ⟨y, rfl⟩ := Int.eq_ofNat_of_zero_le h2.1
  have e := xor_nat x y (by omega) (by omega)
  have hl := xor_lt32 (show x < 4294967296 by omega) (show y < 4294967296 by omega)
  refine ⟨by rw [e]; simp, ?_⟩
  rw [e]
  exact isWordB_iff.2 (by omega)
theorem keyedI_inj {k a b b' : Int} (hk : isWordB k = true) (ha : isWordB a = true) (hb : isWordB b = true) (hb' : isWordB b' = true) (h : keyedI k a b = keyedI k a b') : b = b' := by
  unfold keyedI at h
  rw [hk, ha, hb, hb'] at h
  simp only [Bool.and_self, if_true] at h
  have hm := mixI_word (bits .xor .i64 (mixI k) a)
  have h1 := xor_word hm hb
  have h2 := xor_word hm hb'
  have h3 := mixI_inj h1.2 h2.2 h
  rw [h1.1, h2.1] at h3
  have h4 : (mixI (bits .xor .i64 (mixI k) a)).toNat ^^^ b.toNat = (mixI (bits .xor .i64 (mixI k) a)).toNat ^^^ b'.toNat := by omega
  have h5 : b.toNat = b'.toNat := by
    have := congrArg (fun z => (mixI (bits .xor .i64 (mixI k) a)).toNat ^^^ z) h4
    simpa [← Nat.xor_assoc] using this
  have h6 := isWordB_iff.1 hb
  have h7 := isWordB_iff.1 hb'
  omega
end Go.Proofs.Ytdfomahaplcgoaa
