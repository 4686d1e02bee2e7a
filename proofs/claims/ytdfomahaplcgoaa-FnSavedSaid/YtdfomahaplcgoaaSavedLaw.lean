/- The tag tells a changed word. No program is named here. -/
import Derived.Test.YtdfomahaplcgoaaPadsLaw
namespace Go.Proofs.Ytdfomahaplcgoaa

theorem keyedI_inj2 {k a a' b : Int} (hk : isWordB k = true) (ha : isWordB a = true) (ha' : isWordB a' = true) (hb : isWordB b = true) (h : keyedI k a b = keyedI k a' b) : a = a' := by
  unfold keyedI at h
  rw [hk, ha, ha', hb] at h
  simp only [Bool.and_self, if_true] at h
  have hm := mixI_word k
  have h1 := xor_word hm ha
  have h2 := xor_word hm ha'
  have g1 := mixI_word (bits .xor .i64 (mixI k) a)
  have g2 := mixI_word (bits .xor .i64 (mixI k) a')
  have e1 := xor_word g1 hb
  have e2 := xor_word g2 hb
  have h3 := mixI_inj e1.2 e2.2 h
  rw [e1.1, e2.1] at h3
  have h4 : (mixI (bits .xor .i64 (mixI k) a)).toNat ^^^ b.toNat = (mixI (bits .xor .i64 (mixI k) a')).toNat ^^^ b.toNat := by omega
  have h5 : (mixI (bits .xor .i64 (mixI k) a)).toNat = (mixI (bits .xor .i64 (mixI k) a')).toNat := by
    have := congrArg (fun z => z ^^^ b.toNat) h4
    simpa [Nat.xor_assoc] using this
  have h6 := isWordB_iff.1 g1
  have h7 := isWordB_iff.1 g2
  have h8 := mixI_inj h1.2 h2.2 (show mixI (bits .xor .i64 (mixI k) a) = mixI (bits .xor .i64 (mixI k) a') by omega)
  rw [h1.1, h2.1] at h8
  have h9 : (mixI k).toNat ^^^ a.toNat = (mixI k).toNat ^^^ a'.toNat := by omega
  have h10 : a.toNat = a'.toNat := by
    have := congrArg (fun z => (mixI k).toNat ^^^ z) h9
    simpa [← Nat.xor_assoc] using this
  have h11 := isWordB_iff.1 ha
  have h12 := isWordB_iff.1 ha'
  omega
theorem tagTo_changed {k n : Int} {xs : List Int} {i : Nat} {x y : Int} (hk : isWordB k = true) (hw : wordsB xs = true) (hx : xs[i]? = some x) (hy : isWordB y = true) (hne : y ≠ x) :
    ∀ j, i < j → j ≤ xs.length → tagTo k n (xs.set i y) j ≠ tagTo k n xs j := by
  have hil : i < xs.length := (List.getElem?_eq_some_iff.1 hx).1
  have hsame : ∀ j, j ≤ i → tagTo k n (xs.set i y) j = tagTo k n xs j := by
    intro j hj
    unfold tagTo
    rw [List.take_set, List.set_eq_of_length_le (by rw [List.length_take]; omega)]
  intro j
  induction j with
  | zero => intro h; omega
  | succ j ih =>
    intro h1 h2 he
    have hxj : xs[j]? = some xs[j] := List.getElem?_eq_getElem (by omega)
    by_cases hj : j = i
    · subst hj
      rw [tagTo_succ (List.getElem?_set_self (by omega)), tagTo_succ hx, hsame j (Nat.le_refl _)] at he
      exact hne (keyedI_inj hk (tagTo_word _ _ _ _) hy (wordsB_get hw hx) he)
    · have hyj : (xs.set i y)[j]? = some xs[j] := by rw [List.getElem?_set_ne (by omega)]; exact hxj
      rw [tagTo_succ hyj, tagTo_succ hxj] at he
      exact ih (by omega) (by omega) (keyedI_inj2 hk (tagTo_word _ _ _ _) (tagTo_word _ _ _ _) (wordsB_get hw hxj) he)
theorem tagI_changed {k n : Int} {xs : List Int} {i : Nat} {x y : Int} (hk : isWordB k = true) (hw : wordsB xs = true) (hx : xs[i]? = some x) (hy : isWordB y = true) (hne : y ≠ x)
    (h1 : sealB k n xs = true) (h2 : sealB k n (xs.set i y) = true) : tagI k n (xs.set i y) ≠ tagI k n xs := by
  have hil : i < xs.length := (List.getElem?_eq_some_iff.1 hx).1
  unfold tagI
  rw [h1, h2]
  simp only [if_true, List.length_set]
  exact tagTo_changed hk hw hx hy hne xs.length hil (Nat.le_refl _)
theorem xor_ne {a b : Int} (ha : isWordB a = true) (hb : isWordB b = true) (h0 : b ≠ 0) : bits .xor .i64 a b ≠ a := by
  intro h
  have h1 := xor_word ha hb
  rw [h1.1] at h
  have h2 := isWordB_iff.1 ha
  have h3 := isWordB_iff.1 hb
  have h4 : a.toNat ^^^ b.toNat = a.toNat := by omega
  have h5 : b.toNat = 0 := by
    have := congrArg (fun z => a.toNat ^^^ z) h4
    simpa [← Nat.xor_assoc] using this
  omega
end Go.Proofs.Ytdfomahaplcgoaa
