/- Programs: statements as six numbers, valid programs as trees, what they unroll to. No program is named here. -/
import Derived.Test.YtihbaieiempjeaaPlain
import Derived.Test.YtihbaieiempjeaaBase
namespace Go.Proofs.Ytihbaieiempjeaa
open Go.RowKit

structure St where
  o : Int
  d : Int
  a : Int
  b : Int
  c : Int
  n : Int
def regB (x : Int) : Bool := inB x 0 7
def stmtB (s : St) : Bool :=
  if s.o = 1 then regB s.d && (s.a == 0 && (s.b == 0 && (s.c == 0 && inB s.n 0 15)))
  else if s.o = 2 then regB s.d && (inB s.a 0 4 && (s.b == 0 && (s.c == 0 && inB s.n 0 3)))
  else if inB s.o 3 9 then regB s.d && (regB s.a && (regB s.b && (s.c == 0 && s.n == 0)))
  else if s.o = 10 then regB s.d && (regB s.a && (regB s.b && (regB s.c && s.n == 0)))
  else if s.o = 11 then s.d == 0 && (regB s.a && (s.b == 0 && (s.c == 0 && s.n == 0)))
  else if s.o = 12 then s.d == 0 && (s.a == 0 && (s.b == 0 && (s.c == 0 && inB s.n 1 8)))
  else s.o == 13 && (s.d == 0 && (s.a == 0 && (s.b == 0 && (s.c == 0 && s.n == 0))))
/-- The numbers of a valid statement lie in these ranges. -/
theorem stmt_in {s : St} (h : stmtB s = true) : (1 ≤ s.o ∧ s.o ≤ 13) ∧ (0 ≤ s.d ∧ s.d ≤ 7) ∧ (0 ≤ s.a ∧ s.a ≤ 7) ∧ (0 ≤ s.b ∧ s.b ≤ 7) ∧ (0 ≤ s.c ∧ s.c ≤ 7) ∧ (0 ≤ s.n ∧ s.n ≤ 15) := by
  unfold stmtB regB at h
  split at h
  · simp only [Bool.and_eq_true, inB_iff, beq_iff_eq] at h; omega
  split at h
  · simp only [Bool.and_eq_true, inB_iff, beq_iff_eq] at h; omega
  split at h
  · next h3 =>
    have := inB_iff.1 h3
    simp only [Bool.and_eq_true, inB_iff, beq_iff_eq] at h; omega
  split at h
  · simp only [Bool.and_eq_true, inB_iff, beq_iff_eq] at h; omega
  split at h
  · simp only [Bool.and_eq_true, inB_iff, beq_iff_eq] at h; omega
  split at h
  · simp only [Bool.and_eq_true, inB_iff, beq_iff_eq] at h; omega
  · simp only [Bool.and_eq_true, beq_iff_eq] at h; omega
theorem stmt_loop {s : St} (h : stmtB s = true) (ho : s.o = 12) : 1 ≤ s.n ∧ s.n ≤ 8 := by
  unfold stmtB at h
  rw [if_neg (by omega), if_neg (by omega), if_neg (by rw [inB_iff]; omega), if_neg (by omega), if_neg (by omega), if_pos ho] at h
  simp only [Bool.and_eq_true, inB_iff, beq_iff_eq] at h
  omega
/-! rows of statements -/
def flatS : List St → List Int
  | [] => []
  | s :: r => s.o :: s.d :: s.a :: s.b :: s.c :: s.n :: flatS r
theorem flatS_length : ∀ L, (flatS L).length = L.length * 6
  | [] => rfl
  | s :: r => by simp only [flatS, List.length_cons, flatS_length r]; omega
theorem flatS_append : ∀ A B, flatS (A ++ B) = flatS A ++ flatS B
  | [], B => rfl
  | s :: r, B => by simp only [flatS, List.cons_append, flatS_append r B]
def sixS (s : St) : List Int := [s.o, s.d, s.a, s.b, s.c, s.n]
theorem flatS_snoc (L : List St) (s : St) : flatS (L ++ [s]) = flatS L ++ sixS s := flatS_append L [s]
theorem flatS_at : ∀ {L : List St} {k : Nat} {s : St}, L[k]? = some s → ∀ (j : Nat) (x : Int), (sixS s)[j]? = some x → (flatS L)[k * 6 + j]? = some x
  | t :: r, 0, s, h, j, x, hx => by
    injection h with h
    subst h
    have hj : j < 6 := (List.getElem?_eq_some_iff.1 hx).1
    rw [show 0 * 6 + j = j by omega]
    match j, hj with
    | 0, _ => exact hx
    | 1, _ => exact hx
    | 2, _ => exact hx
    | 3, _ => exact hx
    | 4, _ => exact hx
    | 5, _ => exact hx
  | t :: r, k + 1, s, h, j, x, hx => by
    have ih := flatS_at (L := r) (k := k) (by simpa using h) j x hx
    rw [show (k + 1) * 6 + j = (k * 6 + j) + 6 by omega]
    exact ih
theorem flatS_drop : ∀ (L : List St) (k : Nat), (flatS L).drop (k * 6) = flatS (L.drop k)
  | L, 0 => by simp
  | [], k + 1 => by simp [flatS]
  | t :: r, k + 1 => by
    rw [show (k + 1) * 6 = k * 6 + 6 by omega, List.drop_succ_cons, ← flatS_drop r k]
    rfl
theorem flatS_take : ∀ (L : List St) (k : Nat), (flatS L).take (k * 6) = flatS (L.take k)
  | L, 0 => by simp [flatS]
  | [], k + 1 => by simp [flatS]
  | t :: r, k + 1 => by
    rw [show (k + 1) * 6 = k * 6 + 6 by omega, List.take_succ_cons, flatS, flatS, ← flatS_take r k]
    rfl
/-! depth -/
def dep (s : St) (k : Int) : Int := if s.o = 12 then k + 1 else if s.o = 13 then k - 1 else k
def scanP : Int → List St → Bool
  | k, [] => k == 0
  | k, s :: r => stmtB s && (inB (dep s k) 0 3 && scanP (dep s k) r)
def progB (L : List St) : Bool := decide (L.length ≤ 40) && scanP 0 L
/-- Valid programs as trees. -/
inductive Tr where
  | nil : Tr
  | one (s : St) (r : Tr) : Tr
  | loop (h : St) (b : Tr) (e : St) (r : Tr) : Tr
def Tr.flat : Tr → List St
  | .nil => []
  | .one s r => s :: r.flat
  | .loop h b e r => h :: (b.flat ++ e :: r.flat)
def Tr.ok : Tr → Bool
  | .nil => true
  | .one s r => stmtB s && (!(s.o == 12) && (!(s.o == 13) && r.ok))
  | .loop h b e r => stmtB h && (h.o == 12 && (b.ok && (stmtB e && (e.o == 13 && r.ok))))
def Tr.dp : Tr → Nat
  | .nil => 0
  | .one _ r => r.dp
  | .loop _ b _ r => max (b.dp + 1) r.dp
def Tr.sz : Tr → Nat
  | .nil => 0
  | .one _ r => r.sz + 1
  | .loop _ b _ r => b.sz + r.sz + 1
def repL (L : List St) : Nat → List St
  | 0 => []
  | n + 1 => repL L n ++ L
def Tr.unr : Tr → List St
  | .nil => []
  | .one s r => s :: r.unr
  | .loop h b _ r => repL b.unr h.n.toNat ++ r.unr
def Tr.us : Tr → Nat
  | .nil => 0
  | .one _ r => 1 + r.us
  | .loop h b _ r => h.n.toNat * b.us + r.us
theorem repL_length (L : List St) : ∀ n, (repL L n).length = n * L.length
  | 0 => by simp [repL]
  | n + 1 => by rw [repL, List.length_append, repL_length L n, Nat.succ_mul]
theorem unr_length : ∀ t : Tr, t.unr.length = t.us
  | .nil => rfl
  | .one s r => by simp only [Tr.unr, Tr.us, List.length_cons, unr_length r]; omega
  | .loop h b e r => by rw [Tr.unr, Tr.us, List.length_append, repL_length, unr_length b, unr_length r]
theorem us_le : ∀ t : Tr, t.ok = true → t.us ≤ t.flat.length * 8 ^ t.dp
  | .nil, _ => Nat.zero_le _
  | .one s r, h => by
    simp only [Tr.ok, Bool.and_eq_true] at h
    have ih := us_le r h.2.2.2
    have h8 : 1 ≤ 8 ^ r.dp := Nat.pow_pos (by decide)
    simp only [Tr.us, Tr.flat, Tr.dp, List.length_cons, Nat.succ_mul]
    omega
  | .loop h b e r, ht => by
    simp only [Tr.ok, Bool.and_eq_true, beq_iff_eq] at ht
    have ib := us_le b ht.2.2.1
    have ir := us_le r ht.2.2.2.2.2
    have hn := stmt_loop ht.1 ht.2.1
    have h1 : h.n.toNat * b.us ≤ 8 * (b.flat.length * 8 ^ b.dp) := Nat.mul_le_mul (by omega) ib
    have h2 : 8 * (b.flat.length * 8 ^ b.dp) = b.flat.length * 8 ^ (b.dp + 1) := by rw [Nat.pow_succ]; ac_rfl
    have h3 : b.flat.length * 8 ^ (b.dp + 1) ≤ b.flat.length * 8 ^ max (b.dp + 1) r.dp := Nat.mul_le_mul_left _ (Nat.pow_le_pow_right (by decide) (by omega))
    have h4 : r.flat.length * 8 ^ r.dp ≤ r.flat.length * 8 ^ max (b.dp + 1) r.dp := Nat.mul_le_mul_left _ (Nat.pow_le_pow_right (by decide) (by omega))
    simp only [Tr.us, Tr.flat, Tr.dp, List.length_cons, List.length_append]
    generalize 8 ^ max (b.dp + 1) r.dp = M at h3 h4 ⊢
    have h5 : (b.flat.length + (r.flat.length + 1) + 1) * M = b.flat.length * M + r.flat.length * M + 2 * M := by rw [Nat.add_mul, Nat.add_mul, Nat.add_mul]; omega
    rw [h5]
    omega
def Tr.isNil : Tr → Bool
  | .nil => true
  | _ => false
theorem nil_dp {t : Tr} (h : t.isNil = true) : t.dp = 0 := by cases t <;> first | rfl | cases h
def fitB (k : Nat) (t : Tr) : Bool := decide (k + t.dp ≤ 3) || t.isNil
theorem fitB_iff {k : Nat} {t : Tr} : fitB k t = true ↔ k + t.dp ≤ 3 ∨ t.isNil = true := by
  unfold fitB
  rw [Bool.or_eq_true, decide_eq_true_iff]
/-- The depth of a tree, as the scan sees it. -/
theorem scan_tree : ∀ (t : Tr) (k : Nat) (R : List St), t.ok = true → scanP k (t.flat ++ R) = (fitB k t && scanP k R)
  | .nil, k, R, _ => by simp [Tr.flat, fitB, Tr.isNil]
  | .one s r, k, R, h => by
    simp only [Tr.ok, Bool.and_eq_true, Bool.not_eq_true', beq_eq_false_iff_ne] at h
    obtain ⟨h1, h2, h3, h4⟩ := h
    have hd : dep s k = k := by unfold dep; rw [if_neg h2, if_neg h3]
    simp only [Tr.flat, List.cons_append, scanP, hd, h1, Bool.true_and]
    rw [scan_tree r k R h4]
    have hn := nil_dp (t := r)
    have hdp : (Tr.one s r).dp = r.dp := rfl
    have hni : (Tr.one s r).isNil = false := rfl
    rw [Bool.eq_iff_iff, Bool.and_eq_true, Bool.and_eq_true, Bool.and_eq_true, fitB_iff, fitB_iff, inB_iff, hdp, hni]
    constructor
    · rintro ⟨h5, h6 | h6, h7⟩
      · exact ⟨.inl h6, h7⟩
      · have := hn h6
        exact ⟨.inl (by omega), h7⟩
    · rintro ⟨h5 | h5, h7⟩
      · exact ⟨by omega, .inl h5, h7⟩
      · cases h5
  | .loop h b e r, k, R, ht => by
    simp only [Tr.ok, Bool.and_eq_true, beq_iff_eq] at ht
    obtain ⟨h1, h2, h3, h4, h5, h6⟩ := ht
    have hd : dep h k = ((k + 1 : Nat) : Int) := by unfold dep; rw [if_pos h2]; omega
    have he : dep e ((k + 1 : Nat) : Int) = k := by unfold dep; rw [if_neg (by omega), if_pos h5]; omega
    have hst : scanP ((k + 1 : Nat) : Int) (e :: (r.flat ++ R)) = (inB (k : Int) 0 3 && scanP k (r.flat ++ R)) := by rw [scanP, h4, he, Bool.true_and]
    rw [Tr.flat, List.cons_append, scanP, hd, h1, Bool.true_and, List.append_assoc, scan_tree b (k + 1) _ h3, List.cons_append, hst, scan_tree r k R h6]
    have hb0 := nil_dp (t := b)
    have hr0 := nil_dp (t := r)
    have hdp : (Tr.loop h b e r).dp = max (b.dp + 1) r.dp := rfl
    have hni : (Tr.loop h b e r).isNil = false := rfl
    rw [Bool.eq_iff_iff, Bool.and_eq_true, Bool.and_eq_true, Bool.and_eq_true, Bool.and_eq_true, Bool.and_eq_true, fitB_iff, fitB_iff, fitB_iff, inB_iff, inB_iff, hdp, hni]
    constructor
    · rintro ⟨h7, h8, h9, h10, h11⟩
      refine ⟨.inl ?_, h11⟩
      have h12 : b.dp + 1 + k ≤ 3 := by
        rcases h8 with h8 | h8
        · omega
        · have := hb0 h8; omega
      have h13 : r.dp + k ≤ 3 := by
        rcases h10 with h10 | h10
        · omega
        · have := hr0 h10; omega
      omega
    · rintro ⟨h7 | h7, h11⟩
      · exact ⟨by omega, .inl (by omega), by omega, .inl (by omega), h11⟩
      · cases h7
/-- What stands behind an open loop. -/
def Rest : Nat → List St → Prop
  | 0, L => ∃ t : Tr, t.ok = true ∧ L = t.flat
  | k + 1, L => ∃ (t : Tr) (e : St) (L' : List St), t.ok = true ∧ stmtB e = true ∧ e.o = 13 ∧ L = t.flat ++ e :: L' ∧ Rest k L'
theorem scan_rest : ∀ (L : List St) (k : Nat), scanP k L = true → Rest k L
  | [], k, h => by
    simp only [scanP, beq_iff_eq] at h
    obtain rfl : k = 0 := by omega
    exact ⟨.nil, rfl, rfl⟩
  | s :: r, k, h => by
    simp only [scanP, Bool.and_eq_true, inB_iff] at h
    obtain ⟨h1, h2, h3⟩ := h
    by_cases ho : s.o = 12
    · have hd : dep s k = ((k + 1 : Nat) : Int) := by unfold dep; rw [if_pos ho]; omega
      rw [hd] at h3
      obtain ⟨t, e, L', ht, hse, he, rfl, hr⟩ := scan_rest r (k + 1) h3
      cases k with
      | zero =>
        obtain ⟨t', ht', rfl⟩ := hr
        exact ⟨.loop s t e t', by simp [Tr.ok, h1, ho, ht, hse, he, ht'], rfl⟩
      | succ k =>
        obtain ⟨t', e', L'', ht', hse', he', rfl, hr'⟩ := hr
        exact ⟨.loop s t e t', e', L'', by simp [Tr.ok, h1, ho, ht, hse, he, ht'], hse', he', by simp [Tr.flat], hr'⟩
    · by_cases ho2 : s.o = 13
      · have hd : dep s k = (k : Int) - 1 := by unfold dep; rw [if_neg ho, if_pos ho2]
        rw [hd] at h2 h3
        cases k with
        | zero => exact absurd h2.1 (by omega)
        | succ k =>
          rw [show ((k + 1 : Nat) : Int) - 1 = (k : Int) by omega] at h3
          exact ⟨.nil, s, r, rfl, h1, ho2, rfl, scan_rest r k h3⟩
      · have hd : dep s k = (k : Int) := by unfold dep; rw [if_neg ho, if_neg ho2]
        rw [hd] at h3
        have ih := scan_rest r k h3
        cases k with
        | zero =>
          obtain ⟨t, ht, rfl⟩ := ih
          exact ⟨.one s t, by simp [Tr.ok, h1, ho, ho2, ht], rfl⟩
        | succ k =>
          obtain ⟨t, e, L', ht, hse, he, rfl, hr⟩ := ih
          exact ⟨.one s t, e, L', by simp [Tr.ok, h1, ho, ho2, ht], hse, he, rfl, hr⟩
theorem prog_tree {L : List St} (h : progB L = true) : ∃ t : Tr, L = t.flat ∧ t.ok = true ∧ t.dp ≤ 3 ∧ t.flat.length ≤ 40 := by
  unfold progB at h
  rw [Bool.and_eq_true, decide_eq_true_eq] at h
  obtain ⟨t, ht, rfl⟩ := scan_rest L 0 h.2
  have h2 := scan_tree t 0 [] ht
  rw [List.append_nil] at h2
  have h3 := h2.symm.trans h.2
  rw [Bool.and_eq_true, fitB_iff] at h3
  refine ⟨t, rfl, ht, ?_, h.1⟩
  rcases h3.1 with h4 | h4
  · omega
  · have := nil_dp h4
    omega
theorem tree_prog {t : Tr} (h : t.ok = true) (hd : t.dp ≤ 3) (hl : t.flat.length ≤ 40) : progB t.flat = true := by
  unfold progB
  rw [Bool.and_eq_true, decide_eq_true_eq]
  refine ⟨hl, ?_⟩
  have h2 := scan_tree t 0 [] h
  rw [List.append_nil] at h2
  have h3 : fitB 0 t = true := by unfold fitB; rw [decide_eq_true (by omega)]; rfl
  show scanP ((0 : Nat) : Int) t.flat = true
  rw [h2, h3]
  rfl
open Classical in
noncomputable def trOf (L : List St) : Tr := if h : progB L = true then Classical.choose (prog_tree h) else .nil
theorem trOf_ok {L : List St} (h : progB L = true) : L = (trOf L).flat ∧ (trOf L).ok = true ∧ (trOf L).dp ≤ 3 ∧ (trOf L).flat.length ≤ 40 := by
  unfold trOf
  rw [dif_pos h]
  exact Classical.choose_spec (prog_tree h)
noncomputable def uszI (L : List St) : Int := if progB L = true then ((trOf L).us : Int) else -1
noncomputable def unrB (L : List St) : Bool := progB L && decide ((trOf L).us ≤ 120)
noncomputable def unrL (L : List St) : List St := if unrB L = true then (trOf L).unr else []
/-- The statements of an unrolled program are valid, and no part of a loop. -/
theorem unr_in : ∀ (t : Tr), t.ok = true → ∀ s ∈ t.unr, stmtB s = true ∧ s.o ≠ 12 ∧ s.o ≠ 13
  | .nil, _, s, hs => by simp [Tr.unr] at hs
  | .one x r, h, s, hs => by
    simp only [Tr.ok, Bool.and_eq_true, Bool.not_eq_true', beq_eq_false_iff_ne] at h
    rw [Tr.unr, List.mem_cons] at hs
    rcases hs with rfl | hs
    · exact ⟨h.1, h.2.1, h.2.2.1⟩
    · exact unr_in r h.2.2.2 s hs
  | .loop x b e r, h, s, hs => by
    simp only [Tr.ok, Bool.and_eq_true, beq_iff_eq] at h
    rw [Tr.unr, List.mem_append] at hs
    rcases hs with hs | hs
    · have hrep : ∀ n, s ∈ repL b.unr n → s ∈ b.unr := fun n => by
        induction n with
        | zero => intro h0; simp [repL] at h0
        | succ n ih =>
          intro h0
          rw [repL, List.mem_append] at h0
          exact h0.elim ih id
      exact unr_in b h.2.2.1 s (hrep _ hs)
    · exact unr_in r h.2.2.2.2.2 s hs
/-! the end of a loop -/
def mt : Int → List St → Nat
  | _, [] => 0
  | k, s :: r => if s.o = 12 then 1 + mt (k + 1) r else if s.o = 13 then (if k - 1 = 0 then 0 else 1 + mt (k - 1) r) else 1 + mt k r
theorem mt_tree : ∀ (t : Tr) (k : Int) (R : List St), t.ok = true → 1 ≤ k → mt k (t.flat ++ R) = t.flat.length + mt k R
  | .nil, k, R, _, _ => by simp [Tr.flat]
  | .one s r, k, R, h, hk => by
    simp only [Tr.ok, Bool.and_eq_true, Bool.not_eq_true', beq_eq_false_iff_ne] at h
    rw [Tr.flat, List.cons_append, mt, if_neg h.2.1, if_neg h.2.2.1, mt_tree r k R h.2.2.2 hk, List.length_cons]
    omega
  | .loop x b e r, k, R, h, hk => by
    simp only [Tr.ok, Bool.and_eq_true, beq_iff_eq] at h
    rw [Tr.flat, List.cons_append, List.append_assoc, mt, if_pos h.2.1, mt_tree b (k + 1) _ h.2.2.1 (by omega), List.cons_append, mt, if_neg (by omega), if_pos h.2.2.2.2.1, if_neg (by omega),
      show k + 1 - 1 = k by omega, mt_tree r k R h.2.2.2.2.2 hk, List.length_cons, List.length_append, List.length_cons]
    omega
theorem mt_loop {x e : St} {b r : Tr} {R : List St} (h : (Tr.loop x b e r).ok = true) : mt 0 ((Tr.loop x b e r).flat ++ R) = 1 + b.flat.length := by
  simp only [Tr.ok, Bool.and_eq_true, beq_iff_eq] at h
  rw [Tr.flat, List.cons_append, List.append_assoc, mt, if_pos h.2.1, show (0 : Int) + 1 = 1 by omega, mt_tree b 1 _ h.2.2.1 (by omega), List.cons_append, mt, if_neg (by omega), if_pos h.2.2.2.2.1, if_pos (by omega)]
  omega
end Go.Proofs.Ytihbaieiempjeaa
