import Derived.Test.YtjknadnknainbaaGreatDoorBase
import Derived.Test.YtjknadnknainbaaGreatDoorPlain
import Derived.Lib.SplitLaws
import Derived.Lib.Split
import Derived.Lib.Join
import Derived.Lib.ItoaLen
import Derived.Lib.AtoiAll
/- Words of a line: what lies between its spaces. No program is named here. -/
namespace Go.Proofs.YtjknadnknainbaaGreatDoor

/-- A line cut at its spaces. -/
def spl : List UInt8 → List (List UInt8)
  | [] => [[]]
  | b :: r => if b = 32 then [] :: spl r else match spl r with
    | h :: t => (b :: h) :: t
    | [] => [[b]]
theorem spl_ne : ∀ l, spl l ≠ []
  | [] => by simp [spl]
  | b :: r => by
    unfold spl
    split
    · simp
    · split <;> simp
theorem spl_space (r : List UInt8) : spl (32 :: r) = [] :: spl r := by simp [spl]
theorem spl_other {b : UInt8} {r h : List UInt8} {t : List (List UInt8)} (hb : b ≠ 32) (e : spl r = h :: t) : spl (b :: r) = (b :: h) :: t := by
  rw [spl, if_neg hb, e]
theorem splitK_spl : ∀ l : List UInt8, Lib.splitK [32] 0 (Lib.count l [32]) l = spl l
  | [] => by rw [Lib.count_one]; rfl
  | b :: r => by
    have ih := splitK_spl r
    by_cases hb : b = 32
    · subst hb
      have hix : Lib.index (32 :: r) [32] = 0 := by rw [Lib.index_one, Lib.indexByte]; simp
      rw [Lib.count_cons_eq, Nat.add_comm, Lib.splitK, hix, spl_space, ← ih]
      simp
    · have hix : Lib.index (b :: r) [32] = if Lib.index r [32] == -1 then -1 else Lib.index r [32] + 1 := by
        rw [Lib.index_one, Lib.index_one, Lib.indexByte, if_neg (by simpa using hb)]
      rw [Lib.count_cons_ne b 32 r hb]
      cases hc : Lib.count r [32] with
      | zero =>
        rw [hc] at ih
        have e : spl r = r :: [] := ih.symm
        rw [spl_other hb e]
        rfl
      | succ k =>
        rw [hc] at ih
        have hne : Lib.index r [32] ≠ -1 := fun e => by rw [Lib.count_miss e] at hc; omega
        have hge := Lib.index_ge r [32]
        obtain ⟨j, hj⟩ : ∃ j : Nat, Lib.index r [32] = j := ⟨(Lib.index r [32]).toNat, by omega⟩
        have hm : (Lib.index r [32] == -1) = false := by simpa using hne
        rw [Lib.splitK, hm] at ih
        rw [Lib.splitK, hix, hm, hj]
        rw [hj] at ih
        simp only [Bool.false_eq_true, if_false, List.length_singleton, Int.toNat_natCast] at ih ⊢
        have h2 : (((j : Int) + 1 == -1) = false) := by simp; omega
        rw [h2, if_neg (by simp)]
        rw [spl_other hb ih.symm]
        have e1 : ((j : Int) + 1).toNat = j + 1 := by omega
        rw [e1]
        simp [List.take_succ_cons]
/-- The words: the pieces that are not empty. -/
def flds (l : List UInt8) : List (List UInt8) := (spl l).filter (fun w => decide (w ≠ []))
/-- The words, with the one that is being read. -/
def scan (cur : List UInt8) : List UInt8 → List (List UInt8)
  | [] => if cur = [] then [] else [cur]
  | b :: r => if b = 32 then (if cur = [] then scan [] r else cur :: scan [] r) else scan (cur ++ [b]) r
theorem scan_spl : ∀ (l cur h : List UInt8) (t : List (List UInt8)), spl l = h :: t → scan cur l = ((cur ++ h) :: t).filter (fun w => decide (w ≠ []))
  | [], cur, h, t, e => by
    simp only [spl, List.cons.injEq] at e
    obtain ⟨rfl, rfl⟩ := e
    rw [scan, List.append_nil]
    split
    · rename_i hc; subst hc; rfl
    · rename_i hc
      rw [List.filter_cons, if_pos (by simpa using hc)]
      rfl
  | b :: r, cur, h, t, e => by
    by_cases hb : b = 32
    · subst hb
      rw [spl_space, List.cons.injEq] at e
      obtain ⟨rfl, rfl⟩ := e
      obtain ⟨h2, t2, e2⟩ : ∃ h2 t2, spl r = h2 :: t2 := by
        cases hs : spl r with
        | nil => exact absurd hs (spl_ne r)
        | cons a b => exact ⟨a, b, rfl⟩
      have ih := scan_spl r [] h2 t2 e2
      rw [List.nil_append] at ih
      rw [scan, if_pos rfl, ih, e2, List.append_nil]
      by_cases hc : cur = []
      · subst hc
        rw [if_pos rfl, List.filter_cons (x := []), if_neg (by simp)]
      · rw [if_neg hc, List.filter_cons (x := cur), if_pos (by simpa using hc)]
    · obtain ⟨h2, t2, e2⟩ : ∃ h2 t2, spl r = h2 :: t2 := by
        cases hs : spl r with
        | nil => exact absurd hs (spl_ne r)
        | cons a b => exact ⟨a, b, rfl⟩
      rw [spl_other hb e2, List.cons.injEq] at e
      obtain ⟨rfl, rfl⟩ := e
      rw [scan, if_neg hb, scan_spl r (cur ++ [b]) h2 t2 e2]
      simp
theorem flds_scan (l : List UInt8) : scan [] l = flds l := by
  cases hs : spl l with
  | nil => exact absurd hs (spl_ne l)
  | cons h t => rw [scan_spl l [] h t hs, List.nil_append, ← hs]; rfl
/-- A word: not empty, and no space in it. -/
def wordB (w : List UInt8) : Prop := w ≠ [] ∧ ∀ b ∈ w, b ≠ 32
theorem scan_word : ∀ (w cur r : List UInt8), (∀ b ∈ w, b ≠ 32) → scan cur (w ++ r) = scan (cur ++ w) r
  | [], cur, r, _ => by simp
  | b :: w, cur, r, h => by
    rw [List.cons_append, scan, if_neg (h b (by simp)), scan_word w (cur ++ [b]) r (fun x hx => h x (by simp [hx]))]
    simp
theorem joinTail_cons (x : List UInt8) (r : List (List UInt8)) : Lib.joinTail [32] (x :: r) = 32 :: (x ++ Lib.joinTail [32] r) := by simp [Lib.joinTail]
theorem scan_tail : ∀ (ws : List (List UInt8)) (cur : List UInt8), cur ≠ [] → (∀ w ∈ ws, wordB w) → scan cur (Lib.joinTail [32] ws) = cur :: ws
  | [], cur, hc, _ => by
    show scan cur [] = _
    rw [scan, if_neg hc]
  | w :: ws, cur, hc, h => by
    have hw := h w (by simp)
    rw [joinTail_cons, scan, if_pos rfl, if_neg hc, scan_word w [] _ hw.2, List.nil_append, scan_tail ws w hw.1 (fun x hx => h x (by simp [hx]))]
theorem flds_join (w : List UInt8) (ws : List (List UInt8)) (hw : wordB w) (h : ∀ x ∈ ws, wordB x) : flds (Lib.join (w :: ws) [32]) = w :: ws := by
  rw [← flds_scan, Lib.join_cons, scan_word w [] _ hw.2, List.nil_append, scan_tail ws w hw.1 h]
theorem spl_words : ∀ l, ∀ w ∈ spl l, ∀ b ∈ w, b ≠ 32
  | [], w, hw => by simp [spl] at hw; subst hw; simp
  | b :: r, w, hw => by
    have ih := spl_words r
    by_cases hb : b = 32
    · subst hb
      rw [spl_space, List.mem_cons] at hw
      rcases hw with rfl | hw
      · simp
      · exact ih w hw
    · obtain ⟨h2, t2, e2⟩ : ∃ h2 t2, spl r = h2 :: t2 := by
        cases hs : spl r with
        | nil => exact absurd hs (spl_ne r)
        | cons a b => exact ⟨a, b, rfl⟩
      rw [spl_other hb e2, List.mem_cons] at hw
      rw [e2] at ih
      rcases hw with rfl | hw
      · intro x hx
        rcases List.mem_cons.1 hx with rfl | hx
        · exact hb
        · exact ih h2 (by simp) x hx
      · exact ih w (by simp [hw])
theorem flds_words (l : List UInt8) : ∀ w ∈ flds l, wordB w := fun w hw => by
  unfold flds at hw
  rw [List.mem_filter] at hw
  exact ⟨by simpa using hw.2, spl_words l w hw.1⟩
theorem join_inj {ws vs : List (List UInt8)} (h1 : ∀ w ∈ ws, wordB w) (h2 : ∀ w ∈ vs, wordB w) (hw : ws ≠ []) (hv : vs ≠ []) (e : Lib.join ws [32] = Lib.join vs [32]) : ws = vs := by
  cases ws with
  | nil => exact absurd rfl hw
  | cons a u =>
    cases vs with
    | nil => exact absurd rfl hv
    | cons b bs =>
      have e1 := flds_join a u (h1 a (by simp)) (fun x hx => h1 x (by simp [hx]))
      have e2 := flds_join b bs (h2 b (by simp)) (fun x hx => h2 x (by simp [hx]))
      rw [← e1, ← e2, e]
end Go.Proofs.YtjknadnknainbaaGreatDoor
/- Decimal numerals read back. No program is named here. -/
namespace Go.Proofs.YtjknadnknainbaaGreatDoor

def dstep (a : Nat) (b : UInt8) : Nat := a * 10 + (b.toNat - 48)
def valF (acc : Nat) (l : List UInt8) : Nat := l.foldl dstep acc
theorem valF_nil (acc : Nat) : valF acc [] = acc := rfl
theorem valF_cons (acc : Nat) (b : UInt8) (r : List UInt8) : valF acc (b :: r) = valF (dstep acc b) r := List.foldl_cons ..
theorem dstep_is (a : Nat) (b : UInt8) : dstep a b = a * 10 + (b.toNat - 48) := by unfold dstep; exact Eq.refl _
def digits (l : List UInt8) : Prop := ∀ b ∈ l, 48 ≤ b.toNat ∧ b.toNat ≤ 57
theorem valF_le : ∀ (l : List UInt8) (acc : Nat), acc ≤ valF acc l
  | [], acc => by rw [valF_nil]; exact Nat.le_refl _
  | b :: r, acc => by
    have h := valF_le r (dstep acc b)
    have h2 := dstep_is acc b
    rw [valF_cons]
    generalize valF (dstep acc b) r = q at h
    omega
theorem valF_app : ∀ (l r : List UInt8) (acc : Nat), valF acc (l ++ r) = valF (valF acc l) r
  | [], r, acc => by rw [List.nil_append, valF_nil]
  | b :: l, r, acc => by rw [List.cons_append, valF_cons, valF_cons, valF_app l r]
theorem pu_ok : ∀ (l : List UInt8) (acc : Nat), digits l → valF acc l < 1844674407370955162 → Lib.parseUint10 acc l = .ok (valF acc l)
  | [], acc, _, _ => by rw [valF_nil, Lib.parseUint10]
  | b :: r, acc, hd, hv => by
    have hb := hd b (by simp)
    have h1 := valF_le r (dstep acc b)
    rw [valF_cons] at hv ⊢
    have h2 : dstep acc b < 1844674407370955162 := Nat.lt_of_le_of_lt h1 hv
    have h3 := dstep_is acc b
    rw [Lib.parseUint10, if_pos hb, if_neg (by omega), if_neg (by omega), ← h3]
    exact pu_ok r _ (fun x hx => hd x (by simp [hx])) hv
theorem dec_digits : ∀ n, digits (Lib.decDigits n) := by
  intro n
  induction n using Nat.strongRecOn with
  | _ n ih =>
    rw [Lib.decDigits]
    split
    · rename_i h
      intro b hb
      simp at hb
      subst hb
      simp
      omega
    · rename_i h
      intro b hb
      rcases List.mem_append.1 hb with h1 | h1
      · exact ih (n / 10) (by omega) b h1
      · simp at h1
        subst h1
        simp
        omega
theorem dec_val : ∀ n, valF 0 (Lib.decDigits n) = n := by
  intro n
  induction n using Nat.strongRecOn with
  | _ n ih =>
    rw [Lib.decDigits]
    split
    · rename_i h
      rw [valF_cons, valF_nil, dstep_is]
      simp
      omega
    · rename_i h
      rw [valF_app, ih (n / 10) (by omega), valF_cons, valF_nil, dstep_is]
      simp
      omega
theorem dec_ne (n : Nat) : Lib.decDigits n ≠ [] := by
  rw [Lib.decDigits]
  split <;> simp
theorem atoi_dec {n : Nat} (h : n ≤ 1000000000) : Lib.atoiAll (Lib.decDigits n) = .ok (n : Int) := by
  have hd := dec_digits n
  have hv := dec_val n
  have hne := dec_ne n
  have hok := pu_ok (Lib.decDigits n) 0 hd (by rw [hv]; omega)
  rw [hv] at hok
  cases hl : Lib.decDigits n with
  | nil => exact absurd hl hne
  | cons c r =>
    rw [hl] at hd hok
    have hc := hd c (by simp)
    unfold Lib.atoiAll
    simp only
    rw [if_neg (by omega)]
    unfold Lib.parseMag
    rw [if_neg (by simp), hok]
    simp only
    rw [if_neg (by omega), if_neg (by omega), if_neg (by omega)]
/-- Whether a text is the numeral of a number up to a billion, as the program writes it; the number. -/
def puB (l : List UInt8) : Bool := decide (valF 0 l ≤ 1000000000 ∧ l = Lib.decDigits (valF 0 l))
def puN (l : List UInt8) : Int := if puB l then (valF 0 l : Nat) else 0
theorem puB_dec {n : Nat} (h : n ≤ 1000000000) : puB (Lib.decDigits n) = true := by
  unfold puB
  rw [dec_val]
  simp [h]
theorem puN_dec {n : Nat} (h : n ≤ 1000000000) : puN (Lib.decDigits n) = n := by
  unfold puN
  rw [puB_dec h, dec_val]
  rfl
theorem puB_atoi {l : List UInt8} (h : puB l = true) : Lib.atoiAll l = .ok (puN l) ∧ 0 ≤ puN l ∧ puN l ≤ 1000000000 ∧ Lib.itoa (puN l) = l := by
  have hN : puN l = (valF 0 l : Nat) := by unfold puN; rw [h]; rfl
  unfold puB at h
  simp only [decide_eq_true_eq] at h
  obtain ⟨h1, h2⟩ := h
  refine ⟨?_, by omega, by omega, ?_⟩
  · rw [hN]
    conv => lhs; rw [h2]
    exact atoi_dec h1
  · rw [hN, Lib.itoa_nonneg, ← h2]
theorem puB_of {l : List UInt8} {v : Int} (h0 : 0 ≤ v) (h1 : v ≤ 1000000000) (h : Lib.itoa v = l) : puB l = true ∧ puN l = v := by
  obtain ⟨n, rfl⟩ : ∃ n : Nat, v = n := ⟨v.toNat, by omega⟩
  rw [Lib.itoa_nonneg] at h
  subst h
  exact ⟨puB_dec (by omega), puN_dec (by omega)⟩
theorem puB_no {l : List UInt8} (h : ∀ v, Lib.atoiAll l = .ok v → ¬ (0 ≤ v ∧ v ≤ 1000000000 ∧ Lib.itoa v = l)) : puB l = false := by
  cases hb : puB l
  · rfl
  · obtain ⟨h1, h2⟩ := puB_atoi hb
    exact absurd h2 (h _ h1)
theorem itoa_inj {a b : Int} (ha : 0 ≤ a ∧ a ≤ 1000000000) (hb : 0 ≤ b ∧ b ≤ 1000000000) (e : Lib.itoa a = Lib.itoa b) : a = b := by
  rw [← (puB_of ha.1 ha.2 rfl).2, ← (puB_of hb.1 hb.2 rfl).2, e]
end Go.Proofs.YtjknadnknainbaaGreatDoor
