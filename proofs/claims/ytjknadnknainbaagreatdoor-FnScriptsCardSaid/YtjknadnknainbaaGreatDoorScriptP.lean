import Derived.Test.YtjknadnknainbaaGreatDoorPActL
import Derived.Test.YtjknadnknainbaaGreatDoorPAct
import Derived.Test.YtjknadnknainbaaGreatDoorRunActsM
import Derived.Test.YtjknadnknainbaaGreatDoorSchedTxt
/- Lines of a text, and the acts that a script's lines tell. No program is named here. -/
namespace Go.Proofs.YtjknadnknainbaaGreatDoor

/-- A text cut at its ends of lines. -/
def lns : List UInt8 → List (List UInt8)
  | [] => [[]]
  | b :: r => if b = 10 then [] :: lns r else match lns r with
    | h :: t => (b :: h) :: t
    | [] => [[b]]
theorem lns_ne : ∀ l, lns l ≠ []
  | [] => by simp [lns]
  | b :: r => by
    unfold lns
    split
    · simp
    · split <;> simp
theorem lns_nl (r : List UInt8) : lns (10 :: r) = [] :: lns r := by simp [lns]
theorem lns_other {b : UInt8} {r h : List UInt8} {t : List (List UInt8)} (hb : b ≠ 10) (e : lns r = h :: t) : lns (b :: r) = (b :: h) :: t := by
  rw [lns, if_neg hb, e]
theorem splitK_lns : ∀ l : List UInt8, Lib.splitK [10] 0 (Lib.count l [10]) l = lns l
  | [] => by rw [Lib.count_one]; rfl
  | b :: r => by
    have ih := splitK_lns r
    by_cases hb : b = 10
    · subst hb
      have hix : Lib.index (10 :: r) [10] = 0 := by rw [Lib.index_one, Lib.indexByte]; simp
      rw [Lib.count_cons_eq, Nat.add_comm, Lib.splitK, hix, lns_nl, ← ih]
      simp
    · have hix : Lib.index (b :: r) [10] = if Lib.index r [10] == -1 then -1 else Lib.index r [10] + 1 := by
        rw [Lib.index_one, Lib.index_one, Lib.indexByte, if_neg (by simpa using hb)]
      rw [Lib.count_cons_ne b 10 r hb]
      cases hc : Lib.count r [10] with
      | zero =>
        rw [hc] at ih
        have e : lns r = r :: [] := ih.symm
        rw [lns_other hb e]
        rfl
      | succ k =>
        rw [hc] at ih
        have hne : Lib.index r [10] ≠ -1 := fun e => by rw [Lib.count_miss e] at hc; omega
        have hge := Lib.index_ge r [10]
        obtain ⟨j, hj⟩ : ∃ j : Nat, Lib.index r [10] = j := ⟨(Lib.index r [10]).toNat, by omega⟩
        have hm : (Lib.index r [10] == -1) = false := by simpa using hne
        rw [Lib.splitK, hm] at ih
        rw [Lib.splitK, hix, hm, hj]
        rw [hj] at ih
        simp only [Bool.false_eq_true, if_false, List.length_singleton, Int.toNat_natCast] at ih ⊢
        have h2 : (((j : Int) + 1 == -1) = false) := by simp; omega
        rw [h2, if_neg (by simp)]
        rw [lns_other hb ih.symm]
        have e1 : ((j : Int) + 1).toNat = j + 1 := by omega
        rw [e1]
        simp [List.take_succ_cons]
/-- The lines, with the one that is being read. -/
def lscan (cur : List UInt8) : List UInt8 → List (List UInt8)
  | [] => [cur]
  | b :: r => if b = 10 then cur :: lscan [] r else lscan (cur ++ [b]) r
theorem lscan_lns : ∀ (l cur h : List UInt8) (t : List (List UInt8)), lns l = h :: t → lscan cur l = (cur ++ h) :: t
  | [], cur, h, t, e => by
    simp [lns] at e
    obtain ⟨rfl, rfl⟩ := e
    simp [lscan]
  | b :: r, cur, h, t, e => by
    by_cases hb : b = 10
    · subst hb
      rw [lns_nl] at e
      injection e with e1 e2
      subst e1
      rw [lscan, if_pos rfl, List.append_nil]
      cases hr : lns r with
      | nil => exact absurd hr (lns_ne r)
      | cons h2 t2 =>
        rw [lscan_lns r [] h2 t2 hr, List.nil_append, ← e2, hr]
    · cases hr : lns r with
      | nil => exact absurd hr (lns_ne r)
      | cons h2 t2 =>
        rw [lns_other hb hr] at e
        injection e with e1 e2
        subst e1 e2
        rw [lscan, if_neg hb, lscan_lns r (cur ++ [b]) h2 t2 hr]
        simp
theorem lns_lscan (l : List UInt8) : lscan [] l = lns l := by
  cases h : lns l with
  | nil => exact absurd h (lns_ne l)
  | cons a t => rw [lscan_lns l [] a t h, List.nil_append]
theorem len_lns : ∀ l : List UInt8, ∀ y ∈ lns l, y.length ≤ l.length
  | [], y, hy => by simp [lns] at hy; subst hy; simp
  | b :: r, y, hy => by
    have ih := len_lns r
    by_cases hb : b = 10
    · subst hb
      rw [lns_nl, List.mem_cons] at hy
      rcases hy with rfl | hy
      · simp
      · have := ih y hy
        simp
        omega
    · cases hr : lns r with
      | nil => exact absurd hr (lns_ne r)
      | cons h2 t2 =>
        rw [lns_other hb hr, List.mem_cons] at hy
        rw [hr] at ih
        rcases hy with rfl | hy
        · have := ih h2 (by simp)
          simp
          omega
        · have := ih y (by simp [hy])
          simp
          omega
theorem lns_len : ∀ l : List UInt8, (lns l).length ≤ l.length + 1
  | [] => by simp [lns]
  | b :: r => by
    have ih := lns_len r
    by_cases hb : b = 10
    · subst hb
      rw [lns_nl]
      simp
      omega
    · cases hr : lns r with
      | nil => exact absurd hr (lns_ne r)
      | cons h2 t2 =>
        rw [lns_other hb hr]
        rw [hr] at ih
        simp at ih ⊢
        omega
/-- A line that tells nothing. -/
def skipB (l : List UInt8) : Bool := sfB l && decide (flds l = [])
/-- The act of a line, as its four numbers. -/
def actI (l : List UInt8) : List Int := match flds l with
  | [] => [0, 0, 0, 0]
  | x :: ws => [kdOf x, aI x ws, aD x ws, aN x ws]
theorem actI_is {l : List UInt8} (h : pActB l = true) : ∃ k i d n : Int, actOkB k i d n = true ∧ actI l = [k, i, d, n] ∧ pActV l = .agg #[.int .i64 k, .int .i64 i, .int .i64 d, .int .i64 n] := by
  unfold pActB at h
  rw [Bool.and_eq_true] at h
  obtain ⟨h1, h2⟩ := h
  rw [(pAct_ok h1).2]
  unfold actI
  cases hf : flds l with
  | nil => rw [hf] at h2; cases h2
  | cons x ws =>
    rw [hf] at h2
    exact ⟨_, _, _, _, (paB_cons h2).2.2.1, rfl, pa_yes h2⟩
theorem skip_no {l : List UInt8} (h : skipB l = true) : pActB l = false := by
  unfold skipB at h
  simp only [Bool.and_eq_true, decide_eq_true_eq] at h
  unfold pActB
  rw [h.1, h.2]
  rfl
/-- Whether every line tells an act or nothing; the acts. -/
def scrB (L : List (List UInt8)) : Bool := L.all (fun l => skipB l || pActB l)
def scrX (L : List (List UInt8)) : List Int := L.flatMap (fun l => if skipB l then [] else actI l)
def scrN (L : List (List UInt8)) : Nat := (L.filter (fun l => !skipB l)).length
theorem scrB_snoc {L : List (List UInt8)} {k : Nat} {l : List UInt8} (h : L[k]? = some l) (ha : scrB (L.take k) = true) (hl : (skipB l || pActB l) = true) : scrB (L.take (k + 1)) = true := by
  unfold scrB at ha ⊢
  rw [List.take_add_one, h, List.all_append, ha]
  simp only [Option.toList_some, List.all_cons, List.all_nil, hl, Bool.and_self]
theorem scrB_no {L : List (List UInt8)} {k : Nat} {l : List UInt8} (h : L[k]? = some l) (hl : (skipB l || pActB l) = false) : scrB L = false := by
  unfold scrB
  rw [List.all_eq_false]
  exact ⟨l, List.mem_of_getElem? h, by simp [hl]⟩
theorem scrX_skip {L : List (List UInt8)} {k : Nat} {l : List UInt8} (h : L[k]? = some l) (hl : skipB l = true) : scrX (L.take (k + 1)) = scrX (L.take k) ∧ scrN (L.take (k + 1)) = scrN (L.take k) := by
  unfold scrX scrN
  rw [List.take_add_one, h, List.flatMap_append, List.filter_append]
  simp [hl]
theorem scrX_act {L : List (List UInt8)} {k : Nat} {l : List UInt8} (h : L[k]? = some l) (hl : skipB l = false) : scrX (L.take (k + 1)) = scrX (L.take k) ++ actI l ∧ scrN (L.take (k + 1)) = scrN (L.take k) + 1 := by
  unfold scrX scrN
  rw [List.take_add_one, h, List.flatMap_append, List.filter_append]
  simp [hl]
theorem scrN_le : ∀ (L : List (List UInt8)) (k : Nat), scrN (L.take k) ≤ k := fun L k => by
  unfold scrN
  refine Nat.le_trans (List.length_filter_le _ _) ?_
  rw [List.length_take]
  omega
theorem scrX_len : ∀ (L : List (List UInt8)), scrB L = true → (scrX L).length = scrN L * 4
  | [], _ => rfl
  | l :: r, h => by
    unfold scrB at h
    rw [List.all_cons, Bool.and_eq_true] at h
    have ih := scrX_len r h.2
    unfold scrX scrN at ih ⊢
    rw [List.flatMap_cons, List.length_append, ih]
    cases hs : skipB l
    · have hp : pActB l = true := by
        have h1 := h.1
        rw [hs, Bool.false_or] at h1
        exact h1
      obtain ⟨k, i, d, n, _, e, _⟩ := actI_is hp
      simp [hs, e]
      omega
    · simp [hs]
/-- Every act of a script is valid. -/
theorem scrX_ok : ∀ (L : List (List UInt8)), scrB L = true → ∀ j, j < scrN L → actOkB ((scrX L).getD (j * 4) 0) ((scrX L).getD (j * 4 + 1) 0) ((scrX L).getD (j * 4 + 2) 0) ((scrX L).getD (j * 4 + 3) 0) = true
  | [], _, j, hj => absurd hj (Nat.not_lt_zero j)
  | l :: r, h, j, hj => by
    unfold scrB at h
    rw [List.all_cons, Bool.and_eq_true] at h
    have ih := scrX_ok r h.2
    cases hs : skipB l
    · have hp : pActB l = true := by
        have h1 := h.1
        rw [hs, Bool.false_or] at h1
        exact h1
      obtain ⟨k, i, d, n, ho, e, _⟩ := actI_is hp
      have e1 : scrX (l :: r) = k :: i :: d :: n :: scrX r := by
        unfold scrX
        rw [List.flatMap_cons, hs, e]
        rfl
      have e2 : scrN (l :: r) = scrN r + 1 := by
        unfold scrN
        rw [List.filter_cons, hs]
        rfl
      rw [e1]
      rw [e2] at hj
      cases j with
      | zero => exact ho
      | succ j =>
        have e3 : (j + 1) * 4 = j * 4 + 4 := by omega
        rw [e3]
        simp only [List.getD_eq_getElem?_getD, List.getElem?_cons_succ, show j * 4 + 4 + 1 = j * 4 + 1 + 4 by omega, show j * 4 + 4 + 2 = j * 4 + 2 + 4 by omega, show j * 4 + 4 + 3 = j * 4 + 3 + 4 by omega]
        have h4 := ih j (by omega)
        simp only [List.getD_eq_getElem?_getD] at h4
        exact h4
    · have e1 : scrX (l :: r) = scrX r := by
        unfold scrX
        rw [List.flatMap_cons, hs]
        rfl
      have e2 : scrN (l :: r) = scrN r := by
        unfold scrN
        rw [List.filter_cons, hs]
        rfl
      rw [e1]
      rw [e2] at hj
      exact ih j hj
end Go.Proofs.YtjknadnknainbaaGreatDoor
/- What a script answers. No program is named here. -/
namespace Go.Proofs.YtjknadnknainbaaGreatDoor
open Go.RowKit

/-- The failed jobs' numbers are numbers of jobs. -/
def okF (S : SV) : Prop := ∀ x ∈ S.fs, 1 ≤ x ∧ x ≤ 1000
theorem okF_step {S : SV} (h : okF S) (hb : stepB S = true) : okF (stepS S) := fun x hx => by
  unfold stepB at hb
  simp only [Bool.and_eq_true, decide_eq_true_eq] at hb
  have hs := schedOkB_iff.1 hb.1.1
  have hbt : best S < S.js.length := bestTo_lt hb.1.2 _ (Nat.le_refl _)
  have hj : job S ∈ S.js := by
    unfold job
    rw [List.getD_eq_getElem?_getD, List.getElem?_eq_getElem hbt]
    exact List.getElem_mem hbt
  have hr := (jb_range (hs.2.2.2.1.1 _ hj)).1
  unfold stepS at hx
  split at hx
  · unfold stepF at hx
    rcases List.mem_append.1 hx with h1 | h1
    · exact h x h1
    · simp at h1
      subst h1
      exact hr
  · exact h x hx
theorem okF_run : ∀ (m : Nat) {S : SV}, okF S → okF (runS m S)
  | 0, _, h => h
  | m + 1, S, h => by
    rw [runS]
    split
    · rename_i hb
      exact okF_run m (okF_step h hb)
    · exact h
theorem okF_do {S : SV} (h : okF S) (k i d n : Int) : okF (doS S k i d n) := by
  unfold doS
  split
  · split
    · unfold addR
      split
      · exact h
      · exact h
    · split
      · exact okF_run _ h
      · split
        · exact h
        · unfold crashS
          split
          · exact h
          · exact h
  · exact h
theorem okF_to (z : Int) (xs : List Int) : ∀ n, okF (stTo z xs n)
  | 0 => fun x hx => by
    have : x ∈ ([] : List Int) := hx
    simp at this
  | n + 1 => okF_do (okF_to z xs n) _ _ _ _
theorem doI_in (S : SV) (k i d n : Int) : -1 ≤ doI S k i d n ∧ doI S k i d n ≤ 400 := by
  unfold doI
  split
  · split
    · cases addB S i d n <;> simp [pick]
    · split
      · have h1 := runN_le (runM n) S
        have h2 : runM n ≤ 400 := by
          unfold runM
          split
          · rename_i h
            have := inB_iff.1 h
            omega
          · omega
        omega
      · split
        · cases resB S.z S.n S.b n <;> simp [pick]
        · omega
  · omega
theorem codes_in (z : Int) (xs : List Int) : ∀ n, ∀ x ∈ codesTo z xs n, -1 ≤ x ∧ x ≤ 400
  | 0, x, hx => by
    have : x ∈ ([] : List Int) := hx
    simp at this
  | n + 1, x, hx => by
    rw [codesTo, List.mem_append] at hx
    rcases hx with h | h
    · exact codes_in z xs n x h
    · simp at h
      subst h
      exact doI_in _ _ _ _ _
theorem okS_do {S : SV} (h : okS S) (k i d n : Int) : okS (doS S k i d n) := by
  unfold doS
  split
  · split
    · unfold addR
      cases hb : addB S i d n
      · exact h
      · have hb2 := hb
        unfold addB at hb2
        simp only [Bool.and_eq_true] at hb2
        have hj := (schedOkB_iff.1 hb2.2).2.2.2.1.1 ⟨i, d, n, 0⟩ (by simp [addS])
        exact okS_add h hb (jb_range hj).2.1.2
    · split
      · exact okS_run _ h
      · split
        · cases hr : resB S.z S.n S.b n
          · exact h
          · exact okS_reserve h hr
        · exact okS_crash h
  · exact h
theorem okS_to {z : Int} (h : inB z 1 1000 = true) (xs : List Int) : ∀ n, okS (stTo z xs n)
  | 0 => okS_new (inB_iff.1 h).1 (inB_iff.1 h).2
  | n + 1 => okS_do (okS_to h xs n) _ _ _ _
theorem pActV_agg (l : List UInt8) : ∃ k i d n : Int, pActV l = .agg #[.int .i64 k, .int .i64 i, .int .i64 d, .int .i64 n] := by
  unfold pActV
  split
  · cases flds l with
    | nil => exact ⟨0, 0, 0, 0, rfl⟩
    | cons x ws =>
      simp only [paV]
      split
      · exact ⟨_, _, _, _, rfl⟩
      · exact ⟨0, 0, 0, 0, rfl⟩
  · exact ⟨0, 0, 0, 0, rfl⟩
theorem codes64 (z : Int) (xs : List Int) (n : Nat) : ∀ x ∈ codesTo z xs n, in64 x := fun x hx => by
  have := codes_in z xs n x hx
  exact ⟨by omega, by omega⟩
theorem fs64 (z : Int) (xs : List Int) (n : Nat) : ∀ x ∈ (stTo z xs n).fs, in64 x := fun x hx => by
  have := okF_to z xs n x hx
  exact ⟨by omega, by omega⟩
/-- Whether a script is run; what it answers. -/
def scOk (z : Int) (t : List UInt8) : Bool := decide (t.length ≤ 20000) && scrB (lns t) && inB z 1 1000 && decide (scrN (lns t) ≤ 60)
noncomputable def scTxt (z : Int) (xs : List Int) (n : Nat) : List (List UInt8) := (codesTo z xs n).map Lib.itoa ++ schedTxt (stTo z xs n)
noncomputable def scRes (z : Int) (t : List UInt8) : List (List UInt8) := if scOk z t then scTxt z (scrX (lns t)) (scrN (lns t)) else []
theorem sc_no {z : Int} {t : List UInt8} (h : scOk z t = false) : scOk z t = false ∧ scRes z t = [] := ⟨h, by unfold scRes; rw [h]; rfl⟩
theorem sc_long {z : Int} {t : List UInt8} (h : 20000 < t.length) : scOk z t = false := by unfold scOk; rw [decide_eq_false (by omega)]; rfl
theorem sc_bad {z : Int} {t : List UInt8} (h : scrB (lns t) = false) : scOk z t = false := by unfold scOk; rw [h]; simp
theorem sc_size {z : Int} {t : List UInt8} (h : inB z 1 1000 = false) : scOk z t = false := by unfold scOk; rw [h]; simp
theorem sc_many {z : Int} {t : List UInt8} (h : 60 < scrN (lns t)) : scOk z t = false := by unfold scOk; rw [decide_eq_false (p := scrN (lns t) ≤ 60) (by omega)]; simp
theorem sc_yes {z : Int} {t : List UInt8} (h1 : t.length ≤ 20000) (h2 : scrB (lns t) = true) (h3 : inB z 1 1000 = true) (h4 : scrN (lns t) ≤ 60) : scOk z t = true := by
  unfold scOk
  rw [h2, h3, decide_eq_true h1, decide_eq_true h4]
  rfl
/-- What a call of RunScript leaves. -/
def GivesSc (w : World) (z : Int) (t : List UInt8) (e : Ending) (w' : World) : Prop := ∃ A c, e = .returned (.tuple #[.slice A (scRes z t).length c, .bool (scOk z t)]) ∧ w'.ownsRow w.heap.size 9 1 (.slice A (scRes z t).length c) (scRes z t).length (strs (scRes z t)) ∧ Below w.heap.size w w'
theorem gives_no {w w' : World} {z : Int} {t : List UInt8} (h : scOk z t = false) (hb : Below w.heap.size w w') : GivesSc w z t (.returned (.tuple #[.slice none 0 0, .bool false])) w' := by
  obtain ⟨h1, h2⟩ := sc_no h
  refine ⟨none, 0, ?_, ?_, hb⟩
  · rw [h1, h2]
    rfl
  · rw [h2]
    exact World.ownsRow_nil _ _ _ _
/-- What SplitFields says of a line that tells nothing, and of any other. -/
theorem skip_yes {l : List UInt8} (h : skipB l = true) : sfB l = true ∧ flds l = [] := by
  unfold skipB at h
  simpa using h
theorem skip_not {l : List UInt8} (h : skipB l = false) (hs : sfB l = true) : 0 < (flds l).length := by
  unfold skipB at h
  rw [hs] at h
  simp at h
  cases hf : flds l with
  | nil => exact absurd hf h
  | cons a t => simp
end Go.Proofs.YtjknadnknainbaaGreatDoor
