/- Schedules of jobs on a pool, plainly. No program is named here. -/
import Derived.Test.YtjknadnknainbaaGreatDoorPlain
import Derived.Test.YtjknadnknainbaaGreatDoorBase
namespace Go.Proofs.YtjknadnknainbaaGreatDoor
open Go.RowKit

structure Jb where
  i : Int
  n : Int
  l : Int
  d : Int
structure Tk where
  f : Int
  c : Int
structure SV where
  z : Int
  n : Int
  b : Int
  js : List Jb
  ts : List Tk
  fs : List Int
def Jb.flat (j : Jb) : List Int := [j.i, j.n, j.l, j.d]
def Tk.flat (t : Tk) : List Int := [t.f, t.c]
def flatJ : List Jb → List Int
  | [] => []
  | j :: js => j.i :: j.n :: j.l :: j.d :: flatJ js
def flatT : List Tk → List Int
  | [] => []
  | t :: ts => t.f :: t.c :: flatT ts
theorem flatJ_length : ∀ js : List Jb, (flatJ js).length = js.length * 4
  | [] => rfl
  | j :: js => by simp [flatJ, flatJ_length js]; omega
theorem flatT_length : ∀ ts : List Tk, (flatT ts).length = ts.length * 2
  | [] => rfl
  | t :: ts => by simp [flatT, flatT_length ts]; omega
theorem flatJ_append : ∀ a b : List Jb, flatJ (a ++ b) = flatJ a ++ flatJ b
  | [], _ => rfl
  | j :: a, b => by simp [flatJ, flatJ_append a b]
theorem flatT_append : ∀ a b : List Tk, flatT (a ++ b) = flatT a ++ flatT b
  | [], _ => rfl
  | t :: a, b => by simp [flatT, flatT_append a b]
theorem flatJ_at : ∀ {js : List Jb} {k : Nat} {j : Jb}, js[k]? = some j → ∀ q x, j.flat[q]? = some x → (flatJ js)[k * 4 + q]? = some x
  | [], k, j, h, _, _, _ => by simp at h
  | y :: js, 0, j, h, q, x, hq => by
    simp at h
    subst h
    match q, hq with
    | 0, hq => simpa [flatJ, Jb.flat] using hq
    | 1, hq => simpa [flatJ, Jb.flat] using hq
    | 2, hq => simpa [flatJ, Jb.flat] using hq
    | 3, hq => simpa [flatJ, Jb.flat] using hq
    | q + 4, hq => simp [Jb.flat] at hq
  | y :: js, k + 1, j, h, q, x, hq => by
    have e : (k + 1) * 4 + q = (k * 4 + q) + 1 + 1 + 1 + 1 := by omega
    rw [e]
    simp only [flatJ, List.getElem?_cons_succ]
    exact flatJ_at (by simpa using h) q x hq
theorem flatT_at : ∀ {ts : List Tk} {k : Nat} {t : Tk}, ts[k]? = some t → ∀ q x, t.flat[q]? = some x → (flatT ts)[k * 2 + q]? = some x
  | [], k, t, h, _, _, _ => by simp at h
  | y :: ts, 0, t, h, q, x, hq => by
    simp at h
    subst h
    match q, hq with
    | 0, hq => simpa [flatT, Tk.flat] using hq
    | 1, hq => simpa [flatT, Tk.flat] using hq
    | q + 2, hq => simp [Tk.flat] at hq
  | y :: ts, k + 1, t, h, q, x, hq => by
    have e : (k + 1) * 2 + q = (k * 2 + q) + 1 + 1 := by omega
    rw [e]
    simp only [flatT, List.getElem?_cons_succ]
    exact flatT_at (by simpa using h) q x hq
theorem flatJ_take : ∀ (js : List Jb) (k : Nat), (flatJ js).take (k * 4) = flatJ (js.take k)
  | [], k => by simp [flatJ]
  | j :: js, 0 => by simp [flatJ]
  | j :: js, k + 1 => by
    have e : (k + 1) * 4 = k * 4 + 1 + 1 + 1 + 1 := by omega
    rw [e]
    simp only [flatJ, List.take_succ_cons, flatJ_take js k]
theorem flatJ_drop : ∀ (js : List Jb) (k : Nat), (flatJ js).drop (k * 4) = flatJ (js.drop k)
  | [], k => by simp [flatJ]
  | j :: js, 0 => by simp [flatJ]
  | j :: js, k + 1 => by
    have e : (k + 1) * 4 = k * 4 + 1 + 1 + 1 + 1 := by omega
    rw [e]
    simp only [flatJ, List.drop_succ_cons, flatJ_drop js k]
theorem flatT_take : ∀ (ts : List Tk) (k : Nat), (flatT ts).take (k * 2) = flatT (ts.take k)
  | [], k => by simp [flatT]
  | j :: ts, 0 => by simp [flatT]
  | j :: ts, k + 1 => by
    have e : (k + 1) * 2 = k * 2 + 1 + 1 := by omega
    rw [e]
    simp only [flatT, List.take_succ_cons, flatT_take ts k]
theorem flatJ_set : ∀ (js : List Jb) (k : Nat) (j : Jb), ((((flatJ js).set (k * 4) j.i).set (k * 4 + 1) j.n).set (k * 4 + 2) j.l).set (k * 4 + 3) j.d = flatJ (js.set k j)
  | [], k, j => by simp [flatJ]
  | y :: js, 0, j => by simp [flatJ]
  | y :: js, k + 1, j => by
    have e : (k + 1) * 4 = k * 4 + 1 + 1 + 1 + 1 := by omega
    have e1 : k * 4 + 1 + 1 + 1 + 1 + 1 = (k * 4 + 1) + 1 + 1 + 1 + 1 := by omega
    have e2 : k * 4 + 1 + 1 + 1 + 1 + 2 = (k * 4 + 2) + 1 + 1 + 1 + 1 := by omega
    have e3 : k * 4 + 1 + 1 + 1 + 1 + 3 = (k * 4 + 3) + 1 + 1 + 1 + 1 := by omega
    rw [e, e1, e2, e3]
    simp only [flatJ, List.set_cons_succ]
    rw [flatJ_set js k j]
theorem flatJ_of : ∀ (n : Nat) (xs : List Int), xs.length = n * 4 → ∃ js : List Jb, flatJ js = xs ∧ js.length = n
  | 0, xs, h => ⟨[], by simp at h; simp [h, flatJ], rfl⟩
  | n + 1, xs, h => by
    match xs, h with
    | a :: b :: c :: d :: xs, h =>
      obtain ⟨js, h1, h2⟩ := flatJ_of n xs (by simp at h; omega)
      exact ⟨⟨a, b, c, d⟩ :: js, by simp [flatJ, h1], by simp [h2]⟩
    | [], h => exact absurd h (by simp; try omega)
    | [_], h => exact absurd h (by simp; try omega)
    | [_, _], h => exact absurd h (by simp; try omega)
    | [_, _, _], h => exact absurd h (by simp; try omega)
theorem flatT_of : ∀ (n : Nat) (xs : List Int), xs.length = n * 2 → ∃ ts : List Tk, flatT ts = xs ∧ ts.length = n
  | 0, xs, h => ⟨[], by simp at h; simp [h, flatT], rfl⟩
  | n + 1, xs, h => by
    match xs, h with
    | a :: b :: xs, h =>
      obtain ⟨js, h1, h2⟩ := flatT_of n xs (by simp at h; omega)
      exact ⟨⟨a, b⟩ :: js, by simp [flatT, h1], by simp [h2]⟩
    | [], h => exact absurd h (by simp; try omega)
    | [_], h => exact absurd h (by simp; try omega)

/-! pools -/
def poolOkB (z n b : Int) : Bool := decide (1 ≤ z ∧ z ≤ 1000 ∧ 0 ≤ n ∧ n ≤ b ∧ b ≤ z)
theorem poolOk_iff {z n b : Int} : poolOkB z n b = true ↔ 1 ≤ z ∧ z ≤ 1000 ∧ 0 ≤ n ∧ n ≤ b ∧ b ≤ z := by simp [poolOkB]
def resB (z n b k : Int) : Bool := poolOkB z n b && inB k 1 1000 && decide (b + k ≤ z)
def takeB (z n b k : Int) : Bool := poolOkB z n b && inB k 1 1000 && decide (n + k ≤ b)
/-! tickets -/
def tkIn (t : Tk) : Bool := inB t.f 0 1000 && inB t.c 0 1000
def tkMeet (t x : Tk) : Prop := 0 < t.c ∧ 0 < x.c ∧ t.f < x.f + x.c ∧ x.f < t.f + t.c
def tksApart (ts : List Tk) : Prop := ∀ (i k : Nat) (t x : Tk), ts[i]? = some t → ts[k]? = some x → k < i → ¬ tkMeet t x
def tksOk (ts : List Tk) : Prop := ts.length ≤ 1000 ∧ (∀ t ∈ ts, tkIn t = true) ∧ tksApart ts
open Classical in
noncomputable def tksOkB (ts : List Tk) : Bool := decide (tksOk ts)
theorem tksOkB_iff {ts : List Tk} : tksOkB ts = true ↔ tksOk ts := by simp [tksOkB]
theorem tksOkB_yes {ts : List Tk} (h : tksOk ts) : tksOkB ts = true := tksOkB_iff.2 h
theorem tksOkB_no {ts : List Tk} (h : ¬ tksOk ts) : tksOkB ts = false := by
  cases e : tksOkB ts
  · rfl
  · exact absurd (tksOkB_iff.1 e) h
/-! jobs -/
def jbIn (j : Jb) : Bool := inB j.i 1 1000 && inB j.n 1 10 && inB j.l 1 20 && inB j.d 0 20
def jbsApart (js : List Jb) : Prop := ∀ (i k : Nat) (j x : Jb), js[i]? = some j → js[k]? = some x → k < i → x.i ≠ j.i
def jbsOk (js : List Jb) : Prop := (∀ j ∈ js, jbIn j = true) ∧ jbsApart js
def schedOk (S : SV) : Prop := poolOkB S.z S.n S.b = true ∧ S.js.length ≤ 16 ∧ tksOk S.ts ∧ jbsOk S.js ∧ ∀ t ∈ S.ts, t.f + t.c ≤ S.n
open Classical in
noncomputable def schedOkB (S : SV) : Bool := decide (schedOk S)
theorem schedOkB_iff {S : SV} : schedOkB S = true ↔ schedOk S := by simp [schedOkB]
theorem schedOkB_yes {S : SV} (h : schedOk S) : schedOkB S = true := schedOkB_iff.2 h
theorem schedOkB_no {S : SV} (h : ¬ schedOk S) : schedOkB S = false := by
  cases e : schedOkB S
  · rfl
  · exact absurd (schedOkB_iff.1 e) h
/-! the step -/
def jb0 : Jb := ⟨0, 0, 0, 0⟩
def bestTo (js : List Jb) : Nat → Nat
  | 0 => 0
  | i + 1 => if (js.getD i jb0).d < (js.getD (bestTo js i) jb0).d then i else bestTo js i
theorem bestTo_lt {js : List Jb} (h : 0 < js.length) : ∀ i, i ≤ js.length → bestTo js i < js.length
  | 0, _ => h
  | i + 1, hi => by
    have := bestTo_lt h i (by omega)
    unfold bestTo
    split <;> omega
theorem bestTo_one (js : List Jb) : bestTo js 1 = 0 := by
  simp [bestTo]
def best (S : SV) : Nat := bestTo S.js S.js.length
def job (S : SV) : Jb := S.js.getD (best S) jb0
def short (S : SV) : Int := S.n + (job S).n - S.b
def failsB (S : SV) : Bool := decide (0 < short S) && !resB S.z S.n S.b (short S)
def burned (S : SV) : Int := if 0 < short S then S.b + short S else S.b
def jbNext (j : Jb) : Jb := ⟨j.i, j.n, j.l - 1, j.d + 1⟩
def stepF (S : SV) : SV := { S with js := S.js.eraseIdx (best S), fs := S.fs ++ [(job S).i] }
def stepT (S : SV) : SV := { S with n := S.n + (job S).n, b := burned S, js := if (job S).l = 1 then S.js.eraseIdx (best S) else S.js.set (best S) (jbNext (job S)), ts := S.ts ++ [⟨S.n, (job S).n⟩] }
def stepS (S : SV) : SV := if failsB S then stepF S else stepT S
noncomputable def stepB (S : SV) : Bool := schedOkB S && decide (0 < S.js.length) && decide (S.ts.length < 1000)
noncomputable def runS : Nat → SV → SV
  | 0, S => S
  | n + 1, S => if stepB S then runS n (stepS S) else S
noncomputable def runN : Nat → SV → Nat
  | 0, _ => 0
  | n + 1, S => if stepB S then runN n (stepS S) + 1 else 0
def addS (S : SV) (id need rounds : Int) : SV := { S with js := S.js ++ [⟨id, need, rounds, 0⟩] }
noncomputable def addB (S : SV) (id need rounds : Int) : Bool := schedOkB S && schedOkB (addS S id need rounds)
noncomputable def crashS (S : SV) : SV := if schedOkB S then { S with n := S.b } else S
end Go.Proofs.YtjknadnknainbaaGreatDoor
