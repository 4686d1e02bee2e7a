/- What a program compiles to: the gates, the wires of its outputs. No program is named here. -/
import Derived.Test.YtihbaieiempjeaaPg
import Derived.Test.YtihbaieiempjeaaCc
namespace Go.Proofs.Ytihbaieiempjeaa
open Go.RowKit

def regL (rs : List (List Int)) (k : Int) : List Int := rs.getD k.toNat []
/-- The gates and the word of one statement. -/
def wordP (gs : List Gt) (rs : List (List Int)) (z : Int) (s : St) : List Gt × List Int :=
  if s.o = 1 then (constTo gs s.n 4, upW gs.length 4)
  else if s.o = 2 then (inTo gs s.a s.n 4, upW gs.length 4)
  else if s.o = 3 then (sumG gs (regL rs s.a) (regL rs s.b) 0 3, sumW gs.length 3)
  else if s.o = 4 then (sumG (notsG gs (regL rs s.b)) (regL rs s.a) (upW gs.length 4) 1 3, sumW (gs.length + 4) 3)
  else if s.o = 5 then mulTo gs (regL rs s.a) (regL rs s.b) 3
  else if s.o = 6 then (bitTo gs 4 (regL rs s.a) (regL rs s.b) 4, upW gs.length 4)
  else if s.o = 7 then (bitTo gs 3 (regL rs s.a) (regL rs s.b) 4, upW gs.length 4)
  else if s.o = 8 then (lessG gs (regL rs s.a) (regL rs s.b), [((gs.length + 25 : Nat) : Int), z, z, z])
  else if s.o = 9 then (eqG gs (regL rs s.a) (regL rs s.b), [((gs.length + 10 : Nat) : Int), z, z, z])
  else (muxTo gs ((regL rs s.a).getD 0 0) (regL rs s.b) (regL rs s.c) 4, muxW gs.length 4)
structure Cs where
  g : List Gt
  r : List (List Int)
  o : List Int
def stepC (c : Cs) (s : St) : Cs :=
  if s.o = 11 then ⟨c.g, c.r, c.o ++ regL c.r s.a⟩
  else ⟨(wordP c.g c.r 0 s).1, c.r.set s.d.toNat (wordP c.g c.r 0 s).2, c.o⟩
def cs0 : Cs := ⟨constTo [] 0 4, [upW 0 4, upW 0 4, upW 0 4, upW 0 4, upW 0 4, upW 0 4, upW 0 4, upW 0 4], []⟩
def compC (L : List St) : Cs := L.foldl stepC cs0
theorem compC_snoc (L : List St) (s : St) : compC (L ++ [s]) = stepC (compC L) s := by simp [compC]
/-! ### the words of valid statements are words of valid circuits -/
theorem word_at {n : Nat} {ws : List Int} (h : wordB4 n ws = true) {j : Nat} (hj : j < 4) : wireB n (ws.getD j 0) = true := by
  obtain ⟨a, b, c, d, rfl, h1, h2, h3, h4⟩ := word4 h
  obtain rfl | rfl | rfl | rfl : j = 0 ∨ j = 1 ∨ j = 2 ∨ j = 3 := by omega
  all_goals first | exact h1 | exact h2 | exact h3 | exact h4
theorem word_len {n : Nat} {ws : List Int} (h : wordB4 n ws = true) : ws.length = 4 := by
  obtain ⟨a, b, c, d, rfl, _⟩ := word4 h
  rfl
theorem word_mem {n : Nat} {ws : List Int} (h : wordB4 n ws = true) : ∀ x ∈ ws, wireB n x = true := by
  unfold wordB4 at h
  rw [Bool.and_eq_true] at h
  exact fun x hx => List.all_eq_true.1 h.2 x hx
theorem upW4 (n : Nat) : upW n 4 = [((n : Nat) : Int), ((n + 1 : Nat) : Int), ((n + 2 : Nat) : Int), ((n + 3 : Nat) : Int)] := rfl
theorem upW_word {n m : Nat} (h : n + 4 ≤ m) : wordB4 m (upW n 4) = true := by
  rw [upW4]
  exact word4_mk (wire_at (by omega)) (wire_at (by omega)) (wire_at (by omega)) (wire_at (by omega))
theorem sumW3 (n : Nat) : sumW n 3 = [((n + 3 : Nat) : Int), ((n + 8 : Nat) : Int), ((n + 13 : Nat) : Int), ((n + 17 : Nat) : Int)] := rfl
theorem sumW_word {n m : Nat} (h : n + 18 ≤ m) : wordB4 m (sumW n 3) = true := by
  rw [sumW3]
  exact word4_mk (wire_at (by omega)) (wire_at (by omega)) (wire_at (by omega)) (wire_at (by omega))
theorem muxW_word {n m : Nat} (h : n + 12 ≤ m) : wordB4 m (muxW n 4) = true := by
  show wordB4 m [((n + 2 : Nat) : Int), ((n + 5 : Nat) : Int), ((n + 8 : Nat) : Int), ((n + 11 : Nat) : Int)] = true
  exact word4_mk (wire_at (by omega)) (wire_at (by omega)) (wire_at (by omega)) (wire_at (by omega))
theorem constTo_ok {gs : List Gt} (n : Int) (h : gatesB 0 gs = true) : ∀ i, gatesB 0 (constTo gs n i) = true
  | 0 => h
  | i + 1 => gatesB_snoc (constTo_ok n h i) (gate2 (by omega))
theorem gate1 {a : Int} {n : Nat} (ha : 0 ≤ a ∧ a ≤ 79) : gateB ⟨1, a, 0⟩ n = true := by
  unfold gateB
  dsimp only
  rw [if_pos rfl, inB_iff.2 (by omega)]
  rfl
theorem inTo_ok {gs : List Gt} {p n : Int} (h : gatesB 0 gs = true) (hp : 0 ≤ p ∧ p ≤ 4) (hn : 0 ≤ n ∧ n ≤ 3) : ∀ i, i ≤ 4 → gatesB 0 (inTo gs p n i) = true
  | 0, _ => h
  | i + 1, hi => gatesB_snoc (inTo_ok h hp hn i (by omega)) (gate1 (by omega))
theorem andsTo_ok {gs : List Gt} {x : Int} {ws : List Int} (h : gatesB 0 gs = true) (hx : wireB gs.length x = true) : ∀ k, (∀ j, j < k → wireB gs.length (ws.getD j 0) = true) → gatesB 0 (andsTo gs x ws k) = true
  | 0, _ => h
  | k + 1, hw => by
    have hl := andsTo_length gs x ws k
    exact gatesB_snoc (andsTo_ok h hx k fun j hj => hw j (by omega)) (gate3 (.inr rfl) (wireB_mono hx (by omega)) (wireB_mono (hw k (by omega)) (by omega)))
theorem bitTo_ok {gs : List Gt} {q : Int} {ws bs : List Int} (hq : q = 3 ∨ q = 4) (h : gatesB 0 gs = true) : ∀ k, (∀ j, j < k → wireB gs.length (ws.getD j 0) = true ∧ wireB gs.length (bs.getD j 0) = true) → gatesB 0 (bitTo gs q ws bs k) = true
  | 0, _ => h
  | k + 1, hw => by
    have hl := bitTo_length gs q ws bs k
    have h1 := hw k (by omega)
    exact gatesB_snoc (bitTo_ok hq h k fun j hj => hw j (by omega)) (gate3 hq (wireB_mono h1.1 (by omega)) (wireB_mono h1.2 (by omega)))
theorem eqTo_ok {gs : List Gt} {ws bs : List Int} (h : gatesB 0 gs = true) : ∀ k, (∀ j, j < k → wireB gs.length (ws.getD j 0) = true ∧ wireB gs.length (bs.getD j 0) = true) → gatesB 0 (eqTo gs ws bs k) = true
  | 0, _ => h
  | k + 1, hw => by
    have hl := eqTo_length gs ws bs k
    have h1 := hw k (by omega)
    unfold eqTo
    rw [gatesB_append, eqTo_ok h k fun j hj => hw j (by omega)]
    simp only [gatesB, Bool.true_and, Bool.and_true, Bool.and_eq_true, Nat.zero_add]
    exact ⟨gate3 (.inl rfl) (wireB_mono h1.1 (by omega)) (wireB_mono h1.2 (by omega)), gate5 (wire_at (by omega))⟩
theorem eqG_length (gs : List Gt) (ws bs : List Int) : (eqG gs ws bs).length = gs.length + 11 := by simp [eqG, eqTo_length]
theorem eqG_ok {gs : List Gt} {ws bs : List Int} (h : gatesB 0 gs = true) (hw : ∀ j, j < 4 → wireB gs.length (ws.getD j 0) = true ∧ wireB gs.length (bs.getD j 0) = true) : gatesB 0 (eqG gs ws bs) = true := by
  have hl := eqTo_length gs ws bs 4
  unfold eqG
  rw [gatesB_append, eqTo_ok h 4 hw]
  simp only [gatesB, Bool.true_and, Bool.and_true, Bool.and_eq_true, Nat.zero_add]
  exact ⟨gate3 (.inr rfl) (wire_at (by omega)) (wire_at (by omega)), gate3 (.inr rfl) (wire_at (by omega)) (wire_at (by omega)), gate3 (.inr rfl) (wire_at (by omega)) (wire_at (by omega))⟩
theorem muxTo_ok {gs : List Gt} {s : Int} {ws bs : List Int} (h : gatesB 0 gs = true) (hs : wireB gs.length s = true) : ∀ k, (∀ j, j < k → wireB gs.length (ws.getD j 0) = true ∧ wireB gs.length (bs.getD j 0) = true) → gatesB 0 (muxTo gs s ws bs k) = true
  | 0, _ => h
  | k + 1, hw => by
    have hl := muxTo_length gs s ws bs k
    have h1 := hw k (by omega)
    unfold muxTo
    rw [gatesB_append, muxTo_ok h hs k fun j hj => hw j (by omega)]
    simp only [gatesB, Bool.true_and, Bool.and_true, Bool.and_eq_true, Nat.zero_add]
    exact ⟨gate3 (.inl rfl) (wireB_mono h1.1 (by omega)) (wireB_mono h1.2 (by omega)), gate3 (.inr rfl) (wireB_mono hs (by omega)) (wire_at (by omega)), gate3 (.inl rfl) (wire_at (by omega)) (wireB_mono h1.2 (by omega))⟩
theorem upW_wire {n k m j : Nat} (hj : j < k) (h : n + k ≤ m) : wireB m ((upW n k).getD j 0) = true := by
  induction k with
  | zero => omega
  | succ k ih =>
    rw [upW, List.getD_eq_getElem?_getD]
    by_cases hk : j = k
    · subst hk
      rw [List.getElem?_append_right (by rw [upW_length]; omega), upW_length, Nat.sub_self]
      exact wire_at (by omega)
    · rw [List.getElem?_append_left (by rw [upW_length]; omega), ← List.getD_eq_getElem?_getD]
      exact ih (by omega) (by omega)
theorem lessG_ok {gs : List Gt} {ws bs : List Int} (h : gatesB 0 gs = true) (hw : wordB4 gs.length ws = true) (hb : wordB4 gs.length bs = true) : gatesB 0 (lessG gs ws bs) = true := by
  have hl := notsG_length gs bs
  have hb4 := word_len hb
  have hs := sumTo_length (notsG gs bs) ws (upW gs.length 4) 1 4
  refine gatesB_snoc (sumTo_ok (nots_ok h (word_mem hb)) (.inr rfl) 4 fun j hj => ⟨wireB_mono (word_at hw hj) (by omega), ?_⟩) (gate5 (wire_at (by omega)))
  exact upW_wire hj (by omega)
theorem drop_getD (l : List Int) (k j : Nat) : (l.drop k).getD j 0 = l.getD (k + j) 0 := by
  rw [List.getD_eq_getElem?_getD, List.getElem?_drop, ← List.getD_eq_getElem?_getD]
theorem lessG_len (gs : List Gt) (ws bs : List Int) : (lessG gs ws bs).length = gs.length + bs.length + 22 := by simp [lessG, sumTo_length, notsG_length]
theorem mulTo_ok {gs : List Gt} {ws bs : List Int} (h : gatesB 0 gs = true) (hw : wordB4 gs.length ws = true) (hb : wordB4 gs.length bs = true) :
    ∀ i, i ≤ 3 → gatesB 0 (mulTo gs ws bs i).1 = true ∧ wordB4 (mulTo gs ws bs i).1.length (mulTo gs ws bs i).2 = true ∧ gs.length ≤ (mulTo gs ws bs i).1.length
  | 0, _ => by
    have hl := andsTo_length gs (bs.getD 0 0) ws 4
    exact ⟨andsTo_ok h (word_at hb (by omega)) 4 fun j hj => word_at hw hj, upW_word (by show _ ≤ (andsTo gs (bs.getD 0 0) ws 4).length; omega), by show _ ≤ (andsTo gs (bs.getD 0 0) ws 4).length; omega⟩
  | i + 1, hi => by
    obtain ⟨h1, h2, h3⟩ := mulTo_ok h hw hb i (by omega)
    simp only [mulTo]
    generalize (mulTo gs ws bs i).1 = gs0 at h1 h2 h3 ⊢
    generalize (mulTo gs ws bs i).2 = ws0 at h2 ⊢
    have hl := andsTo_length gs0 (bs.getD (i + 1) 0) ws (3 - i)
    have hs := sumG_length (andsTo gs0 (bs.getD (i + 1) 0) ws (3 - i)) (ws0.drop (i + 1)) (upW gs0.length (3 - i)) 0 (2 - i)
    obtain ⟨a, b, c, d, rfl, g1, g2, g3, g4⟩ := word4 h2
    refine ⟨sumG_ok (andsTo_ok h1 (wireB_mono (word_at hb (by omega)) h3) _ fun j hj => wireB_mono (word_at hw (by omega)) h3) (.inl rfl) fun j hj => ⟨?_, ?_⟩, ?_, by omega⟩
    · rw [drop_getD]
      exact wireB_mono (word_at h2 (by omega)) (by omega)
    · exact upW_wire (by omega) (by omega)
    · obtain rfl | rfl | rfl : i = 0 ∨ i = 1 ∨ i = 2 := by omega
      all_goals simp only [sumW, sumWs, List.take, List.cons_append, List.nil_append]
      all_goals refine word4_mk ?_ ?_ ?_ ?_
      all_goals first | exact wireB_mono g1 (by omega) | exact wireB_mono g2 (by omega) | exact wireB_mono g3 (by omega) | exact wireB_mono g4 (by omega) | exact wire_at (by omega)
theorem mulTo_len3 (gs : List Gt) (ws bs : List Int) : (mulTo gs ws bs 3).1.length = gs.length + 34 := by
  simp [mulTo, sumG_length, andsTo_length]
/-- A valid statement that is no part of a loop and gives a word. -/
structure Plain (s : St) : Prop where
  op : 1 ≤ s.o ∧ s.o ≤ 10
  d : 0 ≤ s.d ∧ s.d ≤ 7
  a : 0 ≤ s.a ∧ s.a ≤ 7
  b : 0 ≤ s.b ∧ s.b ≤ 7
  c : 0 ≤ s.c ∧ s.c ≤ 7
  n : 0 ≤ s.n ∧ s.n ≤ 15
  inp : s.o = 2 → s.a ≤ 4 ∧ s.n ≤ 3
theorem stmt_plain {s : St} (h : stmtB s = true) (h11 : s.o ≠ 11) (h12 : s.o ≠ 12) (h13 : s.o ≠ 13) : Plain s := by
  have hi := stmt_in h
  refine ⟨by omega, hi.2.1, hi.2.2.1, hi.2.2.2.1, hi.2.2.2.2.1, hi.2.2.2.2.2, fun h2 => ?_⟩
  unfold stmtB at h
  rw [if_neg (by omega), if_pos h2] at h
  simp only [Bool.and_eq_true, inB_iff] at h
  omega
structure OkC (c : Cs) (k : Nat) : Prop where
  g : gatesB 0 c.g = true
  lo : 4 ≤ c.g.length
  hi : c.g.length ≤ 4 + 34 * k
  r : c.r.length = 8
  w : ∀ ws ∈ c.r, wordB4 c.g.length ws = true
  o : outsB c.g.length c.o = true
  oh : c.o.length ≤ 4 * k
theorem OkC.reg {c : Cs} {k : Nat} (h : OkC c k) {x : Int} (hx : 0 ≤ x ∧ x ≤ 7) : c.r[x.toNat]? = some (regL c.r x) ∧ wordB4 c.g.length (regL c.r x) = true := by
  have hr := h.r
  have hl : x.toNat < c.r.length := by omega
  have e : c.r[x.toNat]? = some (regL c.r x) := by
    unfold regL
    rw [List.getD_eq_getElem?_getD, List.getElem?_eq_getElem hl]
    rfl
  exact ⟨e, h.w _ (List.mem_of_getElem? e)⟩
theorem ok0 : OkC cs0 0 := ⟨rfl, by decide, by decide, rfl, by decide, rfl, by decide⟩
/-- What one statement appends. -/
theorem wordP_ok {c : Cs} {k : Nat} (h : OkC c k) {s : St} (hs : Plain s) :
    gatesB 0 (wordP c.g c.r 0 s).1 = true ∧ wordB4 (wordP c.g c.r 0 s).1.length (wordP c.g c.r 0 s).2 = true ∧ c.g.length ≤ (wordP c.g c.r 0 s).1.length ∧ (wordP c.g c.r 0 s).1.length ≤ c.g.length + 34 := by
  obtain ⟨_, ha⟩ := h.reg hs.a
  obtain ⟨_, hb⟩ := h.reg hs.b
  obtain ⟨_, hc⟩ := h.reg hs.c
  have hlo := h.lo
  have hb4 := word_len hb
  have hg := h.g
  have hz : ∀ m, c.g.length ≤ m → wireB m (0 : Int) = true := fun m hm => wireB_iff.2 (by omega)
  unfold wordP
  generalize regL c.r s.a = x at ha ⊢
  generalize regL c.r s.b = y at hb hb4 ⊢
  generalize regL c.r s.c = z at hc ⊢
  have hab : ∀ j, j < 4 → wireB c.g.length (x.getD j 0) = true ∧ wireB c.g.length (y.getD j 0) = true := fun j hj => ⟨word_at ha hj, word_at hb hj⟩
  have hbc : ∀ j, j < 4 → wireB c.g.length (y.getD j 0) = true ∧ wireB c.g.length (z.getD j 0) = true := fun j hj => ⟨word_at hb hj, word_at hc hj⟩
  by_cases h1 : s.o = 1
  · rw [if_pos h1]
    have hl := constTo_length c.g s.n 4
    exact ⟨constTo_ok _ hg 4, upW_word (by show _ ≤ (constTo c.g s.n 4).length; omega), by show _ ≤ (constTo c.g s.n 4).length; omega, by show (constTo c.g s.n 4).length ≤ _; omega⟩
  rw [if_neg h1]
  by_cases h2 : s.o = 2
  · rw [if_pos h2]
    have hl := inTo_length c.g s.a s.n 4
    have hi := hs.inp h2
    have h0 := hs.a
    have h3 := hs.n
    exact ⟨inTo_ok hg (by omega) (by omega) 4 (by omega), upW_word (by show _ ≤ (inTo c.g s.a s.n 4).length; omega), by show _ ≤ (inTo c.g s.a s.n 4).length; omega, by show (inTo c.g s.a s.n 4).length ≤ _; omega⟩
  rw [if_neg h2]
  by_cases h3 : s.o = 3
  · rw [if_pos h3]
    dsimp only
    rw [sumG_length]
    exact ⟨sumG_ok hg (.inl rfl) fun j hj => hab j (by omega), sumW_word (by omega), by omega, by omega⟩
  rw [if_neg h3]
  by_cases h4 : s.o = 4
  · rw [if_pos h4]
    have hl := notsG_length c.g y
    dsimp only
    rw [sumG_length]
    exact ⟨sumG_ok (nots_ok hg (word_mem hb)) (.inr rfl) fun j hj => ⟨wireB_mono (hab j (by omega)).1 (by omega), upW_wire (by omega) (by omega)⟩, sumW_word (by omega), by omega, by omega⟩
  rw [if_neg h4]
  by_cases h5 : s.o = 5
  · rw [if_pos h5]
    obtain ⟨q1, q2, q3⟩ := mulTo_ok hg ha hb 3 (Nat.le_refl _)
    exact ⟨q1, q2, q3, by rw [mulTo_len3]; omega⟩
  rw [if_neg h5]
  by_cases h6 : s.o = 6
  · rw [if_pos h6]
    dsimp only
    rw [bitTo_length]
    exact ⟨bitTo_ok (.inr rfl) hg 4 hab, upW_word (by omega), by omega, by omega⟩
  rw [if_neg h6]
  by_cases h7 : s.o = 7
  · rw [if_pos h7]
    dsimp only
    rw [bitTo_length]
    exact ⟨bitTo_ok (.inl rfl) hg 4 hab, upW_word (by omega), by omega, by omega⟩
  rw [if_neg h7]
  by_cases h8 : s.o = 8
  · rw [if_pos h8]
    dsimp only
    rw [lessG_len]
    exact ⟨lessG_ok hg ha hb, word4_mk (wire_at (by omega)) (hz _ (by omega)) (hz _ (by omega)) (hz _ (by omega)), by omega, by omega⟩
  rw [if_neg h8]
  by_cases h9 : s.o = 9
  · rw [if_pos h9]
    dsimp only
    rw [eqG_length]
    exact ⟨eqG_ok hg hab, word4_mk (wire_at (by omega)) (hz _ (by omega)) (hz _ (by omega)) (hz _ (by omega)), by omega, by omega⟩
  rw [if_neg h9]
  dsimp only
  rw [muxTo_length]
  exact ⟨muxTo_ok hg (word_at ha (by omega)) 4 hbc, muxW_word (by omega), by omega, by omega⟩
theorem outsB_mono {n m : Nat} {os : List Int} (h : outsB n os = true) (hm : n ≤ m) : outsB m os = true := by
  unfold outsB at *
  rw [List.all_eq_true] at *
  intro x hx
  exact wireB_mono (h x hx) hm
theorem ok_out {c : Cs} {k : Nat} (h : OkC c k) {s : St} (ha : 0 ≤ s.a ∧ s.a ≤ 7) : OkC ⟨c.g, c.r, c.o ++ regL c.r s.a⟩ (k + 1) := by
  obtain ⟨_, hw⟩ := h.reg ha
  have hl := word_len hw
  have hh := h.hi
  have ho := h.oh
  refine ⟨h.g, h.lo, by show c.g.length ≤ _; omega, h.r, h.w, ?_, by show (c.o ++ _).length ≤ _; rw [List.length_append]; omega⟩
  have h1 := h.o
  have h2 := word_mem hw
  show outsB c.g.length (c.o ++ _) = true
  unfold outsB at *
  rw [List.all_append, h1, Bool.true_and]
  exact List.all_eq_true.2 (fun x hx => h2 x hx)
theorem ok_word {c : Cs} {k : Nat} (h : OkC c k) {s : St} (hs : Plain s) : OkC ⟨(wordP c.g c.r 0 s).1, c.r.set s.d.toNat (wordP c.g c.r 0 s).2, c.o⟩ (k + 1) := by
  obtain ⟨h1, h2, h3, h4⟩ := wordP_ok h hs
  have hh := h.hi
  have hl := h.lo
  have ho := h.oh
  refine ⟨h1, by show 4 ≤ (wordP c.g c.r 0 s).1.length; omega, by show (wordP c.g c.r 0 s).1.length ≤ _; omega, by simp [h.r], fun ws hw => ?_, outsB_mono h.o h3, by show c.o.length ≤ _; omega⟩
  rcases List.mem_or_eq_of_mem_set hw with hw | rfl
  · exact wordB4_mono (h.w ws hw) h3
  · exact h2
theorem ok_step {c : Cs} {k : Nat} (h : OkC c k) {s : St} (hs : stmtB s = true) (h12 : s.o ≠ 12) (h13 : s.o ≠ 13) : OkC (stepC c s) (k + 1) := by
  unfold stepC
  by_cases h11 : s.o = 11
  · rw [if_pos h11]
    exact ok_out h (stmt_in hs).2.2.1
  · rw [if_neg h11]
    exact ok_word h (stmt_plain hs h11 h12 h13)
theorem ok_take {L : List St} (hL : ∀ s ∈ L, stmtB s = true ∧ s.o ≠ 12 ∧ s.o ≠ 13) : ∀ k, k ≤ L.length → OkC (compC (L.take k)) k
  | 0, _ => ok0
  | k + 1, h => by
    have hk : k < L.length := by omega
    rw [List.take_succ_eq_append_getElem hk, compC_snoc]
    obtain ⟨h1, h2, h3⟩ := hL L[k] (List.getElem_mem hk)
    exact ok_step (ok_take hL k (by omega)) h1 h2 h3
theorem unrL_ok (L : List St) : ∀ s ∈ unrL L, stmtB s = true ∧ s.o ≠ 12 ∧ s.o ≠ 13 := by
  unfold unrL
  split
  · next h =>
    unfold unrB at h
    rw [Bool.and_eq_true] at h
    exact unr_in _ (trOf_ok h.1).2.1
  · intro s hs
    cases hs
theorem unrL_len (L : List St) : (unrL L).length ≤ 120 := by
  unfold unrL
  split
  · next h =>
    unfold unrB at h
    rw [Bool.and_eq_true, decide_eq_true_eq] at h
    rw [unr_length]
    exact h.2
  · simp
noncomputable def compL (L : List St) : Cs := if unrB L = true then compC (unrL L) else ⟨[], [], []⟩
theorem comp_ok (L : List St) : OkC (compC (unrL L)) (unrL L).length := by
  have h := ok_take (unrL_ok L) (unrL L).length (Nat.le_refl _)
  rwa [List.take_length] at h
end Go.Proofs.Ytihbaieiempjeaa
