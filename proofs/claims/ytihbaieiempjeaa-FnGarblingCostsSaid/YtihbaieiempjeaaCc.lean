/- Circuits: gates ws three numbers, which circuits are valid, what the builders append. No program is named here. -/
import Derived.Test.YtihbaieiempjeaaPlain
import Derived.Test.YtihbaieiempjeaaBase
namespace Go.Proofs.Ytihbaieiempjeaa
open Go.RowKit

structure Gt where
  k : Int
  a : Int
  b : Int
def flatG : List Gt → List Int
  | [] => []
  | g :: r => g.k :: g.a :: g.b :: flatG r
theorem flatG_length : ∀ L, (flatG L).length = L.length * 3
  | [] => rfl
  | s :: r => by simp only [flatG, List.length_cons, flatG_length r]; omega
theorem flatG_append : ∀ A B, flatG (A ++ B) = flatG A ++ flatG B
  | [], B => rfl
  | s :: r, B => by simp only [flatG, List.cons_append, flatG_append r B]
def threeG (g : Gt) : List Int := [g.k, g.a, g.b]
theorem flatG_snoc (L : List Gt) (g : Gt) : flatG (L ++ [g]) = flatG L ++ threeG g := flatG_append L [g]
theorem flatG_at : ∀ {L : List Gt} {k : Nat} {s : Gt}, L[k]? = some s → ∀ (j : Nat) (x : Int), (threeG s)[j]? = some x → (flatG L)[k * 3 + j]? = some x
  | t :: r, 0, s, h, j, x, hx => by
    injection h with h
    subst h
    have hj : j < 3 := (List.getElem?_eq_some_iff.1 hx).1
    rw [show 0 * 3 + j = j by omega]
    match j, hj with
    | 0, _ => exact hx
    | 1, _ => exact hx
    | 2, _ => exact hx
  | t :: r, k + 1, s, h, j, x, hx => by
    have ih := flatG_at (L := r) (k := k) (by simpa using h) j x hx
    rw [show (k + 1) * 3 + j = (k * 3 + j) + 3 by omega]
    exact ih
/-- Whether a gate may stand at a place. -/
def gateB (g : Gt) (n : Int) : Bool :=
  if g.k = 1 then inB g.a 0 79 && g.b == 0
  else if g.k = 2 then inB g.a 0 1 && g.b == 0
  else if g.k = 3 ∨ g.k = 4 then inB g.a 0 (n - 1) && inB g.b 0 (n - 1)
  else if g.k = 5 then inB g.a 0 (n - 1) && g.b == 0
  else false
def gatesB : Nat → List Gt → Bool
  | _, [] => true
  | n, g :: r => gateB g n && gatesB (n + 1) r
def outsB (n : Nat) (os : List Int) : Bool := os.all fun w => inB w 0 ((n : Int) - 1)
def circB (gs : List Gt) (os : List Int) : Bool := decide (gs.length ≤ 6000) && (gatesB 0 gs && outsB gs.length os)
theorem gatesB_append : ∀ (A B : List Gt) (n : Nat), gatesB n (A ++ B) = (gatesB n A && gatesB (n + A.length) B)
  | [], B, n => by simp [gatesB]
  | g :: A, B, n => by
    simp only [List.cons_append, gatesB, gatesB_append A B (n + 1), List.length_cons, Bool.and_assoc]
    rw [show n + 1 + A.length = n + (A.length + 1) by omega]
theorem gatesB_snoc {A : List Gt} {g : Gt} (h : gatesB 0 A = true) (hg : gateB g A.length = true) : gatesB 0 (A ++ [g]) = true := by
  rw [gatesB_append, h]
  simp [gatesB, hg]
theorem gatesB_at : ∀ {L : List Gt} {n k : Nat} {g : Gt}, gatesB n L = true → L[k]? = some g → gateB g ((n + k : Nat) : Int) = true
  | t :: r, n, 0, g, h, hk => by
    injection hk with hk
    subst hk
    simp only [gatesB, Bool.and_eq_true] at h
    exact h.1
  | t :: r, n, k + 1, g, h, hk => by
    simp only [gatesB, Bool.and_eq_true] at h
    have ih := gatesB_at h.2 (by simpa using hk)
    rw [show n + 1 + k = n + (k + 1) by omega] at ih
    exact ih
/-! ### What the builders append -/
def wireB (n : Nat) (w : Int) : Bool := inB w 0 ((n : Int) - 1)
def wordB4 (n : Nat) (ws : List Int) : Bool := decide (ws.length = 4) && ws.all (wireB n)
theorem wireB_iff {n : Nat} {w : Int} : wireB n w = true ↔ 0 ≤ w ∧ w < n := by unfold wireB; rw [inB_iff]; omega
theorem wireB_mono {n m : Nat} {w : Int} (h : wireB n w = true) (hm : n ≤ m) : wireB m w = true := wireB_iff.2 (by have := wireB_iff.1 h; omega)
theorem word4 {n : Nat} {ws : List Int} (h : wordB4 n ws = true) : ∃ a b c d : Int, ws = [a, b, c, d] ∧ wireB n a = true ∧ wireB n b = true ∧ wireB n c = true ∧ wireB n d = true := by
  unfold wordB4 at h
  rw [Bool.and_eq_true, decide_eq_true_eq] at h
  obtain ⟨hl, ha⟩ := h
  match ws, hl with
  | [a, b, c, d], _ =>
    simp only [List.all_cons, List.all_nil, Bool.and_eq_true, Bool.and_true] at ha
    exact ⟨a, b, c, d, rfl, ha.1, ha.2.1, ha.2.2.1, ha.2.2.2⟩
theorem word4_mk {n : Nat} {a b c d : Int} (ha : wireB n a = true) (hb : wireB n b = true) (hc : wireB n c = true) (hd : wireB n d = true) : wordB4 n [a, b, c, d] = true := by
  unfold wordB4
  simp [ha, hb, hc, hd]
theorem wordB4_mono {n m : Nat} {ws : List Int} (h : wordB4 n ws = true) (hm : n ≤ m) : wordB4 m ws = true := by
  obtain ⟨a, b, c, d, rfl, h1, h2, h3, h4⟩ := word4 h
  exact word4_mk (wireB_mono h1 hm) (wireB_mono h2 hm) (wireB_mono h3 hm) (wireB_mono h4 hm)
def upW (n : Nat) : Nat → List Int
  | 0 => []
  | k + 1 => upW n k ++ [((n + k : Nat) : Int)]
theorem upW_length (n : Nat) : ∀ k, (upW n k).length = k
  | 0 => rfl
  | k + 1 => by simp [upW, upW_length n k]
def fullG (gs : List Gt) (a b c : Int) : List Gt :=
  gs ++ [⟨3, a, c⟩, ⟨3, b, c⟩, ⟨3, a, ((gs.length + 1 : Nat) : Int)⟩, ⟨4, ((gs.length : Nat) : Int), ((gs.length + 1 : Nat) : Int)⟩, ⟨3, ((gs.length + 3 : Nat) : Int), c⟩]
theorem fullG_length (gs : List Gt) (a b c : Int) : (fullG gs a b c).length = gs.length + 5 := by simp [fullG]
def sumTo (gs : List Gt) (ws bs : List Int) (first : Int) : Nat → List Gt
  | 0 => gs ++ [⟨2, first, 0⟩]
  | i + 1 => fullG (sumTo gs ws bs first i) (ws.getD i 0) (bs.getD i 0) ((gs.length + 5 * i : Nat) : Int)
theorem sumTo_length (gs : List Gt) (ws bs : List Int) (first : Int) : ∀ i, (sumTo gs ws bs first i).length = gs.length + 5 * i + 1
  | 0 => by simp [sumTo]
  | i + 1 => by rw [sumTo, fullG_length, sumTo_length gs ws bs first i]; omega
def sumG (gs : List Gt) (ws bs : List Int) (first : Int) (m : Nat) : List Gt :=
  sumTo gs ws bs first m ++ [⟨3, ws.getD m 0, bs.getD m 0⟩, ⟨3, ((gs.length + 5 * m + 1 : Nat) : Int), ((gs.length + 5 * m : Nat) : Int)⟩]
theorem sumG_length (gs : List Gt) (ws bs : List Int) (first : Int) (m : Nat) : (sumG gs ws bs first m).length = gs.length + 5 * m + 3 := by simp [sumG, sumTo_length]
def sumWs (n : Nat) : Nat → List Int
  | 0 => []
  | i + 1 => sumWs n i ++ [((n + 5 * i + 3 : Nat) : Int)]
theorem sumWs_length (n : Nat) : ∀ i, (sumWs n i).length = i
  | 0 => rfl
  | i + 1 => by simp [sumWs, sumWs_length n i]
def sumW (n m : Nat) : List Int := sumWs n m ++ [((n + 5 * m + 2 : Nat) : Int)]
def notsG (gs : List Gt) (bs : List Int) : List Gt := gs ++ bs.map fun b => ⟨5, b, 0⟩
theorem notsG_length (gs : List Gt) (bs : List Int) : (notsG gs bs).length = gs.length + bs.length := by simp [notsG]
def constTo (gs : List Gt) (n : Int) : Nat → List Gt
  | 0 => gs
  | i + 1 => constTo gs n i ++ [⟨2, n / (2 ^ i : Nat) % 2, 0⟩]
theorem constTo_length (gs : List Gt) (n : Int) : ∀ i, (constTo gs n i).length = gs.length + i
  | 0 => rfl
  | i + 1 => by rw [constTo, List.length_append, constTo_length gs n i]; simp; omega
def lessG (gs : List Gt) (ws bs : List Int) : List Gt := sumTo (notsG gs bs) ws (upW gs.length 4) 1 4 ++ [⟨5, ((gs.length + bs.length + 20 : Nat) : Int), 0⟩]
def eqTo (gs : List Gt) (ws bs : List Int) : Nat → List Gt
  | 0 => gs
  | i + 1 => eqTo gs ws bs i ++ [⟨3, ws.getD i 0, bs.getD i 0⟩, ⟨5, ((gs.length + 2 * i : Nat) : Int), 0⟩]
theorem eqTo_length (gs : List Gt) (ws bs : List Int) : ∀ i, (eqTo gs ws bs i).length = gs.length + 2 * i
  | 0 => by simp [eqTo]
  | i + 1 => by rw [eqTo, List.length_append, eqTo_length gs ws bs i]; simp; omega
def eqG (gs : List Gt) (ws bs : List Int) : List Gt :=
  eqTo gs ws bs 4 ++ [⟨4, ((gs.length + 1 : Nat) : Int), ((gs.length + 3 : Nat) : Int)⟩, ⟨4, ((gs.length + 8 : Nat) : Int), ((gs.length + 5 : Nat) : Int)⟩, ⟨4, ((gs.length + 9 : Nat) : Int), ((gs.length + 7 : Nat) : Int)⟩]
def muxTo (gs : List Gt) (s : Int) (ws bs : List Int) : Nat → List Gt
  | 0 => gs
  | i + 1 => muxTo gs s ws bs i ++ [⟨3, ws.getD i 0, bs.getD i 0⟩, ⟨4, s, ((gs.length + 3 * i : Nat) : Int)⟩, ⟨3, ((gs.length + 3 * i + 1 : Nat) : Int), bs.getD i 0⟩]
theorem muxTo_length (gs : List Gt) (s : Int) (ws bs : List Int) : ∀ i, (muxTo gs s ws bs i).length = gs.length + 3 * i
  | 0 => by simp [muxTo]
  | i + 1 => by rw [muxTo, List.length_append, muxTo_length gs s ws bs i]; simp; omega
def muxW (n : Nat) : Nat → List Int
  | 0 => []
  | i + 1 => muxW n i ++ [((n + 3 * i + 2 : Nat) : Int)]
theorem muxW_length (n : Nat) : ∀ i, (muxW n i).length = i
  | 0 => rfl
  | i + 1 => by simp [muxW, muxW_length n i]
/-- Gates that join one wire with the first wires of a row. -/
def andsTo (gs : List Gt) (x : Int) (ws : List Int) : Nat → List Gt
  | 0 => gs
  | k + 1 => andsTo gs x ws k ++ [⟨4, x, ws.getD k 0⟩]
theorem andsTo_length (gs : List Gt) (x : Int) (ws : List Int) : ∀ k, (andsTo gs x ws k).length = gs.length + k
  | 0 => rfl
  | k + 1 => by rw [andsTo, List.length_append, andsTo_length gs x ws k]; simp; omega
def mulTo (gs : List Gt) (ws bs : List Int) : Nat → List Gt × List Int
  | 0 => (andsTo gs (bs.getD 0 0) ws 4, upW gs.length 4)
  | i + 1 =>
    let p := mulTo gs ws bs i
    let g := andsTo p.1 (bs.getD (i + 1) 0) ws (3 - i)
    (sumG g (p.2.drop (i + 1)) (upW p.1.length (3 - i)) 0 (2 - i), p.2.take (i + 1) ++ sumW g.length (2 - i))
/-- Gates of one kind on the wires of two words. -/
def bitTo (gs : List Gt) (k : Int) (ws bs : List Int) : Nat → List Gt
  | 0 => gs
  | i + 1 => bitTo gs k ws bs i ++ [⟨k, ws.getD i 0, bs.getD i 0⟩]
theorem bitTo_length (gs : List Gt) (k : Int) (ws bs : List Int) : ∀ i, (bitTo gs k ws bs i).length = gs.length + i
  | 0 => rfl
  | i + 1 => by rw [bitTo, List.length_append, bitTo_length gs k ws bs i]; simp; omega
def inTo (gs : List Gt) (p n : Int) : Nat → List Gt
  | 0 => gs
  | i + 1 => inTo gs p n i ++ [⟨1, (p * 4 + n) * 4 + i, 0⟩]
theorem inTo_length (gs : List Gt) (p n : Int) : ∀ i, (inTo gs p n i).length = gs.length + i
  | 0 => rfl
  | i + 1 => by rw [inTo, List.length_append, inTo_length gs p n i]; simp; omega
/-! ### The gates are valid, the wires lie in the circuit -/
theorem gate3 {k a b : Int} {n : Nat} (hk : k = 3 ∨ k = 4) (ha : wireB n a = true) (hb : wireB n b = true) : gateB ⟨k, a, b⟩ n = true := by
  have h1 := wireB_iff.1 ha
  have h2 := wireB_iff.1 hb
  unfold gateB
  dsimp only
  rw [if_neg (by omega), if_neg (by omega), if_pos hk]
  rw [inB_iff.2 ⟨by omega, by omega⟩, inB_iff.2 ⟨by omega, by omega⟩]
  rfl
theorem gate5 {a : Int} {n : Nat} (ha : wireB n a = true) : gateB ⟨5, a, 0⟩ n = true := by
  have h1 := wireB_iff.1 ha
  unfold gateB
  dsimp only
  rw [if_neg (by decide), if_neg (by decide), if_neg (by decide), if_pos rfl, inB_iff.2 ⟨by omega, by omega⟩]
  rfl
theorem gate2 {a : Int} {n : Nat} (ha : a = 0 ∨ a = 1) : gateB ⟨2, a, 0⟩ n = true := by
  unfold gateB
  dsimp only
  rw [if_neg (by decide), if_pos rfl, inB_iff.2 (by omega)]
  rfl
theorem wire_at {n i : Nat} (h : i < n) : wireB n ((i : Nat) : Int) = true := wireB_iff.2 (by omega)
theorem full_ok {gs : List Gt} {a b c : Int} (h : gatesB 0 gs = true) (ha : wireB gs.length a = true) (hb : wireB gs.length b = true) (hc : wireB gs.length c = true) : gatesB 0 (fullG gs a b c) = true := by
  unfold fullG
  rw [gatesB_append, h]
  simp only [gatesB, Bool.true_and, Bool.and_true, Bool.and_eq_true, Nat.zero_add]
  exact ⟨gate3 (.inl rfl) ha hc, gate3 (.inl rfl) (wireB_mono hb (by omega)) (wireB_mono hc (by omega)), gate3 (.inl rfl) (wireB_mono ha (by omega)) (wire_at (by omega)), gate3 (.inr rfl) (wire_at (by omega)) (wire_at (by omega)), gate3 (.inl rfl) (wire_at (by omega)) (wireB_mono hc (by omega))⟩
theorem sumTo_ok {gs : List Gt} {ws bs : List Int} {first : Int} (h : gatesB 0 gs = true) (hf : first = 0 ∨ first = 1) : ∀ i, (∀ j, j < i → wireB gs.length (ws.getD j 0) = true ∧ wireB gs.length (bs.getD j 0) = true) → gatesB 0 (sumTo gs ws bs first i) = true
  | 0, _ => gatesB_snoc h (gate2 hf)
  | i + 1, hw => by
    have hl := sumTo_length gs ws bs first i
    obtain ⟨h1, h2⟩ := hw i (by omega)
    exact full_ok (sumTo_ok h hf i fun j hj => hw j (by omega)) (wireB_mono h1 (by omega)) (wireB_mono h2 (by omega)) (wire_at (by omega))
theorem sumG_ok {gs : List Gt} {ws bs : List Int} {first : Int} {m : Nat} (h : gatesB 0 gs = true) (hf : first = 0 ∨ first = 1) (hw : ∀ j, j ≤ m → wireB gs.length (ws.getD j 0) = true ∧ wireB gs.length (bs.getD j 0) = true) : gatesB 0 (sumG gs ws bs first m) = true := by
  have hl := sumTo_length gs ws bs first m
  unfold sumG
  rw [gatesB_append, sumTo_ok h hf m fun j hj => hw j (by omega)]
  obtain ⟨h1, h2⟩ := hw m (Nat.le_refl _)
  simp only [gatesB, Bool.true_and, Bool.and_true, Bool.and_eq_true, Nat.zero_add]
  exact ⟨gate3 (.inl rfl) (wireB_mono h1 (by omega)) (wireB_mono h2 (by omega)), gate3 (.inl rfl) (wire_at (by omega)) (wire_at (by omega))⟩
theorem nots_ok {gs : List Gt} (h : gatesB 0 gs = true) : ∀ {bs : List Int}, (∀ b ∈ bs, wireB gs.length b = true) → gatesB 0 (notsG gs bs) = true := fun {bs} hb => by
  unfold notsG
  rw [gatesB_append, h, Bool.true_and]
  have : ∀ (n : Nat) (l : List Int), gs.length ≤ n → (∀ b ∈ l, wireB gs.length b = true) → gatesB n (l.map fun b => (⟨5, b, 0⟩ : Gt)) = true := fun n l => by
    induction l generalizing n with
    | nil => intro _ _; rfl
    | cons b l ih =>
      intro hn hl
      simp only [List.map_cons, gatesB, Bool.and_eq_true]
      exact ⟨gate5 (wireB_mono (hl b (by simp)) hn), ih (n + 1) (by omega) fun c hc => hl c (by simp [hc])⟩
  exact this _ bs (by omega) hb
end Go.Proofs.Ytihbaieiempjeaa
