import Derived.Test.YtihbaieiempjeaaCc
/- Circuits made simpler: what the two passes give. No program is named here. -/
namespace Go.Proofs.Ytihbaieiempjeaa
open Go.RowKit

def eqGt (a b : Gt) : Bool := a.k == b.k && (a.a == b.a && a.b == b.b)
theorem eqGt_iff {a b : Gt} : eqGt a b = true ↔ a = b := by
  obtain ⟨k, x, y⟩ := a
  obtain ⟨k', x', y'⟩ := b
  simp [eqGt]
/-- The first place of a gate; the length where there is none. -/
def findG : List Gt → Gt → Nat
  | [], _ => 0
  | h :: r, g => if eqGt h g = true then 0 else findG r g + 1
theorem findG_le : ∀ (l : List Gt) (g : Gt), findG l g ≤ l.length
  | [], _ => Nat.le_refl _
  | h :: r, g => by
    have := findG_le r g
    unfold findG
    split
    · simp
    · simp only [List.length_cons]; omega
theorem findG_lt : ∀ {l : List Gt} {g : Gt}, findG l g < l.length → l[findG l g]? = some g
  | [], _, h => absurd h (by simp [findG])
  | x :: r, g, h => by
    unfold findG at h ⊢
    split
    · next he => rw [eqGt_iff.1 he]; rfl
    · next he =>
      rw [if_neg he] at h
      simp only [List.length_cons] at h
      have := findG_lt (l := r) (g := g) (by omega)
      simpa using this
theorem findG_first : ∀ {l : List Gt} {g : Gt} {i : Nat}, i < findG l g → l[i]? ≠ some g
  | [], _, i, h => absurd h (by simp [findG])
  | x :: r, g, i, h => by
    unfold findG at h
    split at h
    · omega
    · next he =>
      cases i with
      | zero =>
        intro e
        injection e with e
        exact he (eqGt_iff.2 e)
      | succ i => simpa using findG_first (l := r) (g := g) (i := i) (by omega)
theorem findG_none {l : List Gt} {g : Gt} (h : ¬ findG l g < l.length) : ∀ i : Nat, l[i]? ≠ some g := fun i e => by
  have hl := findG_le l g
  have hi := (List.getElem?_eq_some_iff.1 e).1
  exact findG_first (by omega) e
theorem findG_at {l : List Gt} {g : Gt} {i : Nat} (h : l[i]? = some g) : findG l g ≤ i := by
  rcases Nat.lt_or_ge i (findG l g) with h1 | h1
  · exact absurd h (findG_first h1)
  · exact h1
theorem findG_len {l : List Gt} {g : Gt} (h : ¬ findG l g < l.length) : findG l g = l.length := by
  have := findG_le l g
  omega
def putG (gs : List Gt) (g : Gt) : List Gt := if findG gs g < gs.length then gs else gs ++ [g]
def put2 (gs : List Gt) (g : Gt) : List Gt × Int := (putG gs g, (findG gs g : Int))
def gtAt (gs : List Gt) (w : Int) : Gt := gs.getD w.toNat ⟨0, 0, 0⟩
def valG (gs : List Gt) (w : Int) : Int := if (gtAt gs w).k = 2 then (gtAt gs w).a else -1
def negG (gs : List Gt) (w : Int) : List Gt × Int :=
  if (gtAt gs w).k = 2 then put2 gs ⟨2, 1 - (gtAt gs w).a, 0⟩
  else if (gtAt gs w).k = 5 then (gs, (gtAt gs w).a)
  else put2 gs ⟨5, w, 0⟩
def halfG (gs : List Gt) (k a b : Int) (o : List Gt × Int) : List Gt × Int :=
  if valG gs a = 0 ∧ k = 3 ∨ valG gs a = 1 ∧ k = 4 then (gs, b)
  else if valG gs a = 1 then negG gs b
  else if valG gs a = 0 then put2 gs ⟨2, 0, 0⟩
  else o
def binG (gs : List Gt) (k a b : Int) : List Gt × Int :=
  if a = b then (if k = 4 then (gs, a) else put2 gs ⟨2, 0, 0⟩)
  else halfG gs k a b (halfG gs k b a (put2 gs ⟨k, min a b, max a b⟩))
def simpP (gs : List Gt) (tw : List Int) (g : Gt) : List Gt × Int :=
  if g.k = 3 ∨ g.k = 4 then binG gs g.k (tw.getD g.a.toNat 0) (tw.getD g.b.toNat 0)
  else if g.k = 5 then negG gs (tw.getD g.a.toNat 0)
  else put2 gs ⟨g.k, g.a, 0⟩
def simpS (st : List Gt × List Int) (g : Gt) : List Gt × List Int := ((simpP st.1 st.2 g).1, st.2 ++ [(simpP st.1 st.2 g).2])
def simpTo (gs : List Gt) : List Gt × List Int := gs.foldl simpS ([], [])
def mapO (tw : List Int) (os : List Int) : List Int := os.map fun w => tw.getD w.toNat 0
def simpC (gs : List Gt) (os : List Int) : List Gt × List Int := if circB gs os = true then ((simpTo gs).1, mapO (simpTo gs).2 os) else (gs, os)
theorem simpTo_snoc (gs : List Gt) (g : Gt) : simpTo (gs ++ [g]) = simpS (simpTo gs) g := by simp [simpTo]
/-! ### the second pass -/
def live0 (n : Nat) (os : List Int) : List Bool := os.foldl (fun L w => L.set w.toNat true) (List.replicate n false)
def liveP (g : Gt) (L : List Bool) : List Bool :=
  if g.k = 3 ∨ g.k = 4 then (L.set g.a.toNat true).set g.b.toNat true else if g.k = 5 then L.set g.a.toNat true else L
def liveS (gs : List Gt) (L : List Bool) (i : Nat) : List Bool := if L.getD i false = true then liveP (gs.getD i ⟨0, 0, 0⟩) L else L
def liveTo (gs : List Gt) (L : List Bool) : Nat → List Bool
  | 0 => L
  | i + 1 => liveTo gs (liveS gs L i) i
def liveG (gs : List Gt) (os : List Int) : List Bool := liveTo gs (live0 gs.length os) gs.length
def reG (tw : List Int) (g : Gt) : Gt :=
  if g.k = 3 ∨ g.k = 4 then ⟨g.k, tw.getD g.a.toNat 0, tw.getD g.b.toNat 0⟩ else if g.k = 5 then ⟨g.k, tw.getD g.a.toNat 0, g.b⟩ else g
def prS (gs : List Gt) (L : List Bool) (st : List Gt × List Int) (i : Nat) : List Gt × List Int :=
  if L.getD i false = true then (st.1 ++ [reG st.2 (gs.getD i ⟨0, 0, 0⟩)], st.2.set i (st.1.length : Int)) else st
def prTo (gs : List Gt) (L : List Bool) : Nat → List Gt × List Int
  | 0 => ([], List.replicate gs.length 0)
  | i + 1 => prS gs L (prTo gs L i) i
def prunC (gs : List Gt) (os : List Int) : List Gt × List Int :=
  if circB gs os = true then ((prTo gs (liveG gs os) gs.length).1, mapO (prTo gs (liveG gs os) gs.length).2 os) else (gs, os)
def optC (gs : List Gt) (os : List Int) : List Gt × List Int := prunC (simpC gs os).1 (simpC gs os).2
/-! ### the first pass gives valid gates, no two alike -/
def Apart (gs : List Gt) : Prop := ∀ (i j : Nat) (g : Gt), gs[i]? = some g → gs[j]? = some g → i = j
theorem apart_put {gs : List Gt} (h : Apart gs) (g : Gt) : Apart (putG gs g) := by
  unfold putG
  split
  · exact h
  · next hn =>
    have hno := findG_none hn
    intro i j x hi hj
    have hil := (List.getElem?_eq_some_iff.1 hi).1
    have hjl := (List.getElem?_eq_some_iff.1 hj).1
    rw [List.length_append, List.length_singleton] at hil hjl
    by_cases h1 : i < gs.length
    · rw [List.getElem?_append_left h1] at hi
      by_cases h2 : j < gs.length
      · rw [List.getElem?_append_left h2] at hj
        exact h i j x hi hj
      · obtain rfl : j = gs.length := by omega
        simp at hj
        subst hj
        exact absurd hi (hno i)
    · obtain rfl : i = gs.length := by omega
      simp at hi
      subst hi
      by_cases h2 : j < gs.length
      · rw [List.getElem?_append_left h2] at hj
        exact absurd hj (hno j)
      · omega
theorem put_le (gs : List Gt) (g : Gt) : gs.length ≤ (putG gs g).length ∧ (putG gs g).length ≤ gs.length + 1 ∧ findG gs g < (putG gs g).length := by
  have := findG_le gs g
  unfold putG
  split
  · omega
  · simp; omega
structure OkP (gs : List Gt) (p : List Gt × Int) : Prop where
  g : gatesB 0 p.1 = true
  ap : Apart p.1
  lo : gs.length ≤ p.1.length
  hi : p.1.length ≤ gs.length + 1
  w : wireB p.1.length p.2 = true
theorem put_ok {gs : List Gt} {g : Gt} (h : gatesB 0 gs = true) (ha : Apart gs) (hg : gateB g gs.length = true) : OkP gs (put2 gs g) := by
  have hl := put_le gs g
  refine ⟨?_, apart_put ha g, hl.1, hl.2.1, wire_at hl.2.2⟩
  show gatesB 0 (putG gs g) = true
  unfold putG
  split
  · exact h
  · exact gatesB_snoc h hg
theorem same_ok {gs : List Gt} {w : Int} (h : gatesB 0 gs = true) (ha : Apart gs) (hw : wireB gs.length w = true) : OkP gs (gs, w) := ⟨h, ha, Nat.le_refl _, Nat.le_succ _, hw⟩
theorem gt_at {gs : List Gt} {w : Int} (hw : wireB gs.length w = true) : gs[w.toNat]? = some (gtAt gs w) := by
  have := wireB_iff.1 hw
  unfold gtAt
  rw [List.getD_eq_getElem?_getD, List.getElem?_eq_getElem (by omega)]
  rfl
theorem gt_ok {gs : List Gt} {w : Int} (h : gatesB 0 gs = true) (hw : wireB gs.length w = true) : gateB (gtAt gs w) w = true := by
  have h1 := gatesB_at h (gt_at hw)
  have := wireB_iff.1 hw
  rw [show ((0 + w.toNat : Nat) : Int) = w by omega] at h1
  exact h1
theorem gate_is2 {g : Gt} {n : Int} (h : gateB g n = true) (hk : g.k = 2) : (g.a = 0 ∨ g.a = 1) ∧ g.b = 0 := by
  unfold gateB at h
  rw [if_neg (by omega), if_pos hk] at h
  simp only [Bool.and_eq_true, inB_iff, beq_iff_eq] at h
  omega
theorem gate_is1 {g : Gt} {n : Int} (h : gateB g n = true) (hk : g.k = 1) : (0 ≤ g.a ∧ g.a ≤ 79) ∧ g.b = 0 := by
  unfold gateB at h
  rw [if_pos hk] at h
  simp only [Bool.and_eq_true, inB_iff, beq_iff_eq] at h
  omega
theorem gate_is5 {g : Gt} {n : Int} (h : gateB g n = true) (hk : g.k = 5) : (0 ≤ g.a ∧ g.a < n) ∧ g.b = 0 := by
  unfold gateB at h
  rw [if_neg (by omega), if_neg (by omega), if_neg (by omega), if_pos hk] at h
  simp only [Bool.and_eq_true, inB_iff, beq_iff_eq] at h
  omega
theorem gate_is34 {g : Gt} {n : Int} (h : gateB g n = true) (hk : g.k = 3 ∨ g.k = 4) : (0 ≤ g.a ∧ g.a < n) ∧ (0 ≤ g.b ∧ g.b < n) := by
  unfold gateB at h
  rw [if_neg (by omega), if_neg (by omega), if_pos hk] at h
  simp only [Bool.and_eq_true, inB_iff] at h
  omega
theorem gate_kind {g : Gt} {n : Int} (h : gateB g n = true) : g.k = 1 ∨ g.k = 2 ∨ g.k = 3 ∨ g.k = 4 ∨ g.k = 5 := by
  unfold gateB at h
  by_cases h1 : g.k = 1
  · exact .inl h1
  by_cases h2 : g.k = 2
  · exact .inr (.inl h2)
  by_cases h3 : g.k = 3 ∨ g.k = 4
  · rcases h3 with h3 | h3
    · exact .inr (.inr (.inl h3))
    · exact .inr (.inr (.inr (.inl h3)))
  by_cases h5 : g.k = 5
  · exact .inr (.inr (.inr (.inr h5)))
  rw [if_neg h1, if_neg h2, if_neg h3, if_neg h5] at h
  cases h
theorem neg_ok {gs : List Gt} {w : Int} (h : gatesB 0 gs = true) (ha : Apart gs) (hw : wireB gs.length w = true) : OkP gs (negG gs w) := by
  have hg := gt_ok h hw
  have hw' := wireB_iff.1 hw
  unfold negG
  by_cases h2 : (gtAt gs w).k = 2
  · rw [if_pos h2]
    have := gate_is2 hg h2
    exact put_ok h ha (gate2 (by omega))
  rw [if_neg h2]
  by_cases h5 : (gtAt gs w).k = 5
  · rw [if_pos h5]
    have := gate_is5 hg h5
    exact same_ok h ha (wireB_iff.2 (by omega))
  rw [if_neg h5]
  exact put_ok h ha (gate5 hw)
theorem half_ok {gs : List Gt} {k a b : Int} {o : List Gt × Int} (h : gatesB 0 gs = true) (ha : Apart gs) (hb : wireB gs.length b = true) (ho : OkP gs o) : OkP gs (halfG gs k a b o) := by
  unfold halfG
  split
  · exact same_ok h ha hb
  split
  · exact neg_ok h ha hb
  split
  · exact put_ok h ha (gate2 (.inl rfl))
  · exact ho
theorem bin_ok {gs : List Gt} {k a b : Int} (hk : k = 3 ∨ k = 4) (h : gatesB 0 gs = true) (ha : Apart gs) (wa : wireB gs.length a = true) (wb : wireB gs.length b = true) : OkP gs (binG gs k a b) := by
  unfold binG
  split
  · split
    · exact same_ok h ha wa
    · exact put_ok h ha (gate2 (.inl rfl))
  · refine half_ok h ha wb (half_ok h ha wa (put_ok h ha (gate3 hk ?_ ?_)))
    · have h1 := wireB_iff.1 wa
      have h2 := wireB_iff.1 wb
      exact wireB_iff.2 (by omega)
    · have h1 := wireB_iff.1 wa
      have h2 := wireB_iff.1 wb
      exact wireB_iff.2 (by omega)
/-- What holds after k gates of the first pass. -/
structure OkS (st : List Gt × List Int) (k : Nat) : Prop where
  g : gatesB 0 st.1 = true
  ap : Apart st.1
  hi : st.1.length ≤ k
  tl : st.2.length = k
  t : ∀ w ∈ st.2, wireB st.1.length w = true
theorem OkS.at_ {st : List Gt × List Int} {k : Nat} (h : OkS st k) {x : Int} (hx : 0 ≤ x ∧ x < k) : st.2[x.toNat]? = some (st.2.getD x.toNat 0) ∧ wireB st.1.length (st.2.getD x.toNat 0) = true := by
  have hl := h.tl
  have e : st.2[x.toNat]? = some (st.2.getD x.toNat 0) := by
    rw [List.getD_eq_getElem?_getD, List.getElem?_eq_getElem (by omega)]
    rfl
  exact ⟨e, h.t _ (List.mem_of_getElem? e)⟩
theorem simpP_ok {st : List Gt × List Int} {k : Nat} (h : OkS st k) {g : Gt} (hg : gateB g k = true) : OkP st.1 (simpP st.1 st.2 g) := by
  unfold simpP
  by_cases h34 : g.k = 3 ∨ g.k = 4
  · rw [if_pos h34]
    have := gate_is34 hg h34
    exact bin_ok h34 h.g h.ap (h.at_ this.1).2 (h.at_ this.2).2
  rw [if_neg h34]
  by_cases h5 : g.k = 5
  · rw [if_pos h5]
    exact neg_ok h.g h.ap (h.at_ (gate_is5 hg h5).1).2
  rw [if_neg h5]
  refine put_ok h.g h.ap ?_
  rcases gate_kind hg with h1 | h1 | h1 | h1 | h1
  · have := gate_is1 hg h1
    unfold gateB
    dsimp only
    rw [if_pos h1, inB_iff.2 (by omega)]
    rfl
  · have := gate_is2 hg h1
    rw [h1]
    exact gate2 (by omega)
  · exact absurd (.inl h1) h34
  · exact absurd (.inr h1) h34
  · exact absurd h1 h5
theorem simpS_ok {st : List Gt × List Int} {k : Nat} (h : OkS st k) {g : Gt} (hg : gateB g k = true) : OkS (simpS st g) (k + 1) := by
  have hp := simpP_ok h hg
  have hh := h.hi
  have hph := hp.hi
  refine ⟨hp.g, hp.ap, by show (simpP st.1 st.2 g).1.length ≤ _; omega, by simp [simpS, h.tl], fun w hw => ?_⟩
  rcases List.mem_append.1 hw with hw | hw
  · exact wireB_mono (h.t w hw) hp.lo
  · simp at hw
    subst hw
    exact hp.w
theorem simp_take {gs : List Gt} (h : gatesB 0 gs = true) : ∀ k, k ≤ gs.length → OkS (simpTo (gs.take k)) k
  | 0, _ => ⟨rfl, fun i j g hi => by simp [simpTo] at hi, Nat.le_refl _, rfl, fun w hw => by simp [simpTo] at hw⟩
  | k + 1, hk => by
    have hk' : k < gs.length := by omega
    rw [List.take_succ_eq_append_getElem hk', simpTo_snoc]
    have hg := gatesB_at h (List.getElem?_eq_getElem hk')
    rw [Nat.zero_add] at hg
    exact simpS_ok (simp_take h k (by omega)) hg
theorem simp_all {gs : List Gt} (h : gatesB 0 gs = true) : OkS (simpTo gs) gs.length := by
  have := simp_take h gs.length (Nat.le_refl _)
  rwa [List.take_length] at this
theorem circ_parts {gs : List Gt} {os : List Int} (h : circB gs os = true) : gs.length ≤ 6000 ∧ gatesB 0 gs = true ∧ outsB gs.length os = true := by
  unfold circB at h
  simp only [Bool.and_eq_true, decide_eq_true_eq] at h
  exact h
theorem circ_mk {gs : List Gt} {os : List Int} (h1 : gs.length ≤ 6000) (h2 : gatesB 0 gs = true) (h3 : outsB gs.length os = true) : circB gs os = true := by
  unfold circB
  rw [decide_eq_true h1, h2, h3]
  rfl
theorem outs_wire {n : Nat} {os : List Int} (h : outsB n os = true) : ∀ w ∈ os, wireB n w = true := fun w hw => List.all_eq_true.1 h w hw
theorem simp_valid {gs : List Gt} {os : List Int} (h : circB gs os = true) : circB (simpC gs os).1 (simpC gs os).2 = true := by
  obtain ⟨h1, h2, h3⟩ := circ_parts h
  have hs := simp_all h2
  unfold simpC
  rw [if_pos h]
  have hh := hs.hi
  refine circ_mk (by show (simpTo gs).1.length ≤ _; omega) hs.g ?_
  refine List.all_eq_true.2 fun w hw => ?_
  obtain ⟨x, hx, rfl⟩ := List.mem_map.1 hw
  have := wireB_iff.1 (outs_wire h3 x hx)
  exact (hs.at_ (by omega)).2
/-! ### the second pass gives valid gates -/
theorem liveP_length (g : Gt) (L : List Bool) : (liveP g L).length = L.length := by
  unfold liveP
  split
  · simp
  split
  · simp
  · rfl
theorem liveS_length (gs : List Gt) (L : List Bool) (i : Nat) : (liveS gs L i).length = L.length := by
  unfold liveS
  split
  · exact liveP_length _ _
  · rfl
theorem liveTo_length (gs : List Gt) : ∀ (i : Nat) (L : List Bool), (liveTo gs L i).length = L.length
  | 0, _ => rfl
  | i + 1, L => by rw [liveTo, liveTo_length gs i, liveS_length]
theorem live0_length (n : Nat) (os : List Int) : (live0 n os).length = n := by
  unfold live0
  have : ∀ (os : List Int) (L : List Bool), (os.foldl (fun L w => L.set w.toNat true) L).length = L.length := fun os => by
    induction os with
    | nil => intro L; rfl
    | cons w os ih => intro L; rw [List.foldl_cons, ih, List.length_set]
  rw [this, List.length_replicate]
theorem liveG_length (gs : List Gt) (os : List Int) : (liveG gs os).length = gs.length := by rw [liveG, liveTo_length, live0_length]
theorem set_true {L : List Bool} {i j : Nat} (h : L.getD j false = true) : (L.set i true).getD j false = true := by
  rw [List.getD_eq_getElem?_getD] at h ⊢
  rw [List.getElem?_set]
  split
  · next e =>
    subst e
    split
    · rfl
    · next hl =>
      rw [List.getElem?_eq_none (by omega)] at h
      cases h
  · exact h
theorem set_self {L : List Bool} {i : Nat} (h : i < L.length) : (L.set i true).getD i false = true := by
  rw [List.getD_eq_getElem?_getD, List.getElem?_set, if_pos rfl, if_pos h]
  rfl
theorem set_other {L : List Bool} {i j : Nat} (h : i ≠ j) : (L.set i true).getD j false = L.getD j false := by
  rw [List.getD_eq_getElem?_getD, List.getElem?_set, if_neg h, List.getD_eq_getElem?_getD]
theorem liveP_mono {g : Gt} {L : List Bool} {j : Nat} (h : L.getD j false = true) : (liveP g L).getD j false = true := by
  unfold liveP
  split
  · exact set_true (set_true h)
  split
  · exact set_true h
  · exact h
theorem liveS_mono {gs : List Gt} {L : List Bool} {i j : Nat} (h : L.getD j false = true) : (liveS gs L i).getD j false = true := by
  unfold liveS
  split
  · exact liveP_mono h
  · exact h
theorem liveTo_mono (gs : List Gt) : ∀ (i : Nat) {L : List Bool} {j : Nat}, L.getD j false = true → (liveTo gs L i).getD j false = true
  | 0, _, _, h => h
  | i + 1, _, _, h => liveTo_mono gs i (liveS_mono h)
/-- A live gate's own wires are live. -/
def Fed (gs : List Gt) (L : List Bool) (i : Nat) : Prop := ∀ g, gs[i]? = some g → L.getD i false = true →
  ((g.k = 3 ∨ g.k = 4) → L.getD g.a.toNat false = true ∧ L.getD g.b.toNat false = true) ∧ (g.k = 5 → L.getD g.a.toNat false = true)
theorem liveS_far {gs : List Gt} {L : List Bool} {i j : Nat} (h : gatesB 0 gs = true) (hij : i ≤ j) : (liveS gs L i).getD j false = L.getD j false := by
  unfold liveS
  split
  · by_cases hl : i < gs.length
    · have hg := gatesB_at h (List.getElem?_eq_getElem hl)
      have e : gs.getD i ⟨0, 0, 0⟩ = gs[i] := by rw [List.getD_eq_getElem?_getD, List.getElem?_eq_getElem hl]; rfl
      rw [Nat.zero_add] at hg
      rw [e]
      unfold liveP
      split
      · next hk =>
        have := gate_is34 hg hk
        rw [set_other (by omega), set_other (by omega)]
      split
      · next hk =>
        have := gate_is5 hg hk
        rw [set_other (by omega)]
      · rfl
    · have e : gs.getD i ⟨0, 0, 0⟩ = ⟨0, 0, 0⟩ := by rw [List.getD_eq_getElem?_getD, List.getElem?_eq_none (by omega)]; rfl
      rw [e]
      rfl
  · rfl
theorem liveS_fed {gs : List Gt} {L : List Bool} {i : Nat} (h : gatesB 0 gs = true) (hL : L.length = gs.length) : Fed gs (liveS gs L i) i := by
  intro g hg hl
  rw [liveS_far h (Nat.le_refl _)] at hl
  have hv := gatesB_at h hg
  have hi := (List.getElem?_eq_some_iff.1 hg).1
  rw [Nat.zero_add] at hv
  have e : gs.getD i ⟨0, 0, 0⟩ = g := by rw [List.getD_eq_getElem?_getD, hg]; rfl
  unfold liveS
  rw [if_pos hl, e]
  unfold liveP
  refine ⟨fun hk => ?_, fun hk => ?_⟩
  · have := gate_is34 hv hk
    rw [if_pos hk]
    exact ⟨set_true (set_self (by omega)), set_self (by rw [List.length_set]; omega)⟩
  · have := gate_is5 hv hk
    rw [if_neg (by omega), if_pos hk]
    exact set_self (by omega)
theorem fed_mono {gs : List Gt} {L L' : List Bool} {i : Nat} (h : Fed gs L i) (he : L'.getD i false = L.getD i false) (hm : ∀ j, L.getD j false = true → L'.getD j false = true) : Fed gs L' i := by
  intro g hg hl
  rw [he] at hl
  obtain ⟨h1, h2⟩ := h g hg hl
  exact ⟨fun hk => ⟨hm _ (h1 hk).1, hm _ (h1 hk).2⟩, fun hk => hm _ (h2 hk)⟩
theorem liveTo_fed {gs : List Gt} (h : gatesB 0 gs = true) : ∀ (i : Nat) {L : List Bool}, L.length = gs.length → (∀ j, i ≤ j → Fed gs L j) → ∀ j, Fed gs (liveTo gs L i) j
  | 0, _, _, hf => fun j => hf j (Nat.zero_le _)
  | i + 1, L, hL, hf => by
    refine liveTo_fed h i (by rw [liveS_length, hL]) fun j hj => ?_
    by_cases e : j = i
    · subst e
      exact liveS_fed h hL
    · exact fed_mono (hf j (by omega)) (liveS_far h hj) (fun _ h => liveS_mono h)
theorem liveG_fed {gs : List Gt} (h : gatesB 0 gs = true) (os : List Int) : ∀ j, Fed gs (liveG gs os) j := by
  refine liveTo_fed h _ (live0_length _ _) fun j hj => ?_
  intro g hg
  have := (List.getElem?_eq_some_iff.1 hg).1
  omega
theorem live0_out {n : Nat} {os : List Int} (h : outsB n os = true) : ∀ w ∈ os, (live0 n os).getD w.toNat false = true := by
  have key : ∀ (os : List Int) (L : List Bool), L.length = n → (∀ w ∈ os, wireB n w = true) → (∀ j, L.getD j false = true → (os.foldl (fun L w => L.set w.toNat true) L).getD j false = true) ∧ ∀ w ∈ os, (os.foldl (fun L w => L.set w.toNat true) L).getD w.toNat false = true := fun os => by
    induction os with
    | nil => intro L _ _; exact ⟨fun _ h => h, fun w hw => by cases hw⟩
    | cons x os ih =>
      intro L hL hw
      have hx := wireB_iff.1 (hw x (by simp))
      obtain ⟨i1, i2⟩ := ih (L.set x.toNat true) (by rw [List.length_set, hL]) fun w hw' => hw w (by simp [hw'])
      rw [List.foldl_cons]
      refine ⟨fun j hj => i1 j (set_true hj), fun w hw' => ?_⟩
      rcases List.mem_cons.1 hw' with rfl | hw'
      · exact i1 _ (set_self (by omega))
      · exact i2 w hw'
  exact (key os _ (List.length_replicate ..) (outs_wire h)).2
theorem liveG_out {gs : List Gt} {os : List Int} (h : outsB gs.length os = true) : ∀ w ∈ os, (liveG gs os).getD w.toNat false = true := fun w hw => liveTo_mono gs _ (live0_out h w hw)
structure OkR (gs : List Gt) (L : List Bool) (st : List Gt × List Int) (k : Nat) : Prop where
  g : gatesB 0 st.1 = true
  hi : st.1.length ≤ k
  tl : st.2.length = gs.length
  t : ∀ i, i < k → L.getD i false = true → wireB st.1.length (st.2.getD i 0) = true
theorem reG_ok {gs : List Gt} {L : List Bool} {st : List Gt × List Int} {k : Nat} {g : Gt} (h : OkR gs L st k) (hf : Fed gs L k) (hg : gs[k]? = some g) (hv : gateB g k = true) (hl : L.getD k false = true) : gateB (reG st.2 g) st.1.length = true := by
  obtain ⟨f1, f2⟩ := hf g hg hl
  unfold reG
  by_cases h34 : g.k = 3 ∨ g.k = 4
  · have hw := gate_is34 hv h34
    rw [if_pos h34]
    exact gate3 h34 (h.t _ (by omega) (f1 h34).1) (h.t _ (by omega) (f1 h34).2)
  rw [if_neg h34]
  by_cases h5 : g.k = 5
  · have hw := gate_is5 hv h5
    rw [if_pos h5, h5, hw.2]
    exact gate5 (h.t _ (by omega) (f2 h5))
  rw [if_neg h5]
  unfold gateB at hv ⊢
  rw [if_neg h34, if_neg h5] at hv ⊢
  exact hv
theorem prS_ok {gs : List Gt} {L : List Bool} {st : List Gt × List Int} {k : Nat} (h : OkR gs L st k) (hgs : gatesB 0 gs = true) (hf : Fed gs L k) (hk : k < gs.length) : OkR gs L (prS gs L st k) (k + 1) := by
  have hv := gatesB_at hgs (List.getElem?_eq_getElem hk)
  rw [Nat.zero_add] at hv
  have e : gs.getD k ⟨0, 0, 0⟩ = gs[k] := by rw [List.getD_eq_getElem?_getD, List.getElem?_eq_getElem hk]; rfl
  have hhi := h.hi
  have htl := h.tl
  unfold prS
  split
  · next hl =>
    rw [e]
    refine ⟨gatesB_snoc h.g (reG_ok h hf (List.getElem?_eq_getElem hk) hv hl), by simp; omega, by simp [htl], fun i hi hLi => ?_⟩
    show wireB (st.1 ++ _).length ((st.2.set k _).getD i 0) = true
    rw [List.length_append, List.length_singleton, List.getD_eq_getElem?_getD, List.getElem?_set]
    split
    · next e =>
      subst e
      rw [if_pos (by omega)]
      exact wire_at (by omega)
    · rw [← List.getD_eq_getElem?_getD]
      exact wireB_mono (h.t i (by omega) hLi) (by omega)
  · next hl =>
    refine ⟨h.g, by omega, htl, fun i hi hLi => ?_⟩
    by_cases e : i = k
    · subst e
      exact absurd hLi hl
    · exact h.t i (by omega) hLi
theorem prTo_ok {gs : List Gt} {L : List Bool} (hgs : gatesB 0 gs = true) (hf : ∀ j, Fed gs L j) : ∀ k, k ≤ gs.length → OkR gs L (prTo gs L k) k
  | 0, _ => ⟨rfl, Nat.le_refl _, by simp [prTo], fun i hi => by omega⟩
  | k + 1, hk => prS_ok (prTo_ok hgs hf k (by omega)) hgs (hf k) (by omega)
theorem prun_valid {gs : List Gt} {os : List Int} (h : circB gs os = true) : circB (prunC gs os).1 (prunC gs os).2 = true := by
  obtain ⟨h1, h2, h3⟩ := circ_parts h
  have hr := prTo_ok h2 (liveG_fed h2 os) gs.length (Nat.le_refl _)
  unfold prunC
  rw [if_pos h]
  have hh := hr.hi
  refine circ_mk (by show (prTo gs (liveG gs os) gs.length).1.length ≤ _; omega) hr.g ?_
  refine List.all_eq_true.2 fun w hw => ?_
  obtain ⟨x, hx, rfl⟩ := List.mem_map.1 hw
  have := wireB_iff.1 (outs_wire h3 x hx)
  exact hr.t _ (by omega) (liveG_out h3 x hx)
theorem opt_valid {gs : List Gt} {os : List Int} (h : circB gs os = true) : circB (optC gs os).1 (optC gs os).2 = true := prun_valid (simp_valid h)
end Go.Proofs.Ytihbaieiempjeaa
/- The two passes never add a product. No program is named here. -/
namespace Go.Proofs.Ytihbaieiempjeaa

def andG (gs : List Gt) : Nat := (gs.filter (fun g => g.k == 4)).length
def andOne (g : Gt) : Nat := if (g.k == 4) = true then 1 else 0
theorem andG_snoc (gs : List Gt) (g : Gt) : andG (gs ++ [g]) = andG gs + andOne g := by
  unfold andG andOne
  rw [List.filter_append, List.length_append]
  cases hk : (g.k == 4) <;> simp [List.filter, hk]
theorem andOne_not {g : Gt} (h : g.k ≠ 4) : andOne g = 0 := by
  unfold andOne
  rw [if_neg (by simpa using h)]
theorem and_put (gs : List Gt) (g : Gt) : andG (put2 gs g).1 ≤ andG gs + andOne g := by
  unfold put2 putG
  dsimp only
  split
  · omega
  · rw [andG_snoc]; omega
theorem and_put0 (gs : List Gt) {g : Gt} (h : g.k ≠ 4) : andG (put2 gs g).1 ≤ andG gs := by
  have := and_put gs g
  rw [andOne_not h] at this
  exact this
theorem and_neg (gs : List Gt) (w : Int) : andG (negG gs w).1 ≤ andG gs := by
  unfold negG
  split
  · exact and_put0 gs (show (2 : Int) ≠ 4 by decide)
  · split
    · exact Nat.le_refl _
    · exact and_put0 gs (show (5 : Int) ≠ 4 by decide)
theorem and_half {gs : List Gt} {k a b : Int} {o : List Gt × Int} {n : Nat} (h : andG gs ≤ n) (ho : andG o.1 ≤ n) : andG (halfG gs k a b o).1 ≤ n := by
  unfold halfG
  split
  · exact h
  · split
    · exact Nat.le_trans (and_neg gs b) h
    · split
      · exact Nat.le_trans (and_put0 gs (show (2 : Int) ≠ 4 by decide)) h
      · exact ho
theorem and_bin (gs : List Gt) (k a b : Int) : andG (binG gs k a b).1 ≤ andG gs + (if (k == 4) = true then 1 else 0) := by
  unfold binG
  split
  · split
    · exact Nat.le_add_right _ _
    · exact Nat.le_trans (and_put0 gs (show (2 : Int) ≠ 4 by decide)) (Nat.le_add_right _ _)
  · exact and_half (Nat.le_add_right _ _) (and_half (Nat.le_add_right _ _) (and_put gs ⟨k, min a b, max a b⟩))
theorem and_simpP (gs : List Gt) (tw : List Int) (g : Gt) : andG (simpP gs tw g).1 ≤ andG gs + andOne g := by
  unfold simpP
  split
  · exact and_bin gs g.k _ _
  · split
    · exact Nat.le_trans (and_neg gs _) (Nat.le_add_right _ _)
    · rename_i h1 h2
      exact Nat.le_trans (and_put0 gs (show (⟨g.k, g.a, 0⟩ : Gt).k ≠ 4 from fun h => h1 (.inr h))) (Nat.le_add_right _ _)
theorem and_fold : ∀ (gs : List Gt) (st : List Gt × List Int), andG (gs.foldl simpS st).1 ≤ andG st.1 + andG gs
  | [], st => by simp [andG]
  | g :: r, st => by
    have h1 := and_fold r (simpS st g)
    have h2 := and_simpP st.1 st.2 g
    have h3 : andG (g :: r) = andOne g + andG r := by
      unfold andG andOne
      cases hk : (g.k == 4) <;> simp [List.filter, hk] <;> omega
    rw [List.foldl_cons, h3]
    have h4 : (simpS st g).1 = (simpP st.1 st.2 g).1 := rfl
    rw [h4] at h1
    omega
theorem and_simp (gs : List Gt) (os : List Int) : andG (simpC gs os).1 ≤ andG gs := by
  unfold simpC
  split
  · have := and_fold gs ([], [])
    simpa [andG, simpTo] using this
  · exact Nat.le_refl _
theorem re_kind (tw : List Int) (g : Gt) : (reG tw g).k = g.k := by
  unfold reG
  split
  · rfl
  · split <;> rfl
theorem and_prTo (gs : List Gt) (L : List Bool) : ∀ j, j ≤ gs.length → andG (prTo gs L j).1 ≤ andG (gs.take j)
  | 0, _ => by simp [prTo, andG]
  | j + 1, hj => by
    have h := and_prTo gs L j (by omega)
    have hl : j < gs.length := by omega
    have e1 : gs.take (j + 1) = gs.take j ++ [gs[j]] := List.take_succ_eq_append_getElem hl
    have e2 : gs.getD j ⟨0, 0, 0⟩ = gs[j] := by rw [List.getD_eq_getElem?_getD, List.getElem?_eq_getElem hl]; rfl
    show andG (prS gs L (prTo gs L j) j).1 ≤ _
    rw [e1, andG_snoc]
    unfold prS
    split
    · rw [e2, andG_snoc]
      have : andOne (reG (prTo gs L j).2 gs[j]) = andOne gs[j] := by unfold andOne; rw [re_kind]
      omega
    · omega
theorem and_prun (gs : List Gt) (os : List Int) : andG (prunC gs os).1 ≤ andG gs := by
  unfold prunC
  split
  · have := and_prTo gs (liveG gs os) gs.length (Nat.le_refl _)
    rwa [List.take_length] at this
  · exact Nat.le_refl _
theorem and_opt (gs : List Gt) (os : List Int) : andG (optC gs os).1 ≤ andG gs := Nat.le_trans (and_prun _ _) (and_simp gs os)
end Go.Proofs.Ytihbaieiempjeaa
