import Derived.Test.YtihbaieiempjeaaLab
import Derived.Test.YtihbaieiempjeaaOpt
/- What garbling computes: a zero label a gate, two table rows a product. No program is named here. -/
namespace Go.Proofs.Ytihbaieiempjeaa
open Go.RowKit

def hashI (x n : Int) : Int := keyedI 77 n x % 65536
def ifI (b x : Int) : Int := pick (b == 1) x 0
def xorI (a b : Int) : Int := bits .xor .i64 a b
def oneI (a : Int) : Int := bits .and .i64 a 1
/-- The first table row of a product of the wires whose zero labels are a and b, at gate n. -/
def tgI (d a b n : Int) : Int := xorI (xorI (hashI a (2 * n)) (hashI (xorI a d) (2 * n))) (ifI (oneI b) d)
def teI (d a b n : Int) : Int := xorI (xorI (hashI b (2 * n + 1)) (hashI (xorI b d) (2 * n + 1))) a
def gaI (d a b n : Int) : Int := xorI (xorI (xorI (hashI a (2 * n)) (hashI b (2 * n + 1))) (ifI (oneI a) (tgI d a b n))) (ifI (oneI b) (xorI (teI d a b n) a))
/-- A gate's zero label, and its table rows. -/
def garZ (s d : Int) (zs : List Int) (n : Nat) (g : Gt) : Int :=
  if g.k = 1 then zeroI s g.a
  else if g.k = 2 then zeroI s (1000 + n)
  else if g.k = 3 then xorI (zs.getD g.a.toNat 0) (zs.getD g.b.toNat 0)
  else if g.k = 5 then xorI (zs.getD g.a.toNat 0) d
  else gaI d (zs.getD g.a.toNat 0) (zs.getD g.b.toNat 0) n
def garT (d : Int) (zs : List Int) (n : Nat) (g : Gt) : List Int :=
  if (g.k == 4) = true then [tgI d (zs.getD g.a.toNat 0) (zs.getD g.b.toNat 0) n, teI d (zs.getD g.a.toNat 0) (zs.getD g.b.toNat 0) n] else []
def garTo (s d : Int) (gs : List Gt) : Nat → List Int × List Int
  | 0 => ([], [])
  | j + 1 => ((garTo s d gs j).1 ++ [garZ s d (garTo s d gs j).1 j (gs.getD j ⟨0, 0, 0⟩)], (garTo s d gs j).2 ++ garT d (garTo s d gs j).1 j (gs.getD j ⟨0, 0, 0⟩))
theorem gar_zeros (s d : Int) (gs : List Gt) : ∀ j, (garTo s d gs j).1.length = j
  | 0 => rfl
  | j + 1 => by rw [garTo, List.length_append, gar_zeros s d gs j]; rfl
theorem garT_length (d : Int) (zs : List Int) (n : Nat) (g : Gt) : (garT d zs n g).length = 2 * andOne g := by
  unfold garT andOne
  split <;> rfl
theorem gar_tables (s d : Int) (gs : List Gt) : ∀ j, j ≤ gs.length → (garTo s d gs j).2.length = 2 * andG (gs.take j)
  | 0, _ => rfl
  | j + 1, hj => by
    have hl : j < gs.length := by omega
    have e1 : gs.take (j + 1) = gs.take j ++ [gs[j]] := List.take_succ_eq_append_getElem hl
    have e2 : gs.getD j ⟨0, 0, 0⟩ = gs[j] := by rw [List.getD_eq_getElem?_getD, List.getElem?_eq_getElem hl]; rfl
    rw [garTo, List.length_append, garT_length, gar_tables s d gs j (by omega), e1, andG_snoc, e2]
    omega
end Go.Proofs.Ytihbaieiempjeaa
/- Hashes of labels, in the reference. -/
namespace Go.Proofs.Ytihbaieiempjeaa
open Go.RowKit

theorem hash_and (x n : Int) : bits .and .i64 (keyedI 77 n x) 65535 = hashI x n := by
  obtain ⟨h0, h1⟩ := keyedI_range 77 n x
  obtain ⟨k, hk⟩ := Int.eq_ofNat_of_zero_le h0
  unfold hashI
  rw [hk] at h1 ⊢
  rw [show (65535 : Int) = ((65535 : Nat) : Int) from rfl, and_nat k 65535 (by omega) (by omega), show (65535 : Nat) = 2 ^ 16 - 1 from rfl, Nat.and_two_pow_sub_one_eq_mod]
  omega
theorem hash_label (x n : Int) : labelB (hashI x n) = true := by
  obtain ⟨h0, h1⟩ := keyedI_range 77 n x
  unfold hashI
  exact labelB_iff.2 (by omega)
theorem sHash (x n : Int) (w : World) (hx : labelB x = true) (hn : inB n 0 1000000 = true) :
    Calls Try.prog 34 #[.int .i64 x, .int .i64 n] w fun e w' => e = .returned (.int .i64 (hashI x n)) ∧ w = w' := by
  have hh := hash_and x n
  go_enter Try.func34, Try.ntmps34
  go_wp2_with first | (go_at_call 61; refine (sIsLabel _ _).mono ?_; rintro e w' ⟨rfl, rfl⟩) | (go_at_call 57; refine (sWithin _ _ _ _).mono ?_; rintro e w' ⟨rfl, rfl⟩) | (go_at_call 62; refine (sKeyed _ _ _ _).mono ?_; rintro e w' ⟨rfl, rfl⟩)
  go_ret
  exact ⟨rfl, rfl⟩
theorem sIf (b x : Int) (w : World) : Calls Try.prog 35 #[.int .i64 b, .int .i64 x] w fun e w' => e = .returned (.int .i64 (ifI b x)) ∧ w = w' := by
  cases h : (b == 1)
  · have hv : ifI b x = 0 := by unfold ifI; rw [h]; rfl
    rw [hv]
    go_enter Try.func35, Try.ntmps35
    go_wp2
    go_ret
    exact ⟨rfl, rfl⟩
  · have hv : ifI b x = x := by unfold ifI; rw [h]; rfl
    rw [hv]
    go_enter Try.func35, Try.ntmps35
    go_wp2
    go_ret
    exact ⟨rfl, rfl⟩
end Go.Proofs.Ytihbaieiempjeaa
/- Labels are labels: what garbling computes stays in range. No program is named here. -/
namespace Go.Proofs.Ytihbaieiempjeaa
open Go.RowKit

theorem xorI_label {a b : Int} (ha : labelB a = true) (hb : labelB b = true) : labelB (xorI a b) = true := xor_label ha hb
theorem zero_lab : labelB 0 = true := by decide
theorem ifI_label {b x : Int} (hx : labelB x = true) : labelB (ifI b x) = true := by
  unfold ifI
  cases (b == 1)
  · exact zero_lab
  · exact hx
theorem tg_label {d a b : Int} (n : Int) (hd : labelB d = true) : labelB (tgI d a b n) = true := xorI_label (xorI_label (hash_label _ _) (hash_label _ _)) (ifI_label hd)
theorem te_label {d a b : Int} (n : Int) (ha : labelB a = true) : labelB (teI d a b n) = true := xorI_label (xorI_label (hash_label _ _) (hash_label _ _)) ha
theorem ga_label {d a b : Int} (n : Int) (hd : labelB d = true) (ha : labelB a = true) : labelB (gaI d a b n) = true :=
  xorI_label (xorI_label (xorI_label (hash_label _ _) (hash_label _ _)) (ifI_label (tg_label n hd))) (ifI_label (xorI_label (te_label n ha) ha))
theorem getD_label {zs : List Int} (h : ∀ z ∈ zs, labelB z = true) (i : Nat) : labelB (zs.getD i 0) = true := by
  rw [List.getD_eq_getElem?_getD]
  cases hx : zs[i]? with
  | none => exact zero_lab
  | some z => exact h z (List.mem_of_getElem? hx)
theorem garZ_label {s d : Int} {zs : List Int} (n : Nat) (g : Gt) (hd : labelB d = true) (h : ∀ z ∈ zs, labelB z = true) : labelB (garZ s d zs n g) = true := by
  unfold garZ
  split
  · exact zero_label _ _
  · split
    · exact zero_label _ _
    · split
      · exact xorI_label (getD_label h _) (getD_label h _)
      · split
        · exact xorI_label (getD_label h _) hd
        · exact ga_label _ hd (getD_label h _)
theorem gar_labels {s d : Int} (gs : List Gt) (hd : labelB d = true) : ∀ j, ∀ z ∈ (garTo s d gs j).1, labelB z = true
  | 0, z, hz => by simp [garTo] at hz
  | j + 1, z, hz => by
    rw [garTo, List.mem_append, List.mem_singleton] at hz
    rcases hz with hz | rfl
    · exact gar_labels gs hd j z hz
    · exact garZ_label _ _ hd (gar_labels gs hd j)
theorem garT_labels {d : Int} {zs : List Int} (n : Nat) (g : Gt) (hd : labelB d = true) (h : ∀ z ∈ zs, labelB z = true) : ∀ t ∈ garT d zs n g, labelB t = true := by
  unfold garT
  split
  · intro t ht
    rw [List.mem_cons, List.mem_singleton] at ht
    rcases ht with rfl | rfl
    · exact tg_label _ hd
    · exact te_label _ (getD_label h _)
  · intro t ht
    cases ht
theorem gar_tlabels {s d : Int} (gs : List Gt) (hd : labelB d = true) : ∀ j, ∀ t ∈ (garTo s d gs j).2, labelB t = true
  | 0, z, hz => by simp [garTo] at hz
  | j + 1, z, hz => by
    rw [garTo, List.mem_append] at hz
    rcases hz with hz | hz
    · exact gar_tlabels gs hd j z hz
    · exact garT_labels _ _ hd (gar_labels gs hd j) z hz
end Go.Proofs.Ytihbaieiempjeaa
