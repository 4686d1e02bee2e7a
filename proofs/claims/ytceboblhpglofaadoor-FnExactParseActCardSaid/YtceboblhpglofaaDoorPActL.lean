/- ParseAct, in the program: what its walks share. -/
import Derived.Test.YtceboblhpglofaaDoorSplit
import Derived.Test.YtceboblhpglofaaDoorKmap
import Derived.Test.YtceboblhpglofaaDoorActP
namespace Go.Proofs.YtceboblhpglofaaDoor
open Go.RowKit

theorem pa_no1 {x : List UInt8} {ws : List (List UInt8)} {k : Nat} {y : List UInt8} (h : ws[k]? = some y) (hy : puB y = false) : paB (x :: ws) = false := by
  have h1 : ws.all puB = false := by
    rw [List.all_eq_false]
    exact ⟨y, List.mem_of_getElem? h, by simp [hy]⟩
  simp only [paB, h1, Bool.false_and]
theorem pa_no2 {x : List UInt8} {ws : List (List UInt8)} (h : nfOf x < ws.length) : paB (x :: ws) = false := by
  have h1 : decide (ws.length ≤ nfOf x) = false := decide_eq_false (by omega)
  simp only [paB, h1, Bool.and_false, Bool.false_and]
theorem pa_end {x : List UInt8} {ws : List (List UInt8)} (h1 : ws.all puB = true) (h2 : ws.length ≤ nfOf x) : paB (x :: ws) = (actOkB (kdOf x) (aI x ws) (aD x ws) (aN x ws) && decide (actTxt (kdOf x) (aI x ws) (aD x ws) (aN x ws) = Lib.join (x :: ws) [32])) := by
  simp only [paB, h1, decide_eq_true h2, Bool.true_and]
theorem pa_yes {x : List UInt8} {ws : List (List UInt8)} (h : paB (x :: ws) = true) : paV (x :: ws) = .agg #[.int .i64 (kdOf x), .int .i64 (aI x ws), .int .i64 (aD x ws), .int .i64 (aN x ws)] := by
  simp only [paV, h, if_true]
theorem all_snoc {f : List UInt8 → Bool} {l : List (List UInt8)} {k : Nat} {x : List UInt8} (h : l[k]? = some x) (ha : (l.take k).all f = true) (hx : f x = true) : (l.take (k + 1)).all f = true := by
  rw [List.take_add_one, h, List.all_append, ha]
  simp [hx]
theorem gN_at {ws : List (List UInt8)} {k : Nat} {y : List UInt8} (h : ws[k]? = some y) : gN ws k = puN y := by
  unfold gN
  rw [List.getD_eq_getElem?_getD, h]
  rfl
theorem gN_out {ws : List (List UInt8)} {k : Nat} (h : ws.length ≤ k) : gN ws k = 0 := by
  unfold gN
  rw [List.getD_eq_getElem?_getD, List.getElem?_eq_none h]
  exact puN_nil
theorem kd_fun (x : List UInt8) : (if x = wCrash then 4 else if x = wRes then 3 else if x = wStep then 2 else if x = wAdd then 1 else 0 : Int) = kdOf x := rfl
theorem len_flds {l : List UInt8} : ∀ y ∈ flds l, y.length ≤ l.length := by
  have h : ∀ l : List UInt8, ∀ y ∈ spl l, y.length ≤ l.length := by
    intro l
    induction l with
    | nil => intro y hy; simp [spl] at hy; subst hy; simp
    | cons b r ih =>
      intro y hy
      by_cases hb : b = 32
      · subst hb
        rw [spl_space, List.mem_cons] at hy
        rcases hy with rfl | hy
        · simp
        · have := ih y hy
          simp
          omega
      · obtain ⟨h2, t2, e2⟩ : ∃ h2 t2, spl r = h2 :: t2 := by
          cases hs : spl r with
          | nil => exact absurd hs (spl_ne r)
          | cons a b => exact ⟨a, b, rfl⟩
        rw [spl_other hb e2, List.mem_cons] at hy
        rw [e2] at ih
        rcases hy with rfl | hy
        · have := ih h2 (by simp)
          simp
          omega
        · have := ih y (by simp [hy])
          simp
          omega
  intro y hy
  unfold flds at hy
  exact h l y (List.mem_filter.1 hy).1
theorem joinTail_len (M : Nat) : ∀ L : List (List UInt8), (∀ y ∈ L, y.length ≤ M) → (Lib.joinTail [32] L).length ≤ L.length * (M + 1)
  | [], _ => by simp [Lib.joinTail]
  | y :: r, h => by
    have ih := joinTail_len M r (fun z hz => h z (by simp [hz]))
    have h1 := h y (by simp)
    rw [joinTail_cons]
    simp only [List.length_cons, List.length_append, Nat.add_mul, Nat.one_mul]
    omega
theorem iJoin (L : List (List UInt8)) (n g c base : Nat) (w : World) (ho : w.ownsRow base 9 1 (.slice (some ⟨g, 0, none⟩) n c) n (strs L)) (hn : L.length = n) (h24 : n ≤ 24) (hl : ∀ y ∈ L, y.length ≤ 1048576) :
    Calls Tryd.prog 18 #[.slice (some ⟨g, 0, none⟩) n c, .string ⟨#[32]⟩] w fun e w' => e = .returned (.string ⟨(Lib.join L [32]).toArray⟩) ∧ Below w.heap.size w w' := by
  subst hn
  have hm : (L.map (fun y => (ByteArray.mk y.toArray))).map (·.data.toList) = L := by
    rw [List.map_map]
    conv => rhs; rw [← List.map_id L]
    exact List.map_congr_left (fun y _ => rfl)
  cases L with
  | nil =>
    have h := Tryd.strings_Join_none (some ⟨g, 0, none⟩) c ⟨#[32]⟩ w
    refine h.mono ?_
    rintro e w2 ⟨rfl, rfl⟩
    exact ⟨rfl, Below.refl _ _⟩
  | cons a u =>
    obtain ⟨g2, e2, h0, h1, hc⟩ := own_at ho (by simp)
    injection e2 with e2
    injection e2 with e2
    subst e2
    have h := Tryd.strings_Join g 0 c ((a :: u).map (fun y => (ByteArray.mk y.toArray))) ⟨#[32]⟩ w (fun j x hx => by
      rw [Nat.zero_add]
      refine hc j _ ?_
      rw [List.getElem?_map] at hx
      obtain ⟨y, hy, rfl⟩ := Option.map_eq_some_iff.1 hx
      exact (strs_get hy)) h1 (by rw [List.length_map]; omega) (by rw [List.length_map]; exact own_cap' ho) (by
        rw [hm]
        have h2 := joinTail_len 1048576 u (fun z hz => hl z (by simp [hz]))
        have h3 := hl a (by simp)
        rw [Lib.join_cons]
        simp only [List.length_append]
        have h4 : (a :: u).length = u.length + 1 := rfl
        omega)
    rw [hm, List.length_map] at h
    exact h
end Go.Proofs.YtceboblhpglofaaDoor
