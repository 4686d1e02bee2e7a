/- Plain functions: fields, tapes, messages. No program is named here. -/
import Derived.Test.YtihbaieiempjeaaPlain
namespace Go.Proofs.Ytihbaieiempjeaa
open Go.RowKit

theorem int_lt_ge (a b : Int) : a < b ∨ b ≤ a := by omega
/-! ### Fields -/
def noDiv (p n : Int) : Prop := ∀ d, 2 ≤ d → d < n → p % d ≠ 0
def fieldP (p : Int) : Prop := 2 ≤ p ∧ p ≤ 101 ∧ noDiv p p
noncomputable def fieldOkB (p : Int) : Bool := @decide (fieldP p) (Classical.propDecidable _)
theorem fieldOkB_iff {p : Int} : fieldOkB p = true ↔ fieldP p := by
  unfold fieldOkB
  exact @decide_eq_true_iff (fieldP p) (Classical.propDecidable _)
theorem fieldOkB_no {p : Int} : fieldOkB p = false ↔ ¬ fieldP p := by
  unfold fieldOkB
  exact @decide_eq_false_iff_not (fieldP p) (Classical.propDecidable _)
theorem noDiv_two (p : Int) : noDiv p 2 := fun d h1 h2 => by omega
theorem noDiv_succ {p d : Int} (h : noDiv p d) (hd : p % d ≠ 0) : noDiv p (d + 1) := fun e h1 h2 => by
  by_cases he : e = d
  · subst he; exact hd
  · exact h e h1 (by omega)
theorem field_no_div {p d : Int} (h1 : 2 ≤ d) (h2 : d < p) (h : p % d = 0) : fieldOkB p = false := by
  rw [fieldOkB_no]
  rintro ⟨_, _, hn⟩
  exact hn d h1 h2 h
theorem field_no_in {p : Int} (h : inB p 2 101 = false) : fieldOkB p = false := by
  rw [fieldOkB_no]
  rintro ⟨h1, h2, _⟩
  exact (inB_no.1 h) ⟨h1, h2⟩
theorem field_yes {p d : Int} (h : inB p 2 101 = true) (hn : noDiv p d) (hd : p ≤ d) : fieldOkB p = true := by
  rw [fieldOkB_iff]
  obtain ⟨h1, h2⟩ := inB_iff.1 h
  exact ⟨h1, h2, fun e a b => hn e a (by omega)⟩
/-- Trial division up to the root is enough. -/
theorem field_root {p d : Int} (h : inB p 2 101 = true) (hn : noDiv p d) (hd : p < d * d) (h2d : 2 ≤ d) : fieldOkB p = true := by
  rw [fieldOkB_iff]
  obtain ⟨h1, h2⟩ := inB_iff.1 h
  refine ⟨h1, h2, fun e a b hz => ?_⟩
  have hm : e * (p / e) = p := Int.mul_ediv_cancel' (Int.dvd_of_emod_eq_zero hz)
  by_cases he : e < d
  · exact hn e a he hz
  · have hq0 : 0 < p / e := by
      rcases int_lt_ge 0 (p / e) with h | h
      · exact h
      · have : e * (p / e) ≤ 0 := Int.mul_nonpos_of_nonneg_of_nonpos (by omega) h
        omega
    have hq1 : p / e ≠ 1 := by
      intro h
      rw [h] at hm
      omega
    have hq2 : p / e < d := by
      rcases int_lt_ge (p / e) d with h | h
      · exact h
      · have h3 : d * d ≤ e * (p / e) := Int.mul_le_mul (by omega) h (by omega) (by omega)
        omega
    refine hn (p / e) (by omega) hq2 ?_
    have : p % (p / e) = (e * (p / e)) % (p / e) := by rw [hm]
    rw [this]
    exact Int.mul_emod_left _ _
noncomputable def elemB (p a : Int) : Bool := fieldOkB p && inB a 0 (p - 1)
noncomputable def addI (p a b : Int) : Int := pick (elemB p a && elemB p b) ((a + b) % p) (-1)

/-! ### Tapes -/
def tapeOkB (s a : Int) : Bool := isWordB s && inB a 0 1000000
def tapeGoB (s a : Int) : Bool := tapeOkB s a && !(a == 1000000)
def belowB (s a n : Int) : Bool := inB n 1 65536 && tapeGoB s a
def belowI (s a n : Int) : Int := pick (belowB s a n) (keyedI s 7 a / 256 % n) 0
def belowAt (s a n : Int) : Int := pick (belowB s a n) (a + 1) a
theorem tapeOkB_range {s a : Int} (h : tapeOkB s a = true) : 0 ≤ a ∧ a ≤ 1000000 := by
  unfold tapeOkB at h
  simp only [Bool.and_eq_true] at h
  exact inB_iff.1 h.2
theorem belowI_range (s a n : Int) : 0 ≤ belowI s a n ∧ belowI s a n ≤ 65535 := by
  unfold belowI
  cases h : belowB s a n
  · simp
  · have hn : inB n 1 65536 = true := by unfold belowB at h; simp only [Bool.and_eq_true] at h; exact h.1
    have hn' := inB_iff.1 hn
    have hk := keyedI_range s 7 a
    rw [pick_yes]
    have h1 := Int.emod_nonneg (keyedI s 7 a / 256) (b := n) (by omega)
    have h2 := Int.emod_lt_of_pos (keyedI s 7 a / 256) (b := n) (by omega)
    omega

/-! ### Messages -/
noncomputable def msgB (p s f r : Int) : Bool := fieldOkB p && isWordB s && inB f 0 4 && inB r 0 11
end Go.Proofs.Ytihbaieiempjeaa
