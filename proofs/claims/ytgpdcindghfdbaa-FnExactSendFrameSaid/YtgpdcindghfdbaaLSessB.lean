/- The laws that SessionNew, Resume, SendFrame and RecvFrame of the program return what the reference's return, for all arguments. No conditions. -/
import Derived.Test.YtgpdcindghfdbaaSess2
import Derived.Test.YtgpdcindghfdbaaSess3
import Derived.Test.YtgpdcindghfdbaaConv
import Derived.Test.YtgpdcindghfdbaaHead
import Derived.Outline
set_option linter.unusedVariables false
namespace Go.Proofs.Ytgpdcindghfdbaa
open Go.RowKit Go.ChangeShapes Go.WideShapes Go.ChangeAt

namespace sessionNew
theorem walk (k : Int) (w : World) :
    Calls Try.prog 5 #[.int .i64 k] w fun e w' => e = .returned (.bool true) ∧ Below w.heap.size w w' := by
  go_enter Try.func5, Try.ntmps5
  go_wp2_with fail
  refine (sSessionNew _ _).mono ?_
  rintro e w1 ⟨rfl, hb1⟩
  have s1 := hb1.size
  try simp at s1
  go_wp2_with fail
  refine (iSessionNew _ _).mono ?_
  rintro e w2 ⟨rfl, hb2⟩
  have s2 := hb2.size
  try simp at s2
  obtain ⟨z2a, c2a, f2a, k2a⟩ := bfact hb2 (b := w1.heap.size) (by repeat (first | (with_reducible assumption) | (with_reducible apply Blk.drew) | (with_reducible apply Blk.new; first | rfl | (simp; done)) | (with_reducible apply Blk.alloc) | (with_reducible apply Blk.set_) | (with_reducible apply Blk.far; focus (first | (simp; done) | (simp; omega)))))
  go_wp2_with fail
  refine (eqSession_same _ _ _ _).mono ?_
  rintro e w3 ⟨rfl, hb3⟩
  have s3 := hb3.size
  try simp at s3
  obtain ⟨z3a, c3a, f3a, k3a⟩ := bfact hb3 (b := w1.heap.size) (by repeat (first | (with_reducible assumption) | (with_reducible apply Blk.drew) | (with_reducible apply Blk.new; first | rfl | (simp; done)) | (with_reducible apply Blk.alloc) | (with_reducible apply Blk.set_) | (with_reducible apply Blk.far; focus (first | (simp; done) | (simp; omega)))))
  obtain ⟨z3b, c3b, f3b, k3b⟩ := bfact hb3 (b := w2.heap.size) (by repeat (first | (with_reducible assumption) | (with_reducible apply Blk.drew) | (with_reducible apply Blk.new; first | rfl | (simp; done)) | (with_reducible apply Blk.alloc) | (with_reducible apply Blk.set_) | (with_reducible apply Blk.far; focus (first | (simp; done) | (simp; omega)))))
  go_wp2
  go_ret
  refine ⟨rfl, ?_⟩
  repeat (first | (with_reducible exact Below.refl _ _) | (with_reducible refine Below.trans ?_ (Below.mono (by assumption) (by first | omega | (simp; done) | (simp; omega) | (simp [*]; done)))) | (with_reducible refine Below.alloc ?_ (by first | omega | (simp; done) | (simp; omega) | (simp [*]; done)) _) | (with_reducible refine Below.setCell ?_ (by first | omega | (simp; done) | (simp; omega) | (simp [*]; done)) _) | (with_reducible refine Below.drew ?_))
set_option maxRecDepth 100000 in
theorem lifted (os : Os) (started : os.Started) (H : Type) (enc : TypeId × Value → H) :
    ReturnsInHanded {} Try.checked os 5 .any (Rows.fnExactSessionNewSpec.pre6 enc Try.prog Try.f5 Rows.fnExactSessionNewRow.domain false) (Rows.fnExactSessionNewSpec.post enc Try.prog Try.f5 false true false false) := by
  refine returnsInHanded_of_change (C := Try.checked) own started (by kernel_rfl) Try.func5
    (ChangeSpec.witness6 (enc := enc) (C := Try.checked) false ⟨#[], #[.int .i64 0], []⟩ 8 (by kernel_rfl) (by kernel_rfl) (by kernel_rfl) (by kernel_rfl)) ?_
  intro W base args ds gs before hval0 hW _ _
  have hval : ∀ (j : Nat) t v, Try.f5.params[j]? = some t → args[j]? = some v → Value.okWide Try.prog W .any base t v := hval0
  have hW' := hW
  obtain ⟨p, q, hA0, hV, rfl, _, _⟩ := hW
  have hA : DataW.TrodAll enc Try.prog W 0 (fun _ => true) true Try.f5.params.toList args.toList ds p := hA0
  rw [Try.params5] at hA hval
  obtain ⟨v0, vs0, d0, ds0, p0, q0, hargs, rfl, rfl, h0, r0⟩ := trodAll_cons hA
  obtain ⟨rfl, rfl, rfl⟩ := trodAll_nil r0
  obtain rfl : args = #[v0] := by cases args; simp_all
  obtain ⟨rfl, rfl⟩ := trodVars_none hV
  obtain ⟨a0, rfl, hd0, _, wa0⟩ := open_int Try.underlying3 (hval 0 3 v0 rfl rfl) h0
  refine (walk a0 W).mono fun e W' ⟨he, hb⟩ => ?_
  subst he
  exact ⟨_, rfl, law_post rfl (by kernel_rfl) (by kernel_rfl) rfl Try.underlying4 hW' rfl rfl rfl hb⟩
theorem closed : joinedFacts Try.prog 5 Try.f5 Rows.fnExactSessionNewSpec Rows.fnExactSessionNewRow = true := by
  unfold joinedFacts
  rw [makeIs, mayIs, finalsIs]
  kernel_rfl
theorem over : Rows.fnExactSessionNewRow.holds Try.pinned (OpenSpec.ofChange Rows.fnExactSessionNewSpec) :=
  OpenClaim.holds_of_wide 5 Try.f5 rfl rfl rfl rfl rfl rfl rfl ⟨rfl, rfl, rfl, rfl, rfl⟩ rfl rfl rfl rfl rfl (by kernel_rfl) Try.func5 closed
    (of_decide_eq_true (by kernel_rfl)) (by unfold Func.isWrapper; first | (rw [if_pos (by decide +kernel)]; kernel_rfl) | (rw [if_neg (by decide +kernel)]; exact ⟨rfl, rfl⟩))
    (fun os started H enc _ => lifted os started H enc)
theorem proved : Rows.FnExactSessionNewSaid := over
#print axioms proved

end sessionNew
namespace resume
theorem walk (k s g n : Int) (w : World) :
    Calls Try.prog 7 #[.agg #[.int .i64 k, .int .i64 s, .int .i64 g], .int .i64 n] w fun e w' => e = .returned (.bool true) ∧ Below w.heap.size w w' := by
  go_enter Try.func7, Try.ntmps7
  go_wp2_with fail
  refine (toSession_any _ _ _ _).mono ?_
  rintro e w1 ⟨rfl, hb1⟩
  have s1 := hb1.size
  try simp at s1
  obtain ⟨z1a, c1a, f1a, k1a⟩ := bfact hb1 (b := w.heap.size) (by repeat (first | (with_reducible assumption) | (with_reducible apply Blk.drew) | (with_reducible apply Blk.new; first | rfl | (simp; done)) | (with_reducible apply Blk.alloc) | (with_reducible apply Blk.set_) | (with_reducible apply Blk.far; focus (first | (simp; done) | (simp; omega)))))
  go_wp2_with fail
  refine (sResume _ _ _ _ _).mono ?_
  rintro e w2 ⟨rfl, hb2⟩
  have s2 := hb2.size
  try simp at s2
  obtain ⟨z2a, c2a, f2a, k2a⟩ := bfact hb2 (b := w.heap.size) (by repeat (first | (with_reducible assumption) | (with_reducible apply Blk.drew) | (with_reducible apply Blk.new; first | rfl | (simp; done)) | (with_reducible apply Blk.alloc) | (with_reducible apply Blk.set_) | (with_reducible apply Blk.far; focus (first | (simp; done) | (simp; omega)))))
  go_wp2_with fail
  refine (toSession_any _ _ _ _).mono ?_
  rintro e w3 ⟨rfl, hb3⟩
  have s3 := hb3.size
  try simp at s3
  obtain ⟨z3a, c3a, f3a, k3a⟩ := bfact hb3 (b := w.heap.size) (by repeat (first | (with_reducible assumption) | (with_reducible apply Blk.drew) | (with_reducible apply Blk.new; first | rfl | (simp; done)) | (with_reducible apply Blk.alloc) | (with_reducible apply Blk.set_) | (with_reducible apply Blk.far; focus (first | (simp; done) | (simp; omega)))))
  obtain ⟨z3b, c3b, f3b, k3b⟩ := bfact hb3 (b := w2.heap.size) (by repeat (first | (with_reducible assumption) | (with_reducible apply Blk.drew) | (with_reducible apply Blk.new; first | rfl | (simp; done)) | (with_reducible apply Blk.alloc) | (with_reducible apply Blk.set_) | (with_reducible apply Blk.far; focus (first | (simp; done) | (simp; omega)))))
  go_wp2_with fail
  refine (iResume _ _ _ _ _).mono ?_
  rintro e w4 ⟨rfl, hb4⟩
  have s4 := hb4.size
  try simp at s4
  obtain ⟨z4a, c4a, f4a, k4a⟩ := bfact hb4 (b := w.heap.size) (by repeat (first | (with_reducible assumption) | (with_reducible apply Blk.drew) | (with_reducible apply Blk.new; first | rfl | (simp; done)) | (with_reducible apply Blk.alloc) | (with_reducible apply Blk.set_) | (with_reducible apply Blk.far; focus (first | (simp; done) | (simp; omega)))))
  obtain ⟨z4b, c4b, f4b, k4b⟩ := bfact hb4 (b := w2.heap.size) (by repeat (first | (with_reducible assumption) | (with_reducible apply Blk.drew) | (with_reducible apply Blk.new; first | rfl | (simp; done)) | (with_reducible apply Blk.alloc) | (with_reducible apply Blk.set_) | (with_reducible apply Blk.far; focus (first | (simp; done) | (simp; omega)))))
  go_wp2_with fail
  refine (eqSession_same _ _ _ _).mono ?_
  rintro e w5 ⟨rfl, hb5⟩
  have s5 := hb5.size
  try simp at s5
  obtain ⟨z5a, c5a, f5a, k5a⟩ := bfact hb5 (b := w.heap.size) (by repeat (first | (with_reducible assumption) | (with_reducible apply Blk.drew) | (with_reducible apply Blk.new; first | rfl | (simp; done)) | (with_reducible apply Blk.alloc) | (with_reducible apply Blk.set_) | (with_reducible apply Blk.far; focus (first | (simp; done) | (simp; omega)))))
  obtain ⟨z5b, c5b, f5b, k5b⟩ := bfact hb5 (b := w2.heap.size) (by repeat (first | (with_reducible assumption) | (with_reducible apply Blk.drew) | (with_reducible apply Blk.new; first | rfl | (simp; done)) | (with_reducible apply Blk.alloc) | (with_reducible apply Blk.set_) | (with_reducible apply Blk.far; focus (first | (simp; done) | (simp; omega)))))
  obtain ⟨z5c, c5c, f5c, k5c⟩ := bfact hb5 (b := w4.heap.size) (by repeat (first | (with_reducible assumption) | (with_reducible apply Blk.drew) | (with_reducible apply Blk.new; first | rfl | (simp; done)) | (with_reducible apply Blk.alloc) | (with_reducible apply Blk.set_) | (with_reducible apply Blk.far; focus (first | (simp; done) | (simp; omega)))))
  go_wp2
  go_ret
  refine ⟨rfl, ?_⟩
  repeat (first | (with_reducible exact Below.refl _ _) | (with_reducible refine Below.trans ?_ (Below.mono (by assumption) (by first | omega | (simp; done) | (simp; omega) | (simp [*]; done)))) | (with_reducible refine Below.alloc ?_ (by first | omega | (simp; done) | (simp; omega) | (simp [*]; done)) _) | (with_reducible refine Below.setCell ?_ (by first | omega | (simp; done) | (simp; omega) | (simp [*]; done)) _) | (with_reducible refine Below.drew ?_))
set_option maxRecDepth 100000 in
theorem lifted (os : Os) (started : os.Started) (H : Type) (enc : TypeId × Value → H) :
    ReturnsInHanded {} Try.checked os 7 .any (Rows.fnExactResumeSpec.pre6 enc Try.prog Try.f7 Rows.fnExactResumeRow.domain false) (Rows.fnExactResumeSpec.post enc Try.prog Try.f7 false true false false) := by
  refine returnsInHanded_of_change (C := Try.checked) own started (by kernel_rfl) Try.func7
    (ChangeSpec.witness6 (enc := enc) (C := Try.checked) false ⟨#[], #[.agg #[.int .i64 0, .int .i64 0, .int .i64 0], .int .i64 0], []⟩ 8 (by kernel_rfl) (by kernel_rfl) (by kernel_rfl) (by kernel_rfl)) ?_
  intro W base args ds gs before hval0 hW _ _
  have hval : ∀ (j : Nat) t v, Try.f7.params[j]? = some t → args[j]? = some v → Value.okWide Try.prog W .any base t v := hval0
  have hW' := hW
  obtain ⟨p, q, hA0, hV, rfl, _, _⟩ := hW
  have hA : DataW.TrodAll enc Try.prog W 0 (fun _ => true) true Try.f7.params.toList args.toList ds p := hA0
  rw [Try.params7] at hA hval
  obtain ⟨v0, vs0, d0, ds0, p0, q0, hargs, rfl, rfl, h0, r0⟩ := trodAll_cons hA
  obtain ⟨v1, vs1, d1, ds1, p1, q1, rfl, rfl, rfl, h1, r1⟩ := trodAll_cons r0
  obtain ⟨rfl, rfl, rfl⟩ := trodAll_nil r1
  obtain rfl : args = #[v0, v1] := by cases args; simp_all
  obtain ⟨rfl, rfl⟩ := trodVars_none hV
  obtain ⟨c0a, c0b, c0c, y0a, y0b, y0c, _, rfl, hd0, _, hy0a, hy0b, hy0c⟩ := Joins.open_agg3 Try.underlying29 (by kernel_rfl) (by kernel_rfl : Try.prog.cellsOf 29 = 3) (hval 0 29 v0 rfl rfl) h0
  obtain ⟨a0a, e0a, _, wa0a⟩ := DataW.trod_int Try.underlying3 hy0a
  obtain rfl : c0a = .int .i64 a0a := by simpa using e0a
  obtain ⟨a0b, e0b, _, wa0b⟩ := DataW.trod_int Try.underlying3 hy0b
  obtain rfl : c0b = .int .i64 a0b := by simpa using e0b
  obtain ⟨a0c, e0c, _, wa0c⟩ := DataW.trod_int Try.underlying3 hy0c
  obtain rfl : c0c = .int .i64 a0c := by simpa using e0c
  obtain ⟨a1, rfl, hd1, _, wa1⟩ := open_int Try.underlying3 (hval 1 3 v1 rfl rfl) h1
  refine (walk a0a a0b a0c a1 W).mono fun e W' ⟨he, hb⟩ => ?_
  subst he
  exact ⟨_, rfl, law_post rfl (by kernel_rfl) (by kernel_rfl) rfl Try.underlying4 hW' rfl rfl rfl hb⟩
theorem closed : joinedFacts Try.prog 7 Try.f7 Rows.fnExactResumeSpec Rows.fnExactResumeRow = true := by
  unfold joinedFacts
  rw [makeIs, mayIs, finalsIs]
  kernel_rfl
theorem over : Rows.fnExactResumeRow.holds Try.pinned (OpenSpec.ofChange Rows.fnExactResumeSpec) :=
  OpenClaim.holds_of_wide 7 Try.f7 rfl rfl rfl rfl rfl rfl rfl ⟨rfl, rfl, rfl, rfl, rfl⟩ rfl rfl rfl rfl rfl (by kernel_rfl) Try.func7 closed
    (of_decide_eq_true (by kernel_rfl)) (by unfold Func.isWrapper; first | (rw [if_pos (by decide +kernel)]; kernel_rfl) | (rw [if_neg (by decide +kernel)]; exact ⟨rfl, rfl⟩))
    (fun os started H enc _ => lifted os started H enc)
theorem proved : Rows.FnExactResumeSaid := over
#print axioms proved

end resume
namespace sendFrame
theorem walk (k s g b : Int) (w : World) :
    Calls Try.prog 13 #[.agg #[.int .i64 k, .int .i64 s, .int .i64 g], .int .i64 b] w fun e w' => e = .returned (.bool true) ∧ Below w.heap.size w w' := by
  go_enter Try.func13, Try.ntmps13
  go_wp2_with fail
  refine (toSession_any _ _ _ _).mono ?_
  rintro e w1 ⟨rfl, hb1⟩
  have s1 := hb1.size
  try simp at s1
  obtain ⟨z1a, c1a, f1a, k1a⟩ := bfact hb1 (b := w.heap.size) (by repeat (first | (with_reducible assumption) | (with_reducible apply Blk.drew) | (with_reducible apply Blk.new; first | rfl | (simp; done)) | (with_reducible apply Blk.alloc) | (with_reducible apply Blk.set_) | (with_reducible apply Blk.far; focus (first | (simp; done) | (simp; omega)))))
  go_wp2_with fail
  refine (sSendFrame _ _ _ _ _).mono ?_
  rintro e w2 ⟨rfl, hb2⟩
  have s2 := hb2.size
  try simp at s2
  obtain ⟨z2a, c2a, f2a, k2a⟩ := bfact hb2 (b := w.heap.size) (by repeat (first | (with_reducible assumption) | (with_reducible apply Blk.drew) | (with_reducible apply Blk.new; first | rfl | (simp; done)) | (with_reducible apply Blk.alloc) | (with_reducible apply Blk.set_) | (with_reducible apply Blk.far; focus (first | (simp; done) | (simp; omega)))))
  go_wp2_with fail
  refine (toSession_any _ _ _ _).mono ?_
  rintro e w3 ⟨rfl, hb3⟩
  have s3 := hb3.size
  try simp at s3
  obtain ⟨z3a, c3a, f3a, k3a⟩ := bfact hb3 (b := w.heap.size) (by repeat (first | (with_reducible assumption) | (with_reducible apply Blk.drew) | (with_reducible apply Blk.new; first | rfl | (simp; done)) | (with_reducible apply Blk.alloc) | (with_reducible apply Blk.set_) | (with_reducible apply Blk.far; focus (first | (simp; done) | (simp; omega)))))
  obtain ⟨z3b, c3b, f3b, k3b⟩ := bfact hb3 (b := w2.heap.size) (by repeat (first | (with_reducible assumption) | (with_reducible apply Blk.drew) | (with_reducible apply Blk.new; first | rfl | (simp; done)) | (with_reducible apply Blk.alloc) | (with_reducible apply Blk.set_) | (with_reducible apply Blk.far; focus (first | (simp; done) | (simp; omega)))))
  obtain ⟨z3c, c3c, f3c, k3c⟩ := bfact hb3 (b := w2.heap.size + 1) (by repeat (first | (with_reducible assumption) | (with_reducible apply Blk.drew) | (with_reducible apply Blk.new; first | rfl | (simp; done)) | (with_reducible apply Blk.alloc) | (with_reducible apply Blk.set_) | (with_reducible apply Blk.far; focus (first | (simp; done) | (simp; omega)))))
  go_wp2_with fail
  refine (iSendFrame _ _ _ _ _).mono ?_
  rintro e w4 ⟨rfl, hb4⟩
  have s4 := hb4.size
  try simp at s4
  obtain ⟨z4a, c4a, f4a, k4a⟩ := bfact hb4 (b := w.heap.size) (by repeat (first | (with_reducible assumption) | (with_reducible apply Blk.drew) | (with_reducible apply Blk.new; first | rfl | (simp; done)) | (with_reducible apply Blk.alloc) | (with_reducible apply Blk.set_) | (with_reducible apply Blk.far; focus (first | (simp; done) | (simp; omega)))))
  obtain ⟨z4b, c4b, f4b, k4b⟩ := bfact hb4 (b := w2.heap.size) (by repeat (first | (with_reducible assumption) | (with_reducible apply Blk.drew) | (with_reducible apply Blk.new; first | rfl | (simp; done)) | (with_reducible apply Blk.alloc) | (with_reducible apply Blk.set_) | (with_reducible apply Blk.far; focus (first | (simp; done) | (simp; omega)))))
  obtain ⟨z4c, c4c, f4c, k4c⟩ := bfact hb4 (b := w2.heap.size + 1) (by repeat (first | (with_reducible assumption) | (with_reducible apply Blk.drew) | (with_reducible apply Blk.new; first | rfl | (simp; done)) | (with_reducible apply Blk.alloc) | (with_reducible apply Blk.set_) | (with_reducible apply Blk.far; focus (first | (simp; done) | (simp; omega)))))
  go_wp2_with fail
  refine (eqSession_same _ _ _ _).mono ?_
  rintro e w5 ⟨rfl, hb5⟩
  have s5 := hb5.size
  try simp at s5
  obtain ⟨z5a, c5a, f5a, k5a⟩ := bfact hb5 (b := w.heap.size) (by repeat (first | (with_reducible assumption) | (with_reducible apply Blk.drew) | (with_reducible apply Blk.new; first | rfl | (simp; done)) | (with_reducible apply Blk.alloc) | (with_reducible apply Blk.set_) | (with_reducible apply Blk.far; focus (first | (simp; done) | (simp; omega)))))
  obtain ⟨z5b, c5b, f5b, k5b⟩ := bfact hb5 (b := w2.heap.size) (by repeat (first | (with_reducible assumption) | (with_reducible apply Blk.drew) | (with_reducible apply Blk.new; first | rfl | (simp; done)) | (with_reducible apply Blk.alloc) | (with_reducible apply Blk.set_) | (with_reducible apply Blk.far; focus (first | (simp; done) | (simp; omega)))))
  obtain ⟨z5c, c5c, f5c, k5c⟩ := bfact hb5 (b := w2.heap.size + 1) (by repeat (first | (with_reducible assumption) | (with_reducible apply Blk.drew) | (with_reducible apply Blk.new; first | rfl | (simp; done)) | (with_reducible apply Blk.alloc) | (with_reducible apply Blk.set_) | (with_reducible apply Blk.far; focus (first | (simp; done) | (simp; omega)))))
  obtain ⟨z5d, c5d, f5d, k5d⟩ := bfact hb5 (b := w4.heap.size) (by repeat (first | (with_reducible assumption) | (with_reducible apply Blk.drew) | (with_reducible apply Blk.new; first | rfl | (simp; done)) | (with_reducible apply Blk.alloc) | (with_reducible apply Blk.set_) | (with_reducible apply Blk.far; focus (first | (simp; done) | (simp; omega)))))
  obtain ⟨z5e, c5e, f5e, k5e⟩ := bfact hb5 (b := w4.heap.size + 1) (by repeat (first | (with_reducible assumption) | (with_reducible apply Blk.drew) | (with_reducible apply Blk.new; first | rfl | (simp; done)) | (with_reducible apply Blk.alloc) | (with_reducible apply Blk.set_) | (with_reducible apply Blk.far; focus (first | (simp; done) | (simp; omega)))))
  go_wp2_with fail
  refine (eqFrame_same _ _ _ _).mono ?_
  rintro e w6 ⟨rfl, hb6⟩
  have s6 := hb6.size
  try simp at s6
  go_wp2
  go_ret
  refine ⟨rfl, ?_⟩
  repeat (first | (with_reducible exact Below.refl _ _) | (with_reducible refine Below.trans ?_ (Below.mono (by assumption) (by first | omega | (simp; done) | (simp; omega) | (simp [*]; done)))) | (with_reducible refine Below.alloc ?_ (by first | omega | (simp; done) | (simp; omega) | (simp [*]; done)) _) | (with_reducible refine Below.setCell ?_ (by first | omega | (simp; done) | (simp; omega) | (simp [*]; done)) _) | (with_reducible refine Below.drew ?_))
set_option maxRecDepth 100000 in
theorem lifted (os : Os) (started : os.Started) (H : Type) (enc : TypeId × Value → H) :
    ReturnsInHanded {} Try.checked os 13 .any (Rows.fnExactSendFrameSpec.pre6 enc Try.prog Try.f13 Rows.fnExactSendFrameRow.domain false) (Rows.fnExactSendFrameSpec.post enc Try.prog Try.f13 false true false false) := by
  refine returnsInHanded_of_change (C := Try.checked) own started (by kernel_rfl) Try.func13
    (ChangeSpec.witness6 (enc := enc) (C := Try.checked) false ⟨#[], #[.agg #[.int .i64 0, .int .i64 0, .int .i64 0], .int .i64 0], []⟩ 8 (by kernel_rfl) (by kernel_rfl) (by kernel_rfl) (by kernel_rfl)) ?_
  intro W base args ds gs before hval0 hW _ _
  have hval : ∀ (j : Nat) t v, Try.f13.params[j]? = some t → args[j]? = some v → Value.okWide Try.prog W .any base t v := hval0
  have hW' := hW
  obtain ⟨p, q, hA0, hV, rfl, _, _⟩ := hW
  have hA : DataW.TrodAll enc Try.prog W 0 (fun _ => true) true Try.f13.params.toList args.toList ds p := hA0
  rw [Try.params13] at hA hval
  obtain ⟨v0, vs0, d0, ds0, p0, q0, hargs, rfl, rfl, h0, r0⟩ := trodAll_cons hA
  obtain ⟨v1, vs1, d1, ds1, p1, q1, rfl, rfl, rfl, h1, r1⟩ := trodAll_cons r0
  obtain ⟨rfl, rfl, rfl⟩ := trodAll_nil r1
  obtain rfl : args = #[v0, v1] := by cases args; simp_all
  obtain ⟨rfl, rfl⟩ := trodVars_none hV
  obtain ⟨c0a, c0b, c0c, y0a, y0b, y0c, _, rfl, hd0, _, hy0a, hy0b, hy0c⟩ := Joins.open_agg3 Try.underlying29 (by kernel_rfl) (by kernel_rfl : Try.prog.cellsOf 29 = 3) (hval 0 29 v0 rfl rfl) h0
  obtain ⟨a0a, e0a, _, wa0a⟩ := DataW.trod_int Try.underlying3 hy0a
  obtain rfl : c0a = .int .i64 a0a := by simpa using e0a
  obtain ⟨a0b, e0b, _, wa0b⟩ := DataW.trod_int Try.underlying3 hy0b
  obtain rfl : c0b = .int .i64 a0b := by simpa using e0b
  obtain ⟨a0c, e0c, _, wa0c⟩ := DataW.trod_int Try.underlying3 hy0c
  obtain rfl : c0c = .int .i64 a0c := by simpa using e0c
  obtain ⟨a1, rfl, hd1, _, wa1⟩ := open_int Try.underlying3 (hval 1 3 v1 rfl rfl) h1
  refine (walk a0a a0b a0c a1 W).mono fun e W' ⟨he, hb⟩ => ?_
  subst he
  exact ⟨_, rfl, law_post rfl (by kernel_rfl) (by kernel_rfl) rfl Try.underlying4 hW' rfl rfl rfl hb⟩
theorem closed : joinedFacts Try.prog 13 Try.f13 Rows.fnExactSendFrameSpec Rows.fnExactSendFrameRow = true := by
  unfold joinedFacts
  rw [makeIs, mayIs, finalsIs]
  kernel_rfl
theorem over : Rows.fnExactSendFrameRow.holds Try.pinned (OpenSpec.ofChange Rows.fnExactSendFrameSpec) :=
  OpenClaim.holds_of_wide 13 Try.f13 rfl rfl rfl rfl rfl rfl rfl ⟨rfl, rfl, rfl, rfl, rfl⟩ rfl rfl rfl rfl rfl (by kernel_rfl) Try.func13 closed
    (of_decide_eq_true (by kernel_rfl)) (by unfold Func.isWrapper; first | (rw [if_pos (by decide +kernel)]; kernel_rfl) | (rw [if_neg (by decide +kernel)]; exact ⟨rfl, rfl⟩))
    (fun os started H enc _ => lifted os started H enc)
theorem proved : Rows.FnExactSendFrameSaid := over
#print axioms proved

end sendFrame
end Go.Proofs.Ytgpdcindghfdbaa
