/- The law that RecvFrame of the program returns what the reference's returns, for all arguments. No conditions. -/
import Derived.Test.YtgpdcindghfdbaaSess3
import Derived.Test.YtgpdcindghfdbaaConv
import Derived.Test.YtgpdcindghfdbaaHead
import Derived.Deep.DeepCutAuto
set_option linter.unusedVariables false
namespace Go.Proofs.Ytgpdcindghfdbaa
open Go.RowKit Go.ChangeShapes Go.WideShapes Go.ChangeAt

namespace recvFrame
def Cut (w : World) (k s g q b t : Int) (v5 v6 v7 : Value) (wx : World) : Prop :=
  ∃ r, v5 = .pointer (some ⟨r, 0, none⟩) ∧ v6 = .int .i64 (pick (recvB k s g q b t) b 0) ∧ v7 = .bool (recvB k s g q b t) ∧ w.heap.size ≤ r ∧
    Blk wx r 31 #[.int .i64 k, .int .i64 s, .int .i64 (pick (recvB k s g q b t) (g + 1) g)] ∧
    Blk wx w.heap.size 29 #[.int .i64 k, .int .i64 s, .int .i64 g] ∧
    Blk wx (w.heap.size + 1) 61 #[.int .i64 q, .int .i64 b, .int .i64 t] ∧ Below w.heap.size w wx
def Cut2 (w : World) (r : Nat) (k s g q b t : Int) (v5 v6 v7 : Value) (wx : World) : Prop :=
  ∃ r2, v5 = .pointer (some ⟨r2, 0, none⟩) ∧ v6 = .int .i64 (pick (recvB k s g q b t) b 0) ∧ v7 = .bool (recvB k s g q b t) ∧ w.heap.size ≤ r2 ∧
    Blk wx r2 31 #[.int .i64 k, .int .i64 s, .int .i64 (pick (recvB k s g q b t) (g + 1) g)] ∧
    Blk wx r 31 #[.int .i64 k, .int .i64 s, .int .i64 (pick (recvB k s g q b t) (g + 1) g)] ∧ Below w.heap.size w wx
theorem S6 {w' : World} {b0 b1 t0 t1 : Nat} {k s g q b t : Int} (h0 : Blk w' b0 t0 #[.int .i64 k, .int .i64 s, .int .i64 g]) (h1 : Blk w' b1 t1 #[.int .i64 q, .int .i64 b, .int .i64 t]) :
    w'.cell? ⟨b0, 0, none⟩ = some (.int .i64 k) ∧ w'.cell? ⟨b0, 1, none⟩ = some (.int .i64 s) ∧ w'.cell? ⟨b0, 2, none⟩ = some (.int .i64 g) ∧
    w'.cell? ⟨b1, 0, none⟩ = some (.int .i64 q) ∧ w'.cell? ⟨b1, 1, none⟩ = some (.int .i64 b) ∧ w'.cell? ⟨b1, 2, none⟩ = some (.int .i64 t) :=
  ⟨h0.cell 0, h0.cell 1, h0.cell 2, h1.cell 0, h1.cell 1, h1.cell 2⟩
set_option maxHeartbeats 3200000 in
theorem walk (k s g q b t : Int) (w : World) :
    Calls Try.prog 11 #[.agg #[.int .i64 k, .int .i64 s, .int .i64 g], .agg #[.int .i64 q, .int .i64 b, .int .i64 t]] w fun e w' => e = .returned (.bool true) ∧ Below w.heap.size w w' := by
  go_enter Try.func11, Try.ntmps11
  go_upto_region 1 with fail
  go_cut [5, 6, 7] (fun v5 v6 v7 wx => Cut w k s g q b t v5 v6 v7 wx)
  case first =>
    go_region_held3 (fun w' => w'.cell? ⟨w.heap.size, 0, none⟩ = some (.int .i64 k) ∧ w'.cell? ⟨w.heap.size, 1, none⟩ = some (.int .i64 s) ∧ w'.cell? ⟨w.heap.size, 2, none⟩ = some (.int .i64 g) ∧ w'.cell? ⟨w.heap.size + 1, 0, none⟩ = some (.int .i64 q) ∧ w'.cell? ⟨w.heap.size + 1, 1, none⟩ = some (.int .i64 b) ∧ w'.cell? ⟨w.heap.size + 1, 2, none⟩ = some (.int .i64 t)) (exact S6 (t0 := 29) (t1 := 61) (by repeat (first | (with_reducible assumption) | (with_reducible apply Blk.drew) | (with_reducible apply Blk.new; first | rfl | (simp; done)) | (with_reducible apply Blk.alloc) | (with_reducible apply Blk.set_) | (with_reducible apply Blk.past; focus assumption) | (with_reducible apply Blk.far; focus (first | (simp; done) | (simp; omega) | (dsimp only; omega))))) (by repeat (first | (with_reducible assumption) | (with_reducible apply Blk.drew) | (with_reducible apply Blk.new; first | rfl | (simp; done)) | (with_reducible apply Blk.alloc) | (with_reducible apply Blk.set_) | (with_reducible apply Blk.past; focus assumption) | (with_reducible apply Blk.far; focus (first | (simp; done) | (simp; omega) | (dsimp only; omega)))))) (first | (go_at_call 26; refine (toSession_any _ _ _ _).mono ?_; rintro e w1 ⟨rfl, hb1⟩; have sz := hb1.size; (try simp at sz); (first | (with_reducible refine use_topd hb1 ?_; intro zt ct ft kt; try simp only [World.size_alloc] at zt ct ft kt) | (with_reducible refine use_top hb1 ?_; intro zt ct ft kt; try simp only [World.size_alloc] at zt ct ft kt) | (with_reducible refine use_kept hb1 kt ?_; intro zt ct ft kt) | skip); obtain ⟨z1a, c1a, f1a, k1a⟩ := bfact hb1 (b := w.heap.size) (by repeat (first | (with_reducible assumption) | (with_reducible apply Blk.drew) | (with_reducible apply Blk.new; first | rfl | (simp; done)) | (with_reducible apply Blk.alloc) | (with_reducible apply Blk.set_) | (with_reducible apply Blk.past; focus assumption) | (with_reducible apply Blk.far; focus (first | (simp; done) | (simp; omega) | (dsimp only; omega))))); obtain ⟨z1b, c1b, f1b, k1b⟩ := bfact hb1 (b := w.heap.size + 1) (by repeat (first | (with_reducible assumption) | (with_reducible apply Blk.drew) | (with_reducible apply Blk.new; first | rfl | (simp; done)) | (with_reducible apply Blk.alloc) | (with_reducible apply Blk.set_) | (with_reducible apply Blk.past; focus assumption) | (with_reducible apply Blk.far; focus (first | (simp; done) | (simp; omega) | (dsimp only; omega)))))) | (go_at_call 49; refine (toFrame_any _ _ _ _).mono ?_; rintro e w1 ⟨rfl, hb1⟩; have sz := hb1.size; (try simp at sz); (first | (with_reducible refine use_topd hb1 ?_; intro zt ct ft kt; try simp only [World.size_alloc] at zt ct ft kt) | (with_reducible refine use_top hb1 ?_; intro zt ct ft kt; try simp only [World.size_alloc] at zt ct ft kt) | (with_reducible refine use_kept hb1 kt ?_; intro zt ct ft kt) | skip); obtain ⟨z1a, c1a, f1a, k1a⟩ := bfact hb1 (b := w.heap.size) (by repeat (first | (with_reducible assumption) | (with_reducible apply Blk.drew) | (with_reducible apply Blk.new; first | rfl | (simp; done)) | (with_reducible apply Blk.alloc) | (with_reducible apply Blk.set_) | (with_reducible apply Blk.past; focus assumption) | (with_reducible apply Blk.far; focus (first | (simp; done) | (simp; omega) | (dsimp only; omega))))); obtain ⟨z1b, c1b, f1b, k1b⟩ := bfact hb1 (b := w.heap.size + 1) (by repeat (first | (with_reducible assumption) | (with_reducible apply Blk.drew) | (with_reducible apply Blk.new; first | rfl | (simp; done)) | (with_reducible apply Blk.alloc) | (with_reducible apply Blk.set_) | (with_reducible apply Blk.past; focus assumption) | (with_reducible apply Blk.far; focus (first | (simp; done) | (simp; omega) | (dsimp only; omega)))))) | (go_at_call 48; refine (sRecvFrame _ _ _ _ _ _ _).mono ?_; rintro e w1 ⟨rfl, hb1⟩; have sz := hb1.size; (try simp at sz); (first | (with_reducible refine use_topd hb1 ?_; intro zt ct ft kt; try simp only [World.size_alloc] at zt ct ft kt) | (with_reducible refine use_top hb1 ?_; intro zt ct ft kt; try simp only [World.size_alloc] at zt ct ft kt) | (with_reducible refine use_kept hb1 kt ?_; intro zt ct ft kt) | skip); obtain ⟨z1a, c1a, f1a, k1a⟩ := bfact hb1 (b := w.heap.size) (by repeat (first | (with_reducible assumption) | (with_reducible apply Blk.drew) | (with_reducible apply Blk.new; first | rfl | (simp; done)) | (with_reducible apply Blk.alloc) | (with_reducible apply Blk.set_) | (with_reducible apply Blk.past; focus assumption) | (with_reducible apply Blk.far; focus (first | (simp; done) | (simp; omega) | (dsimp only; omega))))); obtain ⟨z1b, c1b, f1b, k1b⟩ := bfact hb1 (b := w.heap.size + 1) (by repeat (first | (with_reducible assumption) | (with_reducible apply Blk.drew) | (with_reducible apply Blk.new; first | rfl | (simp; done)) | (with_reducible apply Blk.alloc) | (with_reducible apply Blk.set_) | (with_reducible apply Blk.past; focus assumption) | (with_reducible apply Blk.far; focus (first | (simp; done) | (simp; omega) | (dsimp only; omega)))))))
    all_goals
      go_wp2_with fail
      go_meet
      unfold Cut
      refine ⟨_, rfl, rfl, rfl, ?_, ?_, by repeat (first | (with_reducible assumption) | (with_reducible apply Blk.drew) | (with_reducible apply Blk.new; first | rfl | (simp; done)) | (with_reducible apply Blk.alloc) | (with_reducible apply Blk.set_) | (with_reducible apply Blk.past; focus assumption) | (with_reducible apply Blk.far; focus (first | (simp; done) | (simp; omega) | (dsimp only; omega)))), by repeat (first | (with_reducible assumption) | (with_reducible apply Blk.drew) | (with_reducible apply Blk.new; first | rfl | (simp; done)) | (with_reducible apply Blk.alloc) | (with_reducible apply Blk.set_) | (with_reducible apply Blk.past; focus assumption) | (with_reducible apply Blk.far; focus (first | (simp; done) | (simp; omega) | (dsimp only; omega)))), ?_⟩
      · first | omega | (simp; done) | (simp; omega)
      · apply Blk.cast
        focus (repeat (first | (with_reducible assumption) | (with_reducible apply Blk.drew) | (with_reducible apply Blk.new; first | rfl | (simp; done)) | (with_reducible apply Blk.alloc) | (with_reducible apply Blk.set_) | (with_reducible apply Blk.past; focus assumption) | (with_reducible apply Blk.far; focus (first | (simp; done) | (simp; omega) | (dsimp only; omega)))))
        rfl
      · repeat (first | (with_reducible exact Below.refl _ _) | (with_reducible refine Below.trans ?_ (Below.mono (by assumption) (by first | omega | (simp; done) | (simp; omega) | (simp [*]; done)))) | (with_reducible refine Below.alloc ?_ (by first | omega | (simp; done) | (simp; omega) | (simp [*]; done)) _) | (with_reducible refine Below.setCell ?_ (by first | omega | (simp; done) | (simp; omega) | (simp [*]; done)) _) | (with_reducible refine Below.drew ?_))
  case rest =>
    obtain ⟨r, rfl, rfl, rfl, hr, k1, k2, k3, hb⟩ := hcut
    have c2 := k2.cell
    have c3 := k3.cell
    have z1 := k1.lt
    have z2 := k2.lt
    have z3 := k3.lt
    go_upto_region 2 with fail
    go_cut [8, 9, 10] (fun v8 v9 v10 wx => Cut2 w r k s g q b t v8 v9 v10 wx)
    case first =>
      go_region_held3 (fun w' => w'.cell? ⟨w.heap.size, 0, none⟩ = some (.int .i64 k) ∧ w'.cell? ⟨w.heap.size, 1, none⟩ = some (.int .i64 s) ∧ w'.cell? ⟨w.heap.size, 2, none⟩ = some (.int .i64 g) ∧ w'.cell? ⟨w.heap.size + 1, 0, none⟩ = some (.int .i64 q) ∧ w'.cell? ⟨w.heap.size + 1, 1, none⟩ = some (.int .i64 b) ∧ w'.cell? ⟨w.heap.size + 1, 2, none⟩ = some (.int .i64 t)) (exact S6 (t0 := 29) (t1 := 61) (by repeat (first | (with_reducible assumption) | (with_reducible apply Blk.drew) | (with_reducible apply Blk.new; first | rfl | (simp; done)) | (with_reducible apply Blk.alloc) | (with_reducible apply Blk.set_) | (with_reducible apply Blk.past; focus assumption) | (with_reducible apply Blk.far; focus (first | (simp; done) | (simp; omega) | (dsimp only; omega))))) (by repeat (first | (with_reducible assumption) | (with_reducible apply Blk.drew) | (with_reducible apply Blk.new; first | rfl | (simp; done)) | (with_reducible apply Blk.alloc) | (with_reducible apply Blk.set_) | (with_reducible apply Blk.past; focus assumption) | (with_reducible apply Blk.far; focus (first | (simp; done) | (simp; omega) | (dsimp only; omega)))))) (first | (go_at_call 26; refine (toSession_any _ _ _ _).mono ?_; rintro e w1 ⟨rfl, hb1⟩; have sz := hb1.size; (try simp at sz); (first | (with_reducible refine use_topd hb1 ?_; intro zt ct ft kt; try simp only [World.size_alloc] at zt ct ft kt) | (with_reducible refine use_top hb1 ?_; intro zt ct ft kt; try simp only [World.size_alloc] at zt ct ft kt) | (with_reducible refine use_kept hb1 kt ?_; intro zt ct ft kt) | skip); obtain ⟨z1a, c1a, f1a, k1a⟩ := bfact hb1 (b := w.heap.size) (by repeat (first | (with_reducible assumption) | (with_reducible apply Blk.drew) | (with_reducible apply Blk.new; first | rfl | (simp; done)) | (with_reducible apply Blk.alloc) | (with_reducible apply Blk.set_) | (with_reducible apply Blk.past; focus assumption) | (with_reducible apply Blk.far; focus (first | (simp; done) | (simp; omega) | (dsimp only; omega))))); obtain ⟨z1b, c1b, f1b, k1b⟩ := bfact hb1 (b := w.heap.size + 1) (by repeat (first | (with_reducible assumption) | (with_reducible apply Blk.drew) | (with_reducible apply Blk.new; first | rfl | (simp; done)) | (with_reducible apply Blk.alloc) | (with_reducible apply Blk.set_) | (with_reducible apply Blk.past; focus assumption) | (with_reducible apply Blk.far; focus (first | (simp; done) | (simp; omega) | (dsimp only; omega)))))) | (go_at_call 49; refine (toFrame_any _ _ _ _).mono ?_; rintro e w1 ⟨rfl, hb1⟩; have sz := hb1.size; (try simp at sz); (first | (with_reducible refine use_topd hb1 ?_; intro zt ct ft kt; try simp only [World.size_alloc] at zt ct ft kt) | (with_reducible refine use_top hb1 ?_; intro zt ct ft kt; try simp only [World.size_alloc] at zt ct ft kt) | (with_reducible refine use_kept hb1 kt ?_; intro zt ct ft kt) | skip); obtain ⟨z1a, c1a, f1a, k1a⟩ := bfact hb1 (b := w.heap.size) (by repeat (first | (with_reducible assumption) | (with_reducible apply Blk.drew) | (with_reducible apply Blk.new; first | rfl | (simp; done)) | (with_reducible apply Blk.alloc) | (with_reducible apply Blk.set_) | (with_reducible apply Blk.past; focus assumption) | (with_reducible apply Blk.far; focus (first | (simp; done) | (simp; omega) | (dsimp only; omega))))); obtain ⟨z1b, c1b, f1b, k1b⟩ := bfact hb1 (b := w.heap.size + 1) (by repeat (first | (with_reducible assumption) | (with_reducible apply Blk.drew) | (with_reducible apply Blk.new; first | rfl | (simp; done)) | (with_reducible apply Blk.alloc) | (with_reducible apply Blk.set_) | (with_reducible apply Blk.past; focus assumption) | (with_reducible apply Blk.far; focus (first | (simp; done) | (simp; omega) | (dsimp only; omega)))))) | (go_at_call 47; refine (iRecvFrame _ _ _ _ _ _ _).mono ?_; rintro e w1 ⟨rfl, hb1⟩; have sz := hb1.size; (try simp at sz); (first | (with_reducible refine use_topd hb1 ?_; intro zt ct ft kt; try simp only [World.size_alloc] at zt ct ft kt) | (with_reducible refine use_top hb1 ?_; intro zt ct ft kt; try simp only [World.size_alloc] at zt ct ft kt) | (with_reducible refine use_kept hb1 kt ?_; intro zt ct ft kt) | skip); obtain ⟨z1a, c1a, f1a, k1a⟩ := bfact hb1 (b := w.heap.size) (by repeat (first | (with_reducible assumption) | (with_reducible apply Blk.drew) | (with_reducible apply Blk.new; first | rfl | (simp; done)) | (with_reducible apply Blk.alloc) | (with_reducible apply Blk.set_) | (with_reducible apply Blk.past; focus assumption) | (with_reducible apply Blk.far; focus (first | (simp; done) | (simp; omega) | (dsimp only; omega))))); obtain ⟨z1b, c1b, f1b, k1b⟩ := bfact hb1 (b := w.heap.size + 1) (by repeat (first | (with_reducible assumption) | (with_reducible apply Blk.drew) | (with_reducible apply Blk.new; first | rfl | (simp; done)) | (with_reducible apply Blk.alloc) | (with_reducible apply Blk.set_) | (with_reducible apply Blk.past; focus assumption) | (with_reducible apply Blk.far; focus (first | (simp; done) | (simp; omega) | (dsimp only; omega)))))))
      all_goals
        go_wp2_with fail
        go_meet
        unfold Cut2
        refine ⟨_, rfl, rfl, rfl, ?_, ?_, by repeat (first | (with_reducible assumption) | (with_reducible apply Blk.drew) | (with_reducible apply Blk.new; first | rfl | (simp; done)) | (with_reducible apply Blk.alloc) | (with_reducible apply Blk.set_) | (with_reducible apply Blk.past; focus assumption) | (with_reducible apply Blk.far; focus (first | (simp; done) | (simp; omega) | (dsimp only; omega)))), ?_⟩
        · first | omega | (simp; done) | (simp; omega)
        · apply Blk.cast
          focus (repeat (first | (with_reducible assumption) | (with_reducible apply Blk.drew) | (with_reducible apply Blk.new; first | rfl | (simp; done)) | (with_reducible apply Blk.alloc) | (with_reducible apply Blk.set_) | (with_reducible apply Blk.past; focus assumption) | (with_reducible apply Blk.far; focus (first | (simp; done) | (simp; omega) | (dsimp only; omega)))))
          rfl
        · repeat (first | (with_reducible exact Below.refl _ _) | (with_reducible refine Below.trans ?_ (Below.mono (by assumption) (by first | omega | (simp; done) | (simp; omega) | (simp [*]; done)))) | (with_reducible refine Below.alloc ?_ (by first | omega | (simp; done) | (simp; omega) | (simp [*]; done)) _) | (with_reducible refine Below.setCell ?_ (by first | omega | (simp; done) | (simp; omega) | (simp [*]; done)) _) | (with_reducible refine Below.drew ?_))
    case rest =>
      obtain ⟨r2, rfl, rfl, rfl, hr2, k4, k5, hb2⟩ := hcut
      have c4 := k4.cell
      have c5 := k5.cell
      have z4 := k4.lt
      have z5 := k5.lt
      go_wp2_with fail
      refine (eqSession_same _ _ _ _).mono ?_
      rintro e w9 ⟨rfl, hb9⟩
      have s9 := hb9.size
      try simp at s9
      go_wp2
      go_ret
      refine ⟨rfl, ?_⟩
      repeat (first | (with_reducible exact Below.refl _ _) | (with_reducible refine Below.trans ?_ (Below.mono (by assumption) (by first | omega | (simp; done) | (simp; omega) | (simp [*]; done)))) | (with_reducible refine Below.alloc ?_ (by first | omega | (simp; done) | (simp; omega) | (simp [*]; done)) _) | (with_reducible refine Below.setCell ?_ (by first | omega | (simp; done) | (simp; omega) | (simp [*]; done)) _) | (with_reducible refine Below.drew ?_))
set_option maxRecDepth 100000 in
theorem lifted (os : Os) (started : os.Started) (H : Type) (enc : TypeId × Value → H) :
    ReturnsInHanded {} Try.checked os 11 .any (Rows.fnExactRecvFrameSpec.pre6 enc Try.prog Try.f11 Rows.fnExactRecvFrameRow.domain false) (Rows.fnExactRecvFrameSpec.post enc Try.prog Try.f11 false true false false) := by
  refine returnsInHanded_of_change (C := Try.checked) own started (by kernel_rfl) Try.func11
    (ChangeSpec.witness6 (enc := enc) (C := Try.checked) false ⟨#[], #[.agg #[.int .i64 0, .int .i64 0, .int .i64 0], .agg #[.int .i64 0, .int .i64 0, .int .i64 0]], []⟩ 8 (by kernel_rfl) (by kernel_rfl) (by kernel_rfl) (by kernel_rfl)) ?_
  intro W base args ds gs before hval0 hW _ _
  have hval : ∀ (j : Nat) t v, Try.f11.params[j]? = some t → args[j]? = some v → Value.okWide Try.prog W .any base t v := hval0
  have hW' := hW
  obtain ⟨p, q, hA0, hV, rfl, _, _⟩ := hW
  have hA : DataW.TrodAll enc Try.prog W 0 (fun _ => true) true Try.f11.params.toList args.toList ds p := hA0
  rw [Try.params11] at hA hval
  obtain ⟨v0, vs0, d0, ds0, p0, q0, hargs, rfl, rfl, h0, r0⟩ := trodAll_cons hA
  obtain ⟨v1, vs1, d1, ds1, p1, q1, rfl, rfl, rfl, h1, r1⟩ := trodAll_cons r0
  obtain ⟨rfl, rfl, rfl⟩ := trodAll_nil r1
  obtain rfl : args = #[v0, v1] := by cases args; simp_all
  obtain ⟨rfl, rfl⟩ := trodVars_none hV
  obtain ⟨c0a, c0b, c0c, y0a, y0b, y0c, _, rfl, hd0, _, hy0a, hy0b, hy0c⟩ := Joins.open_agg3 Try.underlying29 (by kernel_rfl) (by kernel_rfl : Try.prog.cellsOf 29 = 3) (hval 0 29 v0 rfl rfl) h0
  obtain ⟨a0a, e0a, _, wa0a⟩ := DataW.trod_int Try.underlying3 hy0a
  obtain rfl : c0a = .int .i64 a0a := by simpa using e0a
  obtain ⟨a0b, e0b, _, wa0b⟩ := DataW.trod_int Try.underlying3 hy0b
  obtain rfl : c0b = .int .i64 a0b := by simpa using e0b
  obtain ⟨a0c, e0c, _, wa0c⟩ := DataW.trod_int Try.underlying3 hy0c
  obtain rfl : c0c = .int .i64 a0c := by simpa using e0c
  obtain ⟨c1a, c1b, c1c, y1a, y1b, y1c, _, rfl, hd1, _, hy1a, hy1b, hy1c⟩ := Joins.open_agg3 Try.underlying61 (by kernel_rfl) (by kernel_rfl : Try.prog.cellsOf 61 = 3) (hval 1 61 v1 rfl rfl) h1
  obtain ⟨a1a, e1a, _, wa1a⟩ := DataW.trod_int Try.underlying3 hy1a
  obtain rfl : c1a = .int .i64 a1a := by simpa using e1a
  obtain ⟨a1b, e1b, _, wa1b⟩ := DataW.trod_int Try.underlying3 hy1b
  obtain rfl : c1b = .int .i64 a1b := by simpa using e1b
  obtain ⟨a1c, e1c, _, wa1c⟩ := DataW.trod_int Try.underlying3 hy1c
  obtain rfl : c1c = .int .i64 a1c := by simpa using e1c
  refine (walk a0a a0b a0c a1a a1b a1c W ).mono fun e W' ⟨he, hb⟩ => ?_
  subst he
  exact ⟨_, rfl, law_post rfl (by kernel_rfl) (by kernel_rfl) rfl Try.underlying4 hW' rfl rfl rfl hb⟩
theorem closed : joinedFacts Try.prog 11 Try.f11 Rows.fnExactRecvFrameSpec Rows.fnExactRecvFrameRow = true := by
  unfold joinedFacts
  rw [makeIs, mayIs, finalsIs]
  kernel_rfl
theorem over : Rows.fnExactRecvFrameRow.holds Try.pinned (OpenSpec.ofChange Rows.fnExactRecvFrameSpec) :=
  OpenClaim.holds_of_wide 11 Try.f11 rfl rfl rfl rfl rfl rfl rfl ⟨rfl, rfl, rfl, rfl, rfl⟩ rfl rfl rfl rfl rfl (by kernel_rfl) Try.func11 closed
    (of_decide_eq_true (by kernel_rfl)) (by unfold Func.isWrapper; first | (rw [if_pos (by decide +kernel)]; kernel_rfl) | (rw [if_neg (by decide +kernel)]; exact ⟨rfl, rfl⟩))
    (fun os started H enc _ => lifted os started H enc)
theorem proved : Rows.FnExactRecvFrameSaid := over
#print axioms proved

end recvFrame
end Go.Proofs.Ytgpdcindghfdbaa
