/- An argument that is a schedule, as the laws have it. -/
import Derived.Test.YtknkpajedbckmaaDoorSched
import Derived.Test.YtknkpajedbckmaaDoorStructs
import Derived.Test.YtknkpajedbckmaaDoorRows
namespace Go.Proofs.YtknkpajedbckmaaDoor
open Go.RowKit Go.ChangeShapes Go.WideShapes Go.ChangeAt

theorem six_of {α : Type} : ∀ (l : List α), l.length = 6 → ∃ a b c d e f, l = [a, b, c, d, e, f]
  | [a, b, c, d, e, f], _ => ⟨a, b, c, d, e, f, rfl⟩
  | [], h => absurd h (by simp)
  | [_], h => absurd h (by simp)
  | [_, _], h => absurd h (by simp)
  | [_, _, _], h => absurd h (by simp)
  | [_, _, _, _], h => absurd h (by simp)
  | [_, _, _, _, _], h => absurd h (by simp)
  | _ :: _ :: _ :: _ :: _ :: _ :: _ :: _, h => absurd h (by simp)
section
variable {H : Type} {enc : TypeId × Value → H} {W : World}
theorem cellsInt : Tryd.prog.cellsOf 3 = 1 := by kernel_rfl
theorem cellsPool : Tryd.prog.cellsOf 30 = 3 := by kernel_rfl
theorem cellsJs : Tryd.prog.cellsOf 31 = 1 := by kernel_rfl
theorem cellsTs : Tryd.prog.cellsOf 32 = 1 := by kernel_rfl
theorem cellsFs : Tryd.prog.cellsOf 33 = 1 := by kernel_rfl
theorem some_of {α : Type} {x : Option α} {l : List α} {i : Nat} (h : x = l[i]?) (hi : i < l.length) : ∃ y, x = some y ∧ y ∈ l := ⟨l[i], by rw [h, List.getElem?_eq_getElem hi], List.getElem_mem hi⟩
theorem view_pool {n : Nat} {c0 c1 c2 : Value} {y : DataW H × List MemPlace} (h : DataW.trod enc Tryd.prog W 0 (fun _ => true) true n 30 [c0, c1, c2] = some y) :
    ∃ z n b, c0 = .int .i64 z ∧ c1 = .int .i64 n ∧ c2 = .int .i64 b := by
  obtain ⟨ys, n', hn', hy, hlen, hyl, hff⟩ := DataW.trod_struct Tryd.underlying30 h
  have g0 := hff 0 _ rfl
  have g1 := hff 1 _ rfl
  have g2 := hff 2 _ rfl
  have hyl' : ys.length = 3 := hyl
  clear hff hyl
  change DataW.trod enc Tryd.prog W 0 (fun _ => true) true n' 3 (([c0, c1, c2].drop 0).take (Tryd.prog.cellsOf 3)) = ys[0]? at g0
  change DataW.trod enc Tryd.prog W 0 (fun _ => true) true n' 3 (([c0, c1, c2].drop 1).take (Tryd.prog.cellsOf 3)) = ys[1]? at g1
  change DataW.trod enc Tryd.prog W 0 (fun _ => true) true n' 3 (([c0, c1, c2].drop 2).take (Tryd.prog.cellsOf 3)) = ys[2]? at g2
  rw [cellsInt] at g0 g1 g2
  obtain ⟨y0, g0, _⟩ := some_of g0 (by omega)
  obtain ⟨y1, g1, _⟩ := some_of g1 (by omega)
  obtain ⟨y2, g2, _⟩ := some_of g2 (by omega)
  obtain ⟨z, e0, _⟩ := DataW.trod_int Tryd.underlying3 g0
  obtain ⟨n, e1, _⟩ := DataW.trod_int Tryd.underlying3 g1
  obtain ⟨b, e2, _⟩ := DataW.trod_int Tryd.underlying3 g2
  exact ⟨z, n, b, by simpa using e0, by simpa using e1, by simpa using e2⟩
set_option maxRecDepth 100000 in
theorem view_schedR {r : Reach} {b0 : Nat} {v : Value} {d : DataW H} {ps : List MemPlace} (hv : Value.okWide Tryd.prog W r b0 35 v)
    (h : DataW.Trod enc Tryd.prog W 0 (fun _ => true) true 35 v d ps) (hlt : ∀ x ∈ ps, x.block < W.heap.size) :
    ∃ (S : SV) (J T F : Option Addr) (cj ct cf : Nat), v = .agg #[.int .i64 S.z, .int .i64 S.n, .int .i64 S.b, .slice J S.js.length cj, .slice T S.ts.length ct, .slice F S.fs.length cf] ∧
      Cells W W.heap.size J (ints (flatJ S.js)) ∧ Cells W W.heap.size T (ints (flatT S.ts)) ∧ Cells W W.heap.size F (ints S.fs) ∧ S.js.length ≤ maxLen ∧ S.ts.length ≤ maxLen ∧ S.fs.length ≤ maxLen ∧ ∀ x ∈ S.fs, (Lit.int .i64 x).wf = true := by
  have hs := Tryd.underlying35
  obtain ⟨cs, rfl, hsz⟩ := okWide_struct hs hv
  have hC : Tryd.prog.cellsOf 35 = 6 := by kernel_rfl
  rw [hC] at hsz
  obtain ⟨fuel, hf⟩ := h
  obtain ⟨ys, n', hn', hy, hlen, hyl, hff⟩ := DataW.trod_struct hs hf
  obtain ⟨l⟩ := cs
  obtain ⟨c0, c1, c2, c3, c4, c5, rfl⟩ := six_of l hsz
  have g0 := hff 0 _ rfl
  have g1 := hff 1 _ rfl
  have g2 := hff 2 _ rfl
  have g3 := hff 3 _ rfl
  have hyl' : ys.length = 4 := hyl
  clear hff hyl hv hf
  change DataW.trod enc Tryd.prog W 0 (fun _ => true) true n' 30 (([c0, c1, c2, c3, c4, c5].drop 0).take (Tryd.prog.cellsOf 30)) = ys[0]? at g0
  change DataW.trod enc Tryd.prog W 0 (fun _ => true) true n' 31 (([c0, c1, c2, c3, c4, c5].drop 3).take (Tryd.prog.cellsOf 31)) = ys[1]? at g1
  change DataW.trod enc Tryd.prog W 0 (fun _ => true) true n' 32 (([c0, c1, c2, c3, c4, c5].drop 4).take (Tryd.prog.cellsOf 32)) = ys[2]? at g2
  change DataW.trod enc Tryd.prog W 0 (fun _ => true) true n' 33 (([c0, c1, c2, c3, c4, c5].drop 5).take (Tryd.prog.cellsOf 33)) = ys[3]? at g3
  rw [cellsPool] at g0
  rw [cellsJs] at g1
  rw [cellsTs] at g2
  rw [cellsFs] at g3
  obtain ⟨y0, g0, m0⟩ := some_of g0 (by omega)
  obtain ⟨y1, g1, m1⟩ := some_of g1 (by omega)
  obtain ⟨y2, g2, m2⟩ := some_of g2 (by omega)
  obtain ⟨y3, g3, m3⟩ := some_of g3 (by omega)
  have hps : ps = ys.flatMap (·.2) := by injection hy
  have hin : ∀ y ∈ ys, ∀ x ∈ y.2, x.block < W.heap.size := fun y hy x hx => hlt x (by rw [hps]; exact List.mem_flatMap.2 ⟨y, hy, hx⟩)
  obtain ⟨z, n, b, rfl, rfl, rfl⟩ := view_pool g0
  obtain ⟨J, cj, nj, xj, rfl, lj, hj, bj⟩ := view_structsF (F := 4) Tryd.underlying31 Tryd.underlying77 (by kernel_rfl) (by kernel_rfl) rfl (by kernel_rfl) (by decide) g1 (hin _ m1)
  obtain ⟨T, ct, nt, xt, rfl, lt, ht, bt⟩ := view_structsF (F := 2) Tryd.underlying32 Tryd.underlying79 (by kernel_rfl) (by kernel_rfl) rfl (by kernel_rfl) (by decide) g2 (hin _ m2)
  obtain ⟨F, cf, xf, rfl, hc, wf, bf⟩ := view_intsF Tryd.underlying33 Tryd.underlying3 (by kernel_rfl) g3 (hin _ m3)
  obtain ⟨js, rfl, rfl⟩ := flatJ_of nj xj lj
  obtain ⟨ts, rfl, rfl⟩ := flatT_of nt xt lt
  exact ⟨⟨z, n, b, js, ts, xf⟩, J, T, F, cj, ct, cf, rfl, hj, ht, hc, bj, bt, bf, wf⟩
theorem view_sched {r : Reach} {b0 : Nat} {v : Value} {d : DataW H} {ps : List MemPlace} (hv : Value.okWide Tryd.prog W r b0 35 v)
    (h : DataW.Trod enc Tryd.prog W 0 (fun _ => true) true 35 v d ps) (hlt : ∀ x ∈ ps, x.block < W.heap.size) :
    ∃ (S : SV) (J T F : Option Addr) (cj ct cf : Nat), v = .agg #[.int .i64 S.z, .int .i64 S.n, .int .i64 S.b, .slice J S.js.length cj, .slice T S.ts.length ct, .slice F S.fs.length cf] ∧
      Cells W W.heap.size J (ints (flatJ S.js)) ∧ Cells W W.heap.size T (ints (flatT S.ts)) ∧ Cells W W.heap.size F (ints S.fs) ∧ S.js.length ≤ maxLen ∧ S.ts.length ≤ maxLen ∧ S.fs.length ≤ maxLen := by
  obtain ⟨S, J, T, F, cj, ct, cf, h1, h2, h3, h4, h5, h6, h7, _⟩ := view_schedR hv h hlt
  exact ⟨S, J, T, F, cj, ct, cf, h1, h2, h3, h4, h5, h6, h7⟩
end
end Go.Proofs.YtknkpajedbckmaaDoor
