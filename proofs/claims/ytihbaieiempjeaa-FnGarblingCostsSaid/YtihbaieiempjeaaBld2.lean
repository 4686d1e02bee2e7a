/- More on what stays; copies of rows of numbers, in the program. -/
import Derived.Test.YtihbaieiempjeaaFull
import Derived.StillTailTactics
namespace Go.Proofs.Ytihbaieiempjeaa
open Go.RowKit

section
variable {T lo : Nat} {w w0 w1 w' : World} {gs : List Gt} {O : Value} {bp g : Nat}
theorem Stay.drew (h : Stay T lo w w') : Stay T lo w w'.drew := ⟨h.os, h.tape, h.output, h.size, h.block⟩
theorem Stay.alloc (h : Stay T lo w w') (o : Obj) : Stay T lo w (w'.alloc o) :=
  ⟨h.os, h.tape, h.output, by have := h.size; simp; omega, fun i hi hn => (Below.heap_alloc w' o i (Nat.lt_of_lt_of_le hi h.size)).trans (h.block i hi hn)⟩
theorem Stay.past (h : Stay T lo w w1) (hb : Below w1.heap.size w1 w') : Stay T lo w w' := h.trans (Stay.of_below hb)
theorem Stay.grown (h : Stay T lo w w1) (hg : w1.grownBy w' (some g)) (hw : w.heap.size ≤ g) : Stay T lo w w' :=
  ⟨hg.os.trans h.os, hg.tape.trans h.tape, hg.output.trans h.output, Nat.le_trans h.size hg.size, fun i hi hn => (hg.block i (Nat.lt_of_lt_of_le hi h.size) (fun e => by injection e with e; omega)).trans (h.block i hi hn)⟩
theorem Stay.onto {X : World} (h : Stay T lo w w1) (t : Stay T lo X w') (h1 : X.os = w1.os) (h2 : X.tape = w1.tape) (h3 : X.output = w1.output) (h4 : X.heap = w1.heap) : Stay T lo w w' :=
  h.trans ⟨t.os.trans h1, t.tape.trans h2, t.output.trans h3, by rw [← h4]; exact t.size, fun i hi hn => by
    rw [← h4] at hi ⊢
    refine t.block i hi ?_
    unfold Other at hn ⊢
    rw [h4]
    exact hn⟩
theorem Bld.heap {X : World} (h : Bld T w lo bp gs O) (e : X.heap = w.heap) : Bld T X lo bp gs O := by
  unfold Bld Blk World.ownsRow at h ⊢
  rw [e]
  exact h
theorem Bld.drew (h : Bld T w lo bp gs O) : Bld T w.drew lo bp gs O := h
theorem Bld.below (h : Bld T w lo bp gs O) (hb : Below w.heap.size w w') : Bld T w' lo bp gs O := by
  obtain ⟨A, c, h1, h2, h3⟩ := h
  exact ⟨A, c, Blk.past hb h1, h2, own_below h3 hb⟩
theorem Bld.grown {n c : Nat} {xs : List Int} (h : Bld T w lo bp gs O) (hg : w.grownBy w' (some g)) (hr : RowI w g n c xs) (hT : 3 ≠ T) : Bld T w' lo bp gs O := by
  obtain ⟨A, k, h1, h2, h3⟩ := h
  refine ⟨A, k, gr_blk hg h1 fun q hq => ?_, h2, gr_own hg h3 fun q p hq hp => ?_⟩
  · injection hq with hq
    subst hq
    exact own_ne_obj hr h1 hT _ rfl
  · injection hq with hq
    subst hq
    exact own_ne hr h3 (by decide) _ _ rfl hp
theorem Bld.len (h : Bld T w lo bp gs O) : bp < w.heap.size ∧ lo ≤ bp := by
  obtain ⟨A, k, h1, h2, _⟩ := h
  exact ⟨h1.lt, h2⟩
theorem Wd.heap {X : World} {A : Option Addr} {xs : List Int} (h : Wd w A xs) (e : X.heap = w.heap) : Wd X A xs := by
  unfold Wd at h ⊢
  rw [e]
  exact h
theorem Wd.onto {X : World} {A : Option Addr} {xs : List Int} (h : Wd w A xs) (t : Stay T lo X w') (e : X.heap = w.heap) (h1 : 3 ≠ T) : Wd w' A xs := (h.heap e).stay t h1
theorem Row.onto {X : World} {e s n c : Nat} {xs : List Value} (h : Row w g e s n c xs) (t : Stay T lo X w') (he : X.heap = w.heap) (h1 : e ≠ T) (h2 : e ≠ TG) : Row w' g e s n c xs := by
  have h' : Row X g e s n c xs := by
    unfold Row World.ownsRow at h ⊢
    rw [he]
    exact h
  exact t.row h' h1 h2
theorem Wd.grown {xs : List Int} {b off : Nat} (h : Wd w (some ⟨b, off, none⟩) xs) (hg : w.grownBy w' (some g)) (hne : b ≠ g) : Wd w' (some ⟨b, off, none⟩) xs := by
  have hlt := h.lt
  obtain ⟨b', off', cs, m, e, hh, hc⟩ := h
  injection e with e
  injection e with e1 e2
  subst e1 e2
  exact ⟨b, off, cs, m, rfl, (hg.block b hlt (fun e => by injection e with e; omega)).trans hh, hc⟩
end
theorem wpList_app_nil {P : Program} {w : World} {ops : Array Oper} {rest : List Oper} {o : Oper} {a : Act} {Q : Exit → Act → World → Prop} (hgd : o.guard = none) (s x : Operand) (t : TypeId)
    (ho : o.op = .call { callee := .builtin .append, args := #[s, x], argTypes := #[t, t] })
    (e : Nat) (z : Value) (size bytes : Nat) (ht : P.underlying t = some (.slice e)) (hinfo : (P.info? e).map (fun i => (i.zero, i.size, i.bytes)) = some (some z, size, bytes))
    {g : Nat} (hs : a.eval s = .slice (some ⟨g, 0, none⟩) 0 0) (hx : a.eval x = .slice none 0 0) (h : wpList P ops Q rest (a.put o.dst (.slice (some ⟨g, 0, none⟩) 0 0)) w) : wpList P ops Q (o :: rest) a w := by
  obtain ⟨i, hi, hz0, hz1, hz2⟩ := info_parts hinfo
  refine wpList_plain hgd fun K hK => ?_
  have hr : (Builtin.append_ #[t, t] o.type #[.slice (some ⟨g, 0, none⟩) 0 0, .slice none 0 0]).run P w = .ok (.slice (some ⟨g, 0, none⟩) 0 0) w := by
    simp [Builtin.append_, run_underlying ht, sizeOf, typeInfo, hi, Builtin.lenOf, Builtin.firstCells, storeCells]
  unfold Oper.wp execOp
  simp only [ho, resolve, invoke, builtin, Sem.run_bind, Sem.run_pure, Result.andThen_ok, List.map_toArray, List.map_cons, List.map_nil, hs, hx, hr]
  exact hK _ _ h
set_option linter.unusedVariables false in
theorem iIntsAt {b off : Nat} {xs : List Int} {n : Nat} (c : Nat) (w : World) (h : ∀ j u, (ints xs)[j]? = some u → w.cell? ⟨b, off + j, none⟩ = some u) (hb : b < w.heap.size) (hl : xs.length = n) (hn : n ≤ 100000) :
    Calls Try.prog 120 #[.slice (some ⟨b, off, none⟩) n c] w fun e w' => ∃ g k, e = .returned (.slice (some ⟨g, 0, none⟩) n k) ∧ w.heap.size ≤ g ∧ RowI w' g n k xs ∧ Below w.heap.size w w' := by
  have H := hid h
  clear h
  go_enter Try.func120, Try.ntmps120
  go_wp2_with (at_builtin; refine app_int (L := []) rfl _ _ rfl rfl (Row.new #[] (Nat.zero_le _) rfl rfl) xs rfl hl (fun j u hu => (cell_alloc (H.out j u hu) hb)) (by omega) ?_)
  intro g' c' w' h1 h2 h3
  have h2 := grown_alloc h2
  have hB := below_apps (Below.refl w.heap.size w) h2 (Nat.le_refl _) (Nat.le_refl _)
  have HR := hid (And.intro h1 hB)
  have hg : w.heap.size ≤ g' := by (try simp at h3); omega
  clear h1 h2 h3 hB
  go_wp2
  go_returns
  exact ⟨g', c', rfl, hg, HR.out.1, HR.out.2⟩
theorem iIntsNil (w : World) :
    Calls Try.prog 120 #[.slice none 0 0] w fun e w' => ∃ g k, e = .returned (.slice (some ⟨g, 0, none⟩) 0 k) ∧ w.heap.size ≤ g ∧ RowI w' g 0 k [] ∧ Below w.heap.size w w' := by
  go_enter Try.func120, Try.ntmps120
  go_wp2_with (at_builtin; refine wpList_app_nil rfl _ _ 25 rfl _ _ 1 8 Try.underlying25 infoI rfl rfl ?_)
  go_wp2
  go_returns
  exact ⟨w.heap.size, 0, rfl, Nat.le_refl _, Row.new #[] (Nat.zero_le _) rfl rfl, (Below.refl _ _).alloc (Nat.le_refl _) _⟩
end Go.Proofs.Ytihbaieiempjeaa
