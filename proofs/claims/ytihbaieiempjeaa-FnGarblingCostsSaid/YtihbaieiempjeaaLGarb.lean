import Derived.JoinedOf
import Derived.KernelRfl
import Derived.Test.YtihbaieiempjeaaRows
import Derived.Test.YtihbaieiempjeaaOpt
import Derived.Test.YtihbaieiempjeaaComp
import Derived.Test.YtihbaieiempjeaaBy
import Derived.Test.YtihbaieiempjeaaStmtI
import Derived.Deep.DeepCutAuto
import Derived.Test.YtihbaieiempjeaaGrow4
import Derived.Test.YtihbaieiempjeaaDrawE
import Derived.Test.YtihbaieiempjeaaGarG
import Derived.Test.YtihbaieiempjeaaCost
/- What the head of a translation says (how it was made), read word by word: general lemmas, no program is named. They spare the kernel the great string. -/
namespace Go.Proofs.Ytihbaieiempjeaa

def chars (l : List Nat) : List Char := l.map Char.ofNat
theorem words_split (a b : List Nat) (h : (chars a).all (fun c => c != Char.ofNat 32) = true) : wordsSigns (chars (a ++ 32 :: b)) = chars a :: wordsSigns (chars b) := by
  induction a with
  | nil => rfl
  | cons x a ih =>
    have h1 : Char.ofNat x ≠ Char.ofNat 32 := by simpa [chars] using (List.all_eq_true.1 h) (Char.ofNat x) (by simp [chars])
    have h2 := ih (by simp only [chars, List.map_cons, List.all_cons, Bool.and_eq_true] at h ⊢; exact h.2)
    show wordsSigns (Char.ofNat x :: chars (a ++ 32 :: b)) = _
    conv => lhs; unfold wordsSigns
    split
    · rename_i e; cases e
    · rename_i r e
      injection e with e1 e2
      exact absurd e1 h1
    · rename_i c r _ e
      injection e with e1 e2
      subst e1 e2
      rw [h2]
      rfl
theorem behind_of (a b : List Char) (T : List (List Char)) (h1 : ((a == "harness".toList || a == "ownmain".toList) && isSumSigns b) = true) : behindMainWord (a :: b :: T) = T := by
  simp only [behindMainWord, h1, if_true]
theorem make_of (P : Program) (a b c : List Char) (T : List (List Char)) (h : wordsSigns P.initOrder.toList = a :: b :: c :: T)
    (h1 : ((a == "harness".toList || a == "ownmain".toList) && isSumSigns b) = true) (h2 : (c == "gc".toList || c == "spec".toList) = false) (h3 : (c == "cut".toList) = true) : P.make = some .cut := by
  unfold Program.make
  rw [h, behind_of a b _ h1]
  simp only [h2, h3]
  simp
theorem strip_none (c : List Char) (T : List (List Char)) : ∀ (os : List String), os.all (fun o => !(c == o.toList)) = true → stripLifts os (c :: T) = ([], c :: T)
  | [], _ => rfl
  | o :: os, h => by
    simp only [List.all_cons, Bool.and_eq_true, Bool.not_eq_true'] at h
    unfold stripLifts
    rw [h.1, if_neg Bool.false_ne_true]
    exact strip_none c T os h.2
theorem may_of (P : Program) (a b c : List Char) (T : List (List Char)) (h : wordsSigns P.initOrder.toList = a :: b :: c :: T)
    (h1 : ((a == "harness".toList || a == "ownmain".toList) && isSumSigns b) = true) (h3 : (c == "cut".toList) = true) (h4 : liftWords.all (fun o => !(c == o.toList)) = true)
    (h5 : P.laysLater = false) (h6 : P.bearsReflect = false) (h7 : P.doorFits [] = true) : P.mayEnter = true := by
  have e : c = "cut".toList := by simpa using h3
  unfold Program.mayEnter
  rw [h, behind_of a b _ h1]
  simp only [strip_none c T _ h4, h5, h6, h7]
  simp [e]
theorem finals_of (P : Program) (a b c : List Char) (T : List (List Char)) (h : wordsSigns P.initOrder.toList = a :: b :: c :: T)
    (h1 : ((a == "harness".toList || a == "ownmain".toList) && isSumSigns b) = true) (h2 : (c == "carried".toList) = false) (h4 : liftWords.all (fun o => !(c == o.toList)) = true) : P.liftsFinal = false := by
  unfold Program.liftsFinal Program.headLifts
  rw [h, behind_of a b _ h1]
  simp only [strip_none c T _ h4, List.head?_cons]
  have e : ((some c : Option (List Char)) == some "carried".toList) = false := h2
  rw [e]
  simp
end Go.Proofs.Ytihbaieiempjeaa
/- How this seat's translation was made, read off its head: three facts that every row of the seat asks. Written by program. -/
namespace Go.Proofs.Ytihbaieiempjeaa
set_option maxRecDepth 100000 in
def headA : List Nat := [104, 97, 114, 110, 101, 115, 115]
set_option maxRecDepth 100000 in
def headB : List Nat := [49, 49, 51, 56, 101, 57, 53, 102, 52, 100, 99, 97, 97, 50, 49, 48, 101, 48, 56, 48, 55, 48, 101, 53, 50, 57, 49, 100, 49, 49, 102, 99, 101, 102, 102, 100, 55, 53, 52, 56,
  98, 100, 99, 53, 57, 100, 56, 51, 48, 98, 54, 52, 55, 99, 57, 51, 56, 49, 52, 97, 48, 102, 54, 97]
set_option maxRecDepth 100000 in
def headC : List Nat := [99, 117, 116]
set_option maxRecDepth 100000 in
def headD : List Nat := [97, 116, 32, 108, 111, 111, 112, 46, 101, 120, 97, 109, 112, 108, 101, 47, 103, 48, 48, 57, 55, 57, 47, 108, 97, 119, 115, 46, 70, 110, 71, 97, 114, 98, 108, 105, 110, 103, 67, 111,
  115, 116, 115, 32, 108, 111, 111, 112, 46, 101, 120, 97, 109, 112, 108, 101, 47, 103, 48, 48, 57, 55, 57, 47, 108, 97, 119, 115, 46, 70, 110, 80, 114, 111, 103, 114, 97, 109, 67, 111,
  115, 116, 115, 32, 108, 111, 111, 112, 46, 101, 120, 97, 109, 112, 108, 101, 47, 103, 48, 48, 57, 55, 57, 47, 108, 97, 119, 115, 46, 70, 110, 69, 120, 97, 99, 116, 80, 114, 111, 103,
  114, 97, 109, 67, 111, 115, 116]
set_option maxRecDepth 100000 in
theorem headIs : Try.prog.initOrder = String.ofList (chars (headA ++ 32 :: (headB ++ 32 :: (headC ++ 32 :: headD)))) := by kernel_rfl
theorem headWords : wordsSigns Try.prog.initOrder.toList = chars headA :: chars headB :: chars headC :: wordsSigns (chars headD) := by
  rw [headIs, String.toList_ofList, words_split _ _ (by kernel_rfl), words_split _ _ (by kernel_rfl), words_split _ _ (by kernel_rfl)]
theorem makeIs : Try.prog.make = some .cut := make_of _ _ _ _ _ headWords (by kernel_rfl) (by kernel_rfl) (by kernel_rfl)
theorem mayIs : Try.prog.mayEnter = true := may_of _ _ _ _ _ headWords (by kernel_rfl) (by kernel_rfl) (by kernel_rfl) (by kernel_rfl) (by kernel_rfl) (by kernel_rfl)
theorem finalsIs : Try.prog.liftsFinal = false := finals_of _ _ _ _ _ headWords (by kernel_rfl) (by kernel_rfl) (by kernel_rfl)
theorem own : ownKnob Try.prog.godebug = none := by kernel_rfl
end Go.Proofs.Ytihbaieiempjeaa
/- The products of a compiled program, statement by statement. No program is named here. -/
namespace Go.Proofs.Ytihbaieiempjeaa

theorem andG_app (A B : List Gt) : andG (A ++ B) = andG A + andG B := by
  unfold andG
  rw [List.filter_append, List.length_append]
theorem and_full (gs : List Gt) (a b c : Int) : andG (fullG gs a b c) = andG gs + 1 := by
  unfold fullG
  rw [andG_app]
  rfl
theorem and_sumTo (gs : List Gt) (ws bs : List Int) (f : Int) : ∀ i, andG (sumTo gs ws bs f i) = andG gs + i
  | 0 => by rw [sumTo, andG_app]; rfl
  | i + 1 => by rw [sumTo, and_full, and_sumTo gs ws bs f i]; omega
theorem and_sum (gs : List Gt) (ws bs : List Int) (f : Int) (m : Nat) : andG (sumG gs ws bs f m) = andG gs + m := by
  unfold sumG
  rw [andG_app, and_sumTo]
  rfl
theorem and_nots0 : ∀ bs : List Int, andG (bs.map fun b => (⟨5, b, 0⟩ : Gt)) = 0
  | [] => rfl
  | _ :: r => and_nots0 r
theorem and_nots (gs : List Gt) (bs : List Int) : andG (notsG gs bs) = andG gs := by
  unfold notsG
  rw [andG_app, and_nots0]
  rfl
theorem and_const (gs : List Gt) (n : Int) : ∀ i, andG (constTo gs n i) = andG gs
  | 0 => rfl
  | i + 1 => by rw [constTo, andG_app, and_const gs n i]; rfl
theorem and_less (gs : List Gt) (ws bs : List Int) : andG (lessG gs ws bs) = andG gs + 4 := by
  unfold lessG
  rw [andG_app, and_sumTo, and_nots]
  rfl
theorem and_eqTo (gs : List Gt) (ws bs : List Int) : ∀ i, andG (eqTo gs ws bs i) = andG gs
  | 0 => rfl
  | i + 1 => by rw [eqTo, andG_app, and_eqTo gs ws bs i]; rfl
theorem and_eq (gs : List Gt) (ws bs : List Int) : andG (eqG gs ws bs) = andG gs + 3 := by
  unfold eqG
  rw [andG_app, and_eqTo]
  rfl
theorem and_mux (gs : List Gt) (s : Int) (ws bs : List Int) : ∀ i, andG (muxTo gs s ws bs i) = andG gs + i
  | 0 => rfl
  | i + 1 => by rw [muxTo, andG_app, and_mux gs s ws bs i]; rfl
theorem and_ands (gs : List Gt) (x : Int) (ws : List Int) : ∀ k, andG (andsTo gs x ws k) = andG gs + k
  | 0 => rfl
  | k + 1 => by rw [andsTo, andG_app, and_ands gs x ws k]; rfl
theorem and_bit4 (gs : List Gt) (ws bs : List Int) : ∀ i, andG (bitTo gs 4 ws bs i) = andG gs + i
  | 0 => rfl
  | i + 1 => by rw [bitTo, andG_app, and_bit4 gs ws bs i]; rfl
theorem and_bit3 (gs : List Gt) (ws bs : List Int) : ∀ i, andG (bitTo gs 3 ws bs i) = andG gs
  | 0 => rfl
  | i + 1 => by rw [bitTo, andG_app, and_bit3 gs ws bs i]; rfl
theorem and_in (gs : List Gt) (p n : Int) : ∀ i, andG (inTo gs p n i) = andG gs
  | 0 => rfl
  | i + 1 => by rw [inTo, andG_app, and_in gs p n i]; rfl
theorem and_mul (gs : List Gt) (ws bs : List Int) : andG (mulTo gs ws bs 3).1 = andG gs + 13 := by
  simp only [mulTo, and_sum, and_ands]
/-- The products that a statement costs. -/
def andsP (s : St) : Nat := if s.o = 3 ∨ s.o = 4 ∨ s.o = 9 then 3 else if s.o = 5 then 13 else if s.o = 6 ∨ s.o = 8 ∨ s.o = 10 then 4 else 0
theorem and_word (gs : List Gt) (rs : List (List Int)) (z : Int) (s : St) (h : 1 ≤ s.o ∧ s.o ≤ 10) : andG (wordP gs rs z s).1 = andG gs + andsP s := by
  obtain ⟨o, d, a, b, c, n⟩ := s
  dsimp only at h
  have ho : o = 1 ∨ o = 2 ∨ o = 3 ∨ o = 4 ∨ o = 5 ∨ o = 6 ∨ o = 7 ∨ o = 8 ∨ o = 9 ∨ o = 10 := by omega
  rcases ho with rfl | rfl | rfl | rfl | rfl | rfl | rfl | rfl | rfl | rfl
  · exact and_const _ _ _
  · exact and_in _ _ _ _
  · exact and_sum _ _ _ _ _
  · exact (and_sum _ _ _ _ _).trans (by rw [and_nots]; rfl)
  · exact and_mul _ _ _
  · exact and_bit4 _ _ _ _
  · exact and_bit3 _ _ _ _
  · exact and_less _ _ _
  · exact and_eq _ _ _
  · exact and_mux _ _ _ _ _
def sumA : List St → Nat
  | [] => 0
  | s :: r => andsP s + sumA r
theorem and_step (c : Cs) (s : St) (h : 1 ≤ s.o ∧ s.o ≤ 11) : andG (stepC c s).g = andG c.g + andsP s := by
  unfold stepC
  by_cases h1 : s.o = 11
  · rw [if_pos h1]
    have : andsP s = 0 := by unfold andsP; rw [if_neg (by omega), if_neg (by omega), if_neg (by omega)]
    rw [this]
    rfl
  · rw [if_neg h1]
    exact and_word _ _ _ _ (by omega)
theorem and_fold_comp : ∀ (L : List St) (c : Cs), (∀ s ∈ L, 1 ≤ s.o ∧ s.o ≤ 11) → andG (L.foldl stepC c).g = andG c.g + sumA L
  | [], c, _ => rfl
  | s :: r, c, h => by
    rw [List.foldl_cons, and_fold_comp r _ fun x hx => h x (List.mem_cons_of_mem _ hx), and_step c s (h s List.mem_cons_self), sumA]
    omega
theorem and_comp (L : List St) (h : ∀ s ∈ L, 1 ≤ s.o ∧ s.o ≤ 11) : andG (compC L).g = sumA L := by
  unfold compC
  rw [and_fold_comp L _ h]
  have : andG cs0.g = 0 := and_const [] 0 4
  omega
end Go.Proofs.Ytihbaieiempjeaa
/- The products that a statement costs, in the program. -/
namespace Go.Proofs.Ytihbaieiempjeaa
open Go.RowKit

set_option linter.unusedVariables false in
set_option maxHeartbeats 1600000 in
theorem iAndsOf (o d a b c n : Int) (w : World) (hs : stmtB ⟨o, d, a, b, c, n⟩ = true) (ho : 1 ≤ o ∧ o ≤ 11) :
    Calls Try.prog 12 #[.agg #[.int .i64 o, .int .i64 d, .int .i64 a, .int .i64 b, .int .i64 c, .int .i64 n]] w fun e w' => e = .returned (.int .i64 (andsP ⟨o, d, a, b, c, n⟩ : Int)) ∧ Below w.heap.size w w' := by
  have HK := hid (fun w => iStmtOk o d a b c n w)
  rw [hs] at HK
  clear hs
  have h11 : o = 1 ∨ o = 2 ∨ o = 3 ∨ o = 4 ∨ o = 5 ∨ o = 6 ∨ o = 7 ∨ o = 8 ∨ o = 9 ∨ o = 10 ∨ o = 11 := by omega
  clear ho
  rcases h11 with rfl | rfl | rfl | rfl | rfl | rfl | rfl | rfl | rfl | rfl | rfl
  · skip
    go_enter Try.func12, Try.ntmps12
    have b_0 := (Below.refl w.heap.size w)
    have s_0 := b_0.size
    go_upto_region 1 with fail
    refine wp_forget1 (w0 := w) (B := w.heap.size) (b0 := w.heap.size) (t0 := 45) (c0 := #[.int .i64 1, .int .i64 d, .int .i64 a, .int .i64 b, .int .i64 c, .int .i64 n]) ?_ ?_ ?_
    (focus exact blkcBy)
    (focus (exact belBy))
    intro w1 x_1 hX1
    have sX1 := hX1.size
    have x_lt := x_1.lt
    have b_1 := b_0.trans (hX1.mono (by omega))
    clear b_0 hX1
    have cell_x := x_1.cell
    have froz_x := x_1.frozen
    have lt_x := x_1.lt
    go_wp2_with fail
    refine calls_forget0 (W := w1) ?_ ?_
    (focus (exact belBy))
    intro X2 hX2
    have sX2 := hX2.size
    refine (HK.out _).mono ?_
    rintro e w2 ⟨rfl, hb2⟩
    have s2 := hb2.size
    have hT2 := hX2.trans (hb2.mono sX2)
    have b_2 := b_1.trans (hT2.mono (by omega))
    have x_2 := Blk.past hT2 x_1
    clear x_1 b_1 cell_x froz_x lt_x hX2 hT2 hb2
    have cell_x := x_2.cell
    have froz_x := x_2.frozen
    have lt_x := x_2.lt
    go_wp2
    go_ret
    refine ⟨rfl, b_2.trans ?_⟩
    exact belBy
  · skip
    go_enter Try.func12, Try.ntmps12
    have b_0 := (Below.refl w.heap.size w)
    have s_0 := b_0.size
    go_upto_region 1 with fail
    refine wp_forget1 (w0 := w) (B := w.heap.size) (b0 := w.heap.size) (t0 := 45) (c0 := #[.int .i64 2, .int .i64 d, .int .i64 a, .int .i64 b, .int .i64 c, .int .i64 n]) ?_ ?_ ?_
    (focus exact blkcBy)
    (focus (exact belBy))
    intro w1 x_1 hX1
    have sX1 := hX1.size
    have x_lt := x_1.lt
    have b_1 := b_0.trans (hX1.mono (by omega))
    clear b_0 hX1
    have cell_x := x_1.cell
    have froz_x := x_1.frozen
    have lt_x := x_1.lt
    go_wp2_with fail
    refine calls_forget0 (W := w1) ?_ ?_
    (focus (exact belBy))
    intro X2 hX2
    have sX2 := hX2.size
    refine (HK.out _).mono ?_
    rintro e w2 ⟨rfl, hb2⟩
    have s2 := hb2.size
    have hT2 := hX2.trans (hb2.mono sX2)
    have b_2 := b_1.trans (hT2.mono (by omega))
    have x_2 := Blk.past hT2 x_1
    clear x_1 b_1 cell_x froz_x lt_x hX2 hT2 hb2
    have cell_x := x_2.cell
    have froz_x := x_2.frozen
    have lt_x := x_2.lt
    go_wp2
    go_ret
    refine ⟨rfl, b_2.trans ?_⟩
    exact belBy
  · skip
    go_enter Try.func12, Try.ntmps12
    have b_0 := (Below.refl w.heap.size w)
    have s_0 := b_0.size
    go_upto_region 1 with fail
    refine wp_forget1 (w0 := w) (B := w.heap.size) (b0 := w.heap.size) (t0 := 45) (c0 := #[.int .i64 3, .int .i64 d, .int .i64 a, .int .i64 b, .int .i64 c, .int .i64 n]) ?_ ?_ ?_
    (focus exact blkcBy)
    (focus (exact belBy))
    intro w1 x_1 hX1
    have sX1 := hX1.size
    have x_lt := x_1.lt
    have b_1 := b_0.trans (hX1.mono (by omega))
    clear b_0 hX1
    have cell_x := x_1.cell
    have froz_x := x_1.frozen
    have lt_x := x_1.lt
    go_wp2_with fail
    refine calls_forget0 (W := w1) ?_ ?_
    (focus (exact belBy))
    intro X2 hX2
    have sX2 := hX2.size
    refine (HK.out _).mono ?_
    rintro e w2 ⟨rfl, hb2⟩
    have s2 := hb2.size
    have hT2 := hX2.trans (hb2.mono sX2)
    have b_2 := b_1.trans (hT2.mono (by omega))
    have x_2 := Blk.past hT2 x_1
    clear x_1 b_1 cell_x froz_x lt_x hX2 hT2 hb2
    have cell_x := x_2.cell
    have froz_x := x_2.frozen
    have lt_x := x_2.lt
    go_wp2
    go_ret
    refine ⟨rfl, b_2.trans ?_⟩
    exact belBy
  · skip
    go_enter Try.func12, Try.ntmps12
    have b_0 := (Below.refl w.heap.size w)
    have s_0 := b_0.size
    go_upto_region 1 with fail
    refine wp_forget1 (w0 := w) (B := w.heap.size) (b0 := w.heap.size) (t0 := 45) (c0 := #[.int .i64 4, .int .i64 d, .int .i64 a, .int .i64 b, .int .i64 c, .int .i64 n]) ?_ ?_ ?_
    (focus exact blkcBy)
    (focus (exact belBy))
    intro w1 x_1 hX1
    have sX1 := hX1.size
    have x_lt := x_1.lt
    have b_1 := b_0.trans (hX1.mono (by omega))
    clear b_0 hX1
    have cell_x := x_1.cell
    have froz_x := x_1.frozen
    have lt_x := x_1.lt
    go_wp2_with fail
    refine calls_forget0 (W := w1) ?_ ?_
    (focus (exact belBy))
    intro X2 hX2
    have sX2 := hX2.size
    refine (HK.out _).mono ?_
    rintro e w2 ⟨rfl, hb2⟩
    have s2 := hb2.size
    have hT2 := hX2.trans (hb2.mono sX2)
    have b_2 := b_1.trans (hT2.mono (by omega))
    have x_2 := Blk.past hT2 x_1
    clear x_1 b_1 cell_x froz_x lt_x hX2 hT2 hb2
    have cell_x := x_2.cell
    have froz_x := x_2.frozen
    have lt_x := x_2.lt
    go_wp2
    go_ret
    refine ⟨rfl, b_2.trans ?_⟩
    exact belBy
  · skip
    go_enter Try.func12, Try.ntmps12
    have b_0 := (Below.refl w.heap.size w)
    have s_0 := b_0.size
    go_upto_region 1 with fail
    refine wp_forget1 (w0 := w) (B := w.heap.size) (b0 := w.heap.size) (t0 := 45) (c0 := #[.int .i64 5, .int .i64 d, .int .i64 a, .int .i64 b, .int .i64 c, .int .i64 n]) ?_ ?_ ?_
    (focus exact blkcBy)
    (focus (exact belBy))
    intro w1 x_1 hX1
    have sX1 := hX1.size
    have x_lt := x_1.lt
    have b_1 := b_0.trans (hX1.mono (by omega))
    clear b_0 hX1
    have cell_x := x_1.cell
    have froz_x := x_1.frozen
    have lt_x := x_1.lt
    go_wp2_with fail
    refine calls_forget0 (W := w1) ?_ ?_
    (focus (exact belBy))
    intro X2 hX2
    have sX2 := hX2.size
    refine (HK.out _).mono ?_
    rintro e w2 ⟨rfl, hb2⟩
    have s2 := hb2.size
    have hT2 := hX2.trans (hb2.mono sX2)
    have b_2 := b_1.trans (hT2.mono (by omega))
    have x_2 := Blk.past hT2 x_1
    clear x_1 b_1 cell_x froz_x lt_x hX2 hT2 hb2
    have cell_x := x_2.cell
    have froz_x := x_2.frozen
    have lt_x := x_2.lt
    go_wp2
    go_ret
    refine ⟨rfl, b_2.trans ?_⟩
    exact belBy
  · skip
    go_enter Try.func12, Try.ntmps12
    have b_0 := (Below.refl w.heap.size w)
    have s_0 := b_0.size
    go_upto_region 1 with fail
    refine wp_forget1 (w0 := w) (B := w.heap.size) (b0 := w.heap.size) (t0 := 45) (c0 := #[.int .i64 6, .int .i64 d, .int .i64 a, .int .i64 b, .int .i64 c, .int .i64 n]) ?_ ?_ ?_
    (focus exact blkcBy)
    (focus (exact belBy))
    intro w1 x_1 hX1
    have sX1 := hX1.size
    have x_lt := x_1.lt
    have b_1 := b_0.trans (hX1.mono (by omega))
    clear b_0 hX1
    have cell_x := x_1.cell
    have froz_x := x_1.frozen
    have lt_x := x_1.lt
    go_wp2_with fail
    refine calls_forget0 (W := w1) ?_ ?_
    (focus (exact belBy))
    intro X2 hX2
    have sX2 := hX2.size
    refine (HK.out _).mono ?_
    rintro e w2 ⟨rfl, hb2⟩
    have s2 := hb2.size
    have hT2 := hX2.trans (hb2.mono sX2)
    have b_2 := b_1.trans (hT2.mono (by omega))
    have x_2 := Blk.past hT2 x_1
    clear x_1 b_1 cell_x froz_x lt_x hX2 hT2 hb2
    have cell_x := x_2.cell
    have froz_x := x_2.frozen
    have lt_x := x_2.lt
    go_wp2
    go_ret
    refine ⟨rfl, b_2.trans ?_⟩
    exact belBy
  · skip
    go_enter Try.func12, Try.ntmps12
    have b_0 := (Below.refl w.heap.size w)
    have s_0 := b_0.size
    go_upto_region 1 with fail
    refine wp_forget1 (w0 := w) (B := w.heap.size) (b0 := w.heap.size) (t0 := 45) (c0 := #[.int .i64 7, .int .i64 d, .int .i64 a, .int .i64 b, .int .i64 c, .int .i64 n]) ?_ ?_ ?_
    (focus exact blkcBy)
    (focus (exact belBy))
    intro w1 x_1 hX1
    have sX1 := hX1.size
    have x_lt := x_1.lt
    have b_1 := b_0.trans (hX1.mono (by omega))
    clear b_0 hX1
    have cell_x := x_1.cell
    have froz_x := x_1.frozen
    have lt_x := x_1.lt
    go_wp2_with fail
    refine calls_forget0 (W := w1) ?_ ?_
    (focus (exact belBy))
    intro X2 hX2
    have sX2 := hX2.size
    refine (HK.out _).mono ?_
    rintro e w2 ⟨rfl, hb2⟩
    have s2 := hb2.size
    have hT2 := hX2.trans (hb2.mono sX2)
    have b_2 := b_1.trans (hT2.mono (by omega))
    have x_2 := Blk.past hT2 x_1
    clear x_1 b_1 cell_x froz_x lt_x hX2 hT2 hb2
    have cell_x := x_2.cell
    have froz_x := x_2.frozen
    have lt_x := x_2.lt
    go_wp2
    go_ret
    refine ⟨rfl, b_2.trans ?_⟩
    exact belBy
  · skip
    go_enter Try.func12, Try.ntmps12
    have b_0 := (Below.refl w.heap.size w)
    have s_0 := b_0.size
    go_upto_region 1 with fail
    refine wp_forget1 (w0 := w) (B := w.heap.size) (b0 := w.heap.size) (t0 := 45) (c0 := #[.int .i64 8, .int .i64 d, .int .i64 a, .int .i64 b, .int .i64 c, .int .i64 n]) ?_ ?_ ?_
    (focus exact blkcBy)
    (focus (exact belBy))
    intro w1 x_1 hX1
    have sX1 := hX1.size
    have x_lt := x_1.lt
    have b_1 := b_0.trans (hX1.mono (by omega))
    clear b_0 hX1
    have cell_x := x_1.cell
    have froz_x := x_1.frozen
    have lt_x := x_1.lt
    go_wp2_with fail
    refine calls_forget0 (W := w1) ?_ ?_
    (focus (exact belBy))
    intro X2 hX2
    have sX2 := hX2.size
    refine (HK.out _).mono ?_
    rintro e w2 ⟨rfl, hb2⟩
    have s2 := hb2.size
    have hT2 := hX2.trans (hb2.mono sX2)
    have b_2 := b_1.trans (hT2.mono (by omega))
    have x_2 := Blk.past hT2 x_1
    clear x_1 b_1 cell_x froz_x lt_x hX2 hT2 hb2
    have cell_x := x_2.cell
    have froz_x := x_2.frozen
    have lt_x := x_2.lt
    go_wp2
    go_ret
    refine ⟨rfl, b_2.trans ?_⟩
    exact belBy
  · skip
    go_enter Try.func12, Try.ntmps12
    have b_0 := (Below.refl w.heap.size w)
    have s_0 := b_0.size
    go_upto_region 1 with fail
    refine wp_forget1 (w0 := w) (B := w.heap.size) (b0 := w.heap.size) (t0 := 45) (c0 := #[.int .i64 9, .int .i64 d, .int .i64 a, .int .i64 b, .int .i64 c, .int .i64 n]) ?_ ?_ ?_
    (focus exact blkcBy)
    (focus (exact belBy))
    intro w1 x_1 hX1
    have sX1 := hX1.size
    have x_lt := x_1.lt
    have b_1 := b_0.trans (hX1.mono (by omega))
    clear b_0 hX1
    have cell_x := x_1.cell
    have froz_x := x_1.frozen
    have lt_x := x_1.lt
    go_wp2_with fail
    refine calls_forget0 (W := w1) ?_ ?_
    (focus (exact belBy))
    intro X2 hX2
    have sX2 := hX2.size
    refine (HK.out _).mono ?_
    rintro e w2 ⟨rfl, hb2⟩
    have s2 := hb2.size
    have hT2 := hX2.trans (hb2.mono sX2)
    have b_2 := b_1.trans (hT2.mono (by omega))
    have x_2 := Blk.past hT2 x_1
    clear x_1 b_1 cell_x froz_x lt_x hX2 hT2 hb2
    have cell_x := x_2.cell
    have froz_x := x_2.frozen
    have lt_x := x_2.lt
    go_wp2
    go_ret
    refine ⟨rfl, b_2.trans ?_⟩
    exact belBy
  · skip
    go_enter Try.func12, Try.ntmps12
    have b_0 := (Below.refl w.heap.size w)
    have s_0 := b_0.size
    go_upto_region 1 with fail
    refine wp_forget1 (w0 := w) (B := w.heap.size) (b0 := w.heap.size) (t0 := 45) (c0 := #[.int .i64 10, .int .i64 d, .int .i64 a, .int .i64 b, .int .i64 c, .int .i64 n]) ?_ ?_ ?_
    (focus exact blkcBy)
    (focus (exact belBy))
    intro w1 x_1 hX1
    have sX1 := hX1.size
    have x_lt := x_1.lt
    have b_1 := b_0.trans (hX1.mono (by omega))
    clear b_0 hX1
    have cell_x := x_1.cell
    have froz_x := x_1.frozen
    have lt_x := x_1.lt
    go_wp2_with fail
    refine calls_forget0 (W := w1) ?_ ?_
    (focus (exact belBy))
    intro X2 hX2
    have sX2 := hX2.size
    refine (HK.out _).mono ?_
    rintro e w2 ⟨rfl, hb2⟩
    have s2 := hb2.size
    have hT2 := hX2.trans (hb2.mono sX2)
    have b_2 := b_1.trans (hT2.mono (by omega))
    have x_2 := Blk.past hT2 x_1
    clear x_1 b_1 cell_x froz_x lt_x hX2 hT2 hb2
    have cell_x := x_2.cell
    have froz_x := x_2.frozen
    have lt_x := x_2.lt
    go_wp2
    go_ret
    refine ⟨rfl, b_2.trans ?_⟩
    exact belBy
  · skip
    go_enter Try.func12, Try.ntmps12
    have b_0 := (Below.refl w.heap.size w)
    have s_0 := b_0.size
    go_upto_region 1 with fail
    refine wp_forget1 (w0 := w) (B := w.heap.size) (b0 := w.heap.size) (t0 := 45) (c0 := #[.int .i64 11, .int .i64 d, .int .i64 a, .int .i64 b, .int .i64 c, .int .i64 n]) ?_ ?_ ?_
    (focus exact blkcBy)
    (focus (exact belBy))
    intro w1 x_1 hX1
    have sX1 := hX1.size
    have x_lt := x_1.lt
    have b_1 := b_0.trans (hX1.mono (by omega))
    clear b_0 hX1
    have cell_x := x_1.cell
    have froz_x := x_1.frozen
    have lt_x := x_1.lt
    go_wp2_with fail
    refine calls_forget0 (W := w1) ?_ ?_
    (focus (exact belBy))
    intro X2 hX2
    have sX2 := hX2.size
    refine (HK.out _).mono ?_
    rintro e w2 ⟨rfl, hb2⟩
    have s2 := hb2.size
    have hT2 := hX2.trans (hb2.mono sX2)
    have b_2 := b_1.trans (hT2.mono (by omega))
    have x_2 := Blk.past hT2 x_1
    clear x_1 b_1 cell_x froz_x lt_x hX2 hT2 hb2
    have cell_x := x_2.cell
    have froz_x := x_2.frozen
    have lt_x := x_2.lt
    go_wp2
    go_ret
    refine ⟨rfl, b_2.trans ?_⟩
    exact belBy
end Go.Proofs.Ytihbaieiempjeaa
/- A region that draws its order, whose operations only add to memory but for a forced tail of more than one operation. No program is named here. -/
namespace Go.Proofs.Ytihbaieiempjeaa
open Go.RowKit

/-- A chain of operations behind all others: its order is forced. -/
theorem tail_run {P : Program} {ops : Array Oper} {Q : Exit → Act → World → Prop} {n : Nat} (hc : Region.chainB .any ops n = true) (htopo : topoB ops = true) :
    ∀ (l2 : List Oper) (k : Nat) (listed : Array Bool) (a : Act) (w : World), n ≤ k → (∀ j, l2[j]? = ops[k + j]?) → listed.size = ops.size → (∀ i, i < k → listed.getD i true = true) →
      (∀ t, k ≤ t → t < ops.size → listed.getD t true = false) → wpList P ops Q l2 a w → wpAny P .any ops Q l2.length listed a w
  | [], k, listed, a, w, hnk, hl, hsz, hdone, hopen, h => by
    have hk : ops.size ≤ k := by
      rcases Nat.lt_or_ge k ops.size with h1 | h1
      · have := hl 0
        simp [h1] at this
      · exact h1
    refine ⟨?_, h⟩
    cases hr : Region.ready .any ops listed with
    | nil => rfl
    | cons t ts =>
      exfalso
      obtain ⟨hu, o, ho, _⟩ := mem_ready.1 (show t ∈ Region.ready .any ops listed by rw [hr]; simp)
      have hlt : t < ops.size := (Array.getElem?_eq_some_iff.1 ho).1
      rw [hdone t (by omega)] at hu
      cases hu
  | o :: l2, k, listed, a, w, hnk, hl, hsz, hdone, hopen, h => by
    have ho : ops[k]? = some o := by simpa using (hl 0).symm
    have hks : k < ops.size := (Array.getElem?_eq_some_iff.1 ho).1
    have hkr : k ∈ Region.ready .any ops listed := by
      refine mem_ready.2 ⟨hopen k (Nat.le_refl _) hks, o, ho, fun e he hb => ?_⟩
      exact getD_both' (hdone _ (topo_spec htopo ho e he hb)) (by rw [hsz]; have := topo_spec htopo ho e he hb; omega)
    refine ⟨fun h0 => (by rw [h0] at hkr; cases hkr), fun i hi => ?_⟩
    have hik : i = k := by
      obtain ⟨hu, oi, hoi, hall⟩ := mem_ready.1 hi
      have hilt : i < ops.size := (Array.getElem?_eq_some_iff.1 hoi).1
      rcases Nat.lt_trichotomy i k with h1 | h1 | h1
      · rw [hdone i h1] at hu
        cases hu
      · exact h1
      · exfalso
        have h2 := List.all_eq_true.1 hc i (List.mem_range.2 hilt)
        simp only [Bool.or_eq_true, decide_eq_true_eq] at h2
        rcases h2 with h2 | h2
        · omega
        · obtain ⟨o', ho', e, he, hb, hon⟩ := Region.waitsFor_spec h2
          have : o' = oi := Option.some.inj (ho'.symm.trans hoi)
          subst this
          have h3 := hall e he hb
          rw [hon, getD_both (hopen (i - 1) (by omega) (by omega))] at h3
          cases h3
    subst hik
    have hrest : ∀ a' w', wpList P ops Q l2 a' w' → wpAny P .any ops Q l2.length (listed.setIfInBounds i true) a' w' := fun a' w' h' =>
      tail_run hc htopo l2 (i + 1) _ a' w' (by omega) (fun j => by have := hl (j + 1); simpa [Nat.add_assoc, Nat.add_comm 1 j] using this) (by simp [hsz])
        (fun q hq => by
          by_cases hqi : q = i
          · subst hqi
            simp [hsz, hks]
          · rw [getD_set_ne true (fun e => hqi e.symm)]
            exact hdone q (by omega))
        (fun t ht hts => by
          rw [getD_set_ne true (by omega)]
          exact hopen t (by omega) hts) h'
    have hw : wpOp P ops Q i (wpList P ops Q l2) a w := by unfold wpOp; simp only [ho]; exact h
    exact wpOp_mono hrest hw
def growTailsB (ops : Array Oper) (n : Nat) : Bool := Region.noSelect ops && topoB ops && apartB ops n && decide (n < ops.size) && Region.sinkB .any ops n && Region.chainB .any ops n
theorem wp_grow_tails {P : Program} {spec : Nat → GSpec} {Q : Exit → Act → World → Prop} {a : Act} {w W : World} {id : Nat} {l : List Oper}
    (n : Nat) (hm : P.follows .mixedOrders = true) (hB : growTailsB l.toArray n = true) (hW : Onward W w.drew) (hstab : ∀ k F, spec k = .any F → ∀ v w w', F v w → Grows w w' → F v w')
    (h : gList P l.toArray (Onward W) Grows spec (fun fs a' => ∀ w', Onward W w' → (∀ j, fs j w') → wpList P l.toArray Q (l.drop n) a' w') 0 (l.take n) Facts.none a) : (Code.region id l.toArray true).wp P Q a w := by
  simp only [growTailsB, Bool.and_eq_true, decide_eq_true_eq] at hB
  obtain ⟨⟨⟨⟨⟨hsel, htopo⟩, hap⟩, hn⟩, hsink⟩, hchain⟩ := hB
  refine wp_region_any hm ?_
  have hnl : n < l.length := by simpa using hn
  have hns : n < l.toArray.size := hn
  have htl : (l.take n).length = n := by simp; omega
  have hdl : (l.drop n).length = l.toArray.size - n := by simp
  have h2 := gList_walk (n := 0) (l.take n) 0 Facts.none a (fun j hj => by
    rw [htl] at hj
    simp [hj]) h
  rw [htl] at h2
  have H := gAny (P := P) (g := l.toArray.size - n) (Q := Q) (n := n) (by omega) hsel htopo hap onward_step hstab (E := fun fs a' => ∀ w', Onward W w' → (∀ j, fs j w') → wpList P l.toArray Q (l.drop n) a' w')
    (fun listed fs a' w' inv hnil hC hfs hE => by
      have hT := hE w' hC hfs
      have hall : ∀ i, i < n → listed.getD i true = true := fun i hi => by
        cases hh : listed.getD i true with
        | true => rfl
        | false =>
          have := mem_heads.2 ⟨hi, hh⟩
          rw [hnil] at this
          cases this
      have := tail_run hchain htopo (l.drop n) n listed a' w' (Nat.le_refl _) (fun j => by simp [List.getElem?_drop]) inv.size hall (fun t h1 h2 => inv.tail t h1 h2) hT
      rwa [hdl] at this)
    (fun listed inv hne t ht => by
      rcases Nat.lt_or_ge t n with h | h
      · exact h
      · exfalso
        obtain ⟨i, hi⟩ : ∃ i, i ∈ heads n listed := by
          cases hh : heads n listed with
          | nil => exact absurd hh hne
          | cons k ks => exact ⟨k, by simp⟩
        have hi' := mem_heads.1 hi
        exact tail_waits hsink hchain hns inv (n - i) i rfl hi'.1 hi'.2 t h ht)
    n (Array.replicate l.toArray.size false) Facts.none a w.drew (inv_start _ _) (by rw [heads_all _ _ (by omega)]; simp) (by rw [heads_all _ _ (by omega)]; exact h2) hW (fun _ => trivial) (fun _ _ _ _ _ => trivial)
  rw [show n + (l.toArray.size - n) = l.toArray.size by omega] at H
  exact H
/-- What is said of the operations by their numbers; the others are found on the walk. -/
def specAt (l : List (Nat × GSpec)) (k : Nat) : GSpec := match l.lookup k with
  | some s => s
  | none => .det
theorem specAt_stab : ∀ {l : List (Nat × GSpec)}, (∀ p ∈ l, ∀ F, p.2 = .any F → ∀ v w w', F v w → Grows w w' → F v w') → ∀ k F, specAt l k = .any F → ∀ v w w', F v w → Grows w w' → F v w' := by
  intro l h k F hk
  unfold specAt at hk
  split at hk
  · rename_i G hG
    subst hk
    have : ∀ (l : List (Nat × GSpec)), l.lookup k = some (.any F) → ∃ p ∈ l, p.2 = .any F := by
      intro l
      induction l with
      | nil => intro h; cases h
      | cons p l ih =>
        intro h
        obtain ⟨a, b⟩ := p
        rw [List.lookup_cons] at h
        split at h
        · cases h
          exact ⟨_, List.mem_cons_self, rfl⟩
        · obtain ⟨p, hp, e⟩ := ih h
          exact ⟨p, List.mem_cons_of_mem _ hp, e⟩
    obtain ⟨p, hp, e⟩ := this l hG
    exact h p hp F e
  · cases hk
theorem gList_quietK {P : Program} {ops : Array Oper} {C : World → Prop} {R : World → World → Prop} {spec : Nat → GSpec} {E : Facts → Act → Prop} (m : Nat) {l : List Oper} {k : Nat} {fs : Facts} {a : Act} (hd : detsFrom spec k (l.take m)) (hm : m ≤ l.length)
    (h : wpQuiet P ops C (fun a' => gList P ops C R spec E (k + m) (l.drop m) fs a') (l.take m) a) : gList P ops C R spec E k l fs a := by
  have h1 := gList_quiet (l.take m) (l2 := l.drop m) hd (E := E) (R := R) (fs := fs) (a := a) (P := P) (ops := ops) (C := C) (by rw [List.length_take, Nat.min_eq_left hm]; exact h)
  rwa [List.take_append_drop] at h1
/-- A call whose value is known. -/
theorem grow_con {P : Program} {f : FuncId} {args : Array Value} {w : World} {c : Value} {o : Oper} {a : Act} (hr : (execOp a.eval o).run P w = .ok (.enter f args) w)
    (h : Calls P f args w fun e w'' => e = .returned c ∧ Below w.heap.size w w'') : growUpon P Grows (fun v _ => v = c) w ((execOp a.eval o).run P w) :=
  grow_call hr (h.mono fun _ _ ⟨he, hb⟩ => ⟨c, he, hb, rfl⟩)
end Go.Proofs.Ytihbaieiempjeaa
/- The law of the costs of garbling (FnGarblingCosts). No conditions. -/
set_option linter.unusedVariables false
namespace Go.Proofs.Ytihbaieiempjeaa
open Go.RowKit Go.ChangeShapes Go.WideShapes Go.ChangeAt

theorem costWithin_yes (a b : Int) (w : World) (h : a ≤ b) :
    Calls Try.prog 14 #[.agg #[.int .i64 2, .int .i64 0, .int .i64 0, .int .i64 a], .agg #[.int .i64 2, .int .i64 0, .int .i64 0, .int .i64 b]] w fun e w' => e = .returned (.bool true) ∧ Below w.heap.size w w' := by
  go_enter Try.func14, Try.ntmps14
  go_wp2
  go_ret
  refine ⟨rfl, ?_⟩
  exact belBy
/-- A circuit that a call made. -/
def KOf (p : List Gt × List Int) (v : Value) (w : World) : Prop := ∃ G cg O co, v = .agg #[.slice G p.1.length cg, .slice O p.2.length co] ∧ Cells w w.heap.size G (ints (flatG p.1)) ∧ Cells w w.heap.size O (ints p.2)
theorem KOf.stable {p : List Gt × List Int} : ∀ v w w', KOf p v w → Grows w w' → KOf p v w' := by
  rintro v w w' ⟨G, cg, O, co, rfl, h1, h2⟩ hg
  exact ⟨G, cg, O, co, rfl, h1.step hg, h2.step hg⟩
section
variable {P : Program} {ops : Array Oper} {C : World → Prop} {R : World → World → Prop} {spec : Nat → GSpec} {E : Facts → Act → Prop}
theorem gList_anyW {k : Nat} {o : Oper} {l : List Oper} {fs : Facts} {a : Act} (F : Value → World → Prop) (hs : spec k = .any F) (hw : Region.wanted o (yielded ops a.tmps) = true)
    (h1 : ∀ w, C w → depsHold ops k fs w → growUpon P R F w ((execOp a.eval o).run P w)) (h2 : ∀ v, gList P ops C R spec E (k + 1) l (fs.upd k (F v)) (a.put o.dst v)) : gList P ops C R spec E k (o :: l) fs a := by
  simp only [gList, gStep, hs, if_pos hw]
  exact ⟨h1, h2⟩
theorem gList_conW {k : Nat} {o : Oper} {l : List Oper} {fs : Facts} {a : Act} (c : Value) (hs : spec k = .con c) (hw : Region.wanted o (yielded ops a.tmps) = true)
    (h1 : ∀ w, C w → depsHold ops k fs w → growUpon P R (fun v _ => v = c) w ((execOp a.eval o).run P w)) (h2 : gList P ops C R spec E (k + 1) l fs (a.put o.dst c)) : gList P ops C R spec E k (o :: l) fs a := by
  simp only [gList, gStep, hs, if_pos hw]
  exact ⟨h1, h2⟩
theorem grow_value {F : Value → World → Prop} {w : World} {v : Value} {r : Result Next} (h : r = .ok (.value v) w) (hF : F v w := by rfl) : growUpon P Grows F w r := by
  rw [h]
  exact ⟨Below.refl _ _, hF⟩
theorem gList_skip {k : Nat} {o : Oper} {l : List Oper} {fs : Facts} {a : Act} (hw : ¬ Region.wanted o (yielded ops a.tmps) = true) (h2 : gList P ops C R spec E (k + 1) l fs (a.put o.dst undef)) : gList P ops C R spec E k (o :: l) fs a := by
  simp only [gList, gStep, if_neg hw]
  exact h2
end
theorem sumA_le : ∀ L : List St, sumA L ≤ 13 * L.length
  | [] => Nat.zero_le _
  | s :: L => by
    have h := sumA_le L
    have h2 : andsP s ≤ 13 := by
      unfold andsP
      split
      · omega
      split
      · omega
      split <;> omega
    simp only [sumA, List.length_cons]
    omega
theorem sumA_snoc : ∀ (L : List St) (s : St), sumA (L ++ [s]) = sumA L + andsP s
  | [], s => by simp [sumA]
  | t :: L, s => by simp only [List.cons_append, sumA, sumA_snoc L s]; omega
namespace garblingCosts
set_option maxRecDepth 100000 in
set_option maxHeartbeats 6400000 in
theorem walk (A : Option Addr) (c : Nat) (bs : List Int) (w : World) (hb : Bytes w w.heap.size A bs) :
    Calls Try.prog 3 #[.slice A bs.length c] w fun e w' => e = .returned (.bool true) ∧ Below w.heap.size w w' := by
  have hl := hb.len
  have HB := hid hb
  clear hb
  by_cases h1 : (1048576 : Int) < (bs.length : Int)
  · go_enter Try.func3, Try.ntmps3
    go_wp2_with (go_at_call 6; refine (big_any _ _ _ _ hl).mono ?_; rintro e w' ⟨rfl, rfl⟩)
    go_ret
    exact ⟨rfl, Below.refl _ _⟩
  go_enter Try.func3, Try.ntmps3
  go_wp2_with fail
  refine (big_any _ _ _ _ hl).mono ?_
  rintro e w' ⟨rfl, rfl⟩
  go_wp2_with fail
  refine (garbling_is _ _ _ _ HB.out).mono ?_
  rintro e w1 ⟨gs, os, G, cg, O, co, B, nb, cb, s, a, ⟨hok, hg24, ho5⟩, ⟨ht, ha⟩, rfl, hg, ho, hb1⟩
  have z1 := hb1.size
  have hgl := gar_tables s (deltaI s a) gs gs.length (Nat.le_refl _)
  rw [List.take_length] at hgl
  obtain ⟨TS2, hTS⟩ : ∃ l, (garTo s (deltaI s a) gs gs.length).2 = l := ⟨_, rfl⟩
  have CG := hid (fun w hg ho => iGarbled G O cg co gs os w hg ho hok (by omega))
  have hY : 2 * (cntG gs 4 : Int) = (TS2.length : Int) := by rw [← hTS, hgl]; show _ = ((2 * andG gs : Nat) : Int); rw [show cntG gs 4 = andG gs from rfl]; omega
  have hle : cntG (optC gs os).1 4 ≤ cntG gs 4 := and_opt _ _
  have hol : (optC gs os).2.length ≤ 1000000 := by
    unfold optC
    rw [prun_outs, simp_outs]
    omega
  have CG2 := hid (fun G O cg co w hg ho => iGarbled G O cg co (optC gs os).1 (optC gs os).2 w hg ho (opt_valid hok) hol)
  have CO := hid (fun w hg ho => sOptimize G O cg co gs os w hg ho hok (by omega))
  have CR := hid (fun w hg ho => sGarble G O cg co gs os s a w hg ho hok (by omega) ht (by omega))
  obtain ⟨xx, hxx⟩ : ∃ x : Int, 2 * (cntG (optC gs os).1 4 : Int) = x := ⟨_, rfl⟩
  have hxy : xx ≤ (TS2.length : Int) := by omega
  have htl : TS2.length ≤ 12000 := by
    have h1 := cntG_le gs 4
    omega
  have HXY := hid hxy
  rw [hY] at CG
  rw [hxx] at CG2
  rw [hTS] at CR
  obtain ⟨d, hd⟩ : ∃ d, deltaI s a = d := ⟨_, rfl⟩
  obtain ⟨ZS, hZS⟩ : ∃ l, (garTo s (deltaI s a) gs gs.length).1 = l := ⟨_, rfl⟩
  rw [hZS, hd] at CR
  obtain ⟨OG, hOG⟩ : ∃ l, optC gs os = l := ⟨_, rfl⟩
  rw [hOG] at CO CG2
  have H1 := hid (And.intro (Cells.of_own hg) (And.intro (Cells.of_own ho) hb1))
  clear hg ho hb1 hok hgl hTS hY hle hol hxy hxx hd hZS hOG ht ha ho5
  have b_1 := (Below.refl w1.heap.size w1)
  have s_1 := b_1.size
  go_upto_region 4 with fail
  refine wp_forget2 (w0 := w1) (B := w1.heap.size) (b0 := w1.heap.size) (t0 := 27) (c0 := #[.slice G gs.length cg, .slice O os.length co]) (b1 := w1.heap.size + 1) (t1 := 29) (c1 := #[.int .i64 s, .int .i64 a]) ?_ ?_ ?_ ?_
  (focus exact blkcBy)
  (focus exact blkcBy)
  (focus (exact belBy))
  intro w2 bx_2 bt_2 hX2
  have sX2 := hX2.size
  have bx_lt := bx_2.lt
  have bt_lt := bt_2.lt
  have b_2 := b_1.trans (hX2.mono (by omega))
  clear b_1 hX2
  have cell_bx := bx_2.cell
  have froz_bx := bx_2.frozen
  have lt_bx := bx_2.lt
  have cell_bt := bt_2.cell
  have froz_bt := bt_2.frozen
  have lt_bt := bt_2.lt
  go_wp2_with fail
  refine calls_forget0 (W := w2) ?_ ?_
  (focus (exact belBy))
  intro X3 hX3
  have sX3 := hX3.size
  refine (CG.out _ (H1.out.1.step (b_2.trans (hX3.mono (by omega)))) (H1.out.2.1.step (b_2.trans (hX3.mono (by omega))))).mono ?_
  rintro e w3 ⟨rfl, hb3⟩
  have s3 := hb3.size
  have hT3 := hX3.trans (hb3.mono sX3)
  have b_3 := b_2.trans (hT3.mono (by omega))
  have bx_3 := Blk.past hT3 bx_2
  have bt_3 := Blk.past hT3 bt_2
  clear bx_2 bt_2 b_2 cell_bx froz_bx lt_bx cell_bt froz_bt lt_bt hX3 hT3 hb3
  have cell_bx := bx_3.cell
  have froz_bx := bx_3.frozen
  have lt_bx := bx_3.lt
  have cell_bt := bt_3.cell
  have froz_bt := bt_3.frozen
  have lt_bt := bt_3.lt
  go_upto_region 5 with fail
  refine wp_forget1 (w0 := w3) (B := w3.heap.size) (b0 := w3.heap.size) (t0 := 33) (c0 := #[.int .i64 2, .int .i64 0, .int .i64 0, .int .i64 (TS2.length : Int)]) ?_ ?_ ?_
  (focus exact blkcBy)
  (focus (exact belBy))
  intro w4 x_4 hX4
  have sX4 := hX4.size
  have x_lt := x_4.lt
  have b_4 := b_3.trans (hX4.mono (by omega))
  have bx_4 := Blk.past hX4 bx_3
  have bt_4 := Blk.past hX4 bt_3
  clear bx_3 bt_3 b_3 cell_bx froz_bx lt_bx cell_bt froz_bt lt_bt hX4
  have cell_bx := bx_4.cell
  have froz_bx := bx_4.frozen
  have lt_bx := bx_4.lt
  have cell_bt := bt_4.cell
  have froz_bt := bt_4.frozen
  have lt_bt := bt_4.lt
  have cell_x := x_4.cell
  have froz_x := x_4.frozen
  have lt_x := x_4.lt
  have z4 := b_4.size
  have H4 := hid (And.intro (H1.out.1.step b_4) (And.intro (H1.out.2.1.step b_4) (And.intro (H1.out.2.2.trans (b_4.mono z1)) (And.intro bx_4 (And.intro bt_4 x_4)))))
  clear bx_4 bt_4 x_4 b_4 H1 CG
  go_wp2_with fail
  refine Calls.mono (CR.out _ H4.out.1 H4.out.2.1) ?_
  rintro e w5 ⟨Z, cz, T, kt, rfl, hz, hta, hb5⟩
  have z5 := hb5.size
  have H5 := hid (And.intro (H4.out.1.step hb5) (And.intro (H4.out.2.1.step hb5) (And.intro (H4.out.2.2.1.trans (hb5.mono (by omega))) (And.intro (H4.out.2.2.2.1.past hb5) (H4.out.2.2.2.2.2.past hb5)))))
  clear hz hta hb5 H4 CR cell_bx froz_bx lt_bx cell_bt froz_bt lt_bt cell_x froz_x lt_x
  have b_5 := (Below.refl w5.heap.size w5)
  have s_5 := b_5.size
  go_upto_region 6 with fail
  refine wp_forget1 (w0 := w5) (B := w5.heap.size) (b0 := w5.heap.size) (t0 := 36) (c0 := #[.int .i64 d, .slice Z ZS.length cz, .slice T TS2.length kt]) ?_ ?_ ?_
  (focus exact blkcBy)
  (focus (exact belBy))
  intro w6 g_6 hX6
  have sX6 := hX6.size
  have g_lt := g_6.lt
  have b_6 := b_5.trans (hX6.mono (by omega))
  clear b_5 hX6
  have cell_g := g_6.cell
  have froz_g := g_6.frozen
  have lt_g := g_6.lt
  have z6 := b_6.size
  have H6 := hid (And.intro (H5.out.1.step b_6) (And.intro (H5.out.2.1.step b_6) (And.intro (H5.out.2.2.1.trans (b_6.mono (by omega))) (And.intro (H5.out.2.2.2.1.past b_6) (And.intro (H5.out.2.2.2.2.past b_6) g_6)))))
  clear g_6 b_6 H5 cell_g froz_g lt_g
  go_wp2_with fail
  refine Calls.mono (drawProg_is A c bs _ ((HB.out.step H6.out.2.2.1).more (by omega))) ?_
  rintro e w7 ⟨L, Al, cl, hL, rfl, hlo, hb7⟩
  have z7 := hb7.size
  have H7 := hid (And.intro (H6.out.1.step hb7) (And.intro (H6.out.2.1.step hb7) (And.intro (H6.out.2.2.1.trans (hb7.mono (by omega))) (And.intro (H6.out.2.2.2.1.past hb7) (And.intro (H6.out.2.2.2.2.1.past hb7) (And.intro (H6.out.2.2.2.2.2.past hb7) (Cells.of_own hlo)))))))
  clear hlo hb7 H6
  go_wp2_with fail
  refine Calls.mono (sUnroll Al cl L _ H7.out.2.2.2.2.2.2 (by omega)) ?_
  rintro e w8 ⟨gu, ku, rfl, hgu, hru, hb8⟩
  have z8 := hb8.size
  have H8 := hid (And.intro (H7.out.1.step hb8) (And.intro (H7.out.2.1.step hb8) (And.intro (H7.out.2.2.1.trans (hb8.mono (by omega))) (And.intro (H7.out.2.2.2.1.past hb8) (And.intro (H7.out.2.2.2.2.1.past hb8) (And.intro (H7.out.2.2.2.2.2.1.past hb8) (And.intro (H7.out.2.2.2.2.2.2.step hb8) hru)))))))
  have HUL := hid (unrL_ok L)
  have hul := unrL_len L
  clear hru hb8 H7
  obtain ⟨U, hU⟩ : ∃ l, unrL L = l := ⟨_, rfl⟩
  rw [hU] at H8 HUL hul ⊢
  have HU := hid hU
  clear hU
  go_wp2_with fail
  go_loopw [12, 13] (fun n i wr => ∃ j : Nat, j ≤ U.length ∧ i = .int .i64 (j : Int) ∧ n = .int .i64 ((sumA (U.take j) : Nat) : Int) ∧ Below w8.heap.size w8 wr) (fun _ i _ => U.length - (intOf i).toNat)
  case atStart => exact ⟨0, Nat.zero_le _, rfl, rfl, Below.refl _ _⟩
  case round =>
    obtain ⟨j, hj, rfl, rfl, hb⟩ := hrel
    have zr := hb.size
    have HBR := hid hb
    have hrw := H8.out.2.2.2.2.2.2.2.below hb
    by_cases hlt : j < U.length
    · obtain ⟨⟨o, dd, aa, bb, cc, nn⟩, hx⟩ : ∃ s, U[j]? = some s := ⟨_, List.getElem?_eq_getElem hlt⟩
      obtain ⟨hst, h12, h13⟩ := HUL.out _ (List.mem_of_getElem? hx)
      have hin := (stmt_in hst).1
      dsimp only at h12 h13 hin
      have HA := hid (fun w => iAndsOf o dd aa bb cc nn w hst (by omega))
      have hsum : sumA (U.take (j + 1)) = sumA (U.take j) + andsP ⟨o, dd, aa, bb, cc, nn⟩ := by
        obtain ⟨hl, e⟩ := List.getElem?_eq_some_iff.1 hx
        rw [List.take_succ_eq_append_getElem hl, sumA_snoc, e]
      have hq1 := sumA_le (U.take (j + 1))
      rw [List.length_take] at hq1
      have G0 : wr.cell? ⟨gu, j * 6, none⟩ = some (.int .i64 o) := hrw.cell (ints_get (flatS_at hx 0 o rfl))
      have G1 : wr.cell? ⟨gu, j * 6 + 1, none⟩ = some (.int .i64 dd) := hrw.cell (ints_get (flatS_at hx 1 dd rfl))
      have G2 : wr.cell? ⟨gu, j * 6 + 2, none⟩ = some (.int .i64 aa) := hrw.cell (ints_get (flatS_at hx 2 aa rfl))
      have G3 : wr.cell? ⟨gu, j * 6 + 3, none⟩ = some (.int .i64 bb) := hrw.cell (ints_get (flatS_at hx 3 bb rfl))
      have G4 : wr.cell? ⟨gu, j * 6 + 4, none⟩ = some (.int .i64 cc) := hrw.cell (ints_get (flatS_at hx 4 cc rfl))
      have G5 : wr.cell? ⟨gu, j * 6 + 5, none⟩ = some (.int .i64 nn) := hrw.cell (ints_get (flatS_at hx 5 nn rfl))
      have hgl := hrw.lt
      have hlt' : (j : Int) < (U.length : Int) := by omega
      have j00 : (0 : Int) ≤ (j : Int) := by omega
      obtain ⟨q, hq⟩ : ∃ q, sumA (U.take j) = q := ⟨_, rfl⟩
      obtain ⟨r, hr⟩ : ∃ r, andsP ⟨o, dd, aa, bb, cc, nn⟩ = r := ⟨_, rfl⟩
      rw [hr] at HA hsum
      rw [hq] at hsum
      have hqr : q + r ≤ 2000 := by omega
      have HS := hid hsum
      rw [hq]
      clear hrw hst h12 h13 hin hx hsum hq1 hq hr hb
      go_wp2_with fail
      refine Calls.mono (HA.out _) ?_
      rintro e w9 ⟨rfl, hb9⟩
      have HB9 := hid (HBR.out.trans (hb9.mono zr))
      clear hb9 HBR G0 G1 G2 G3 G4 G5
      go_wp2
      go_roundw
      case rel => exact ⟨j + 1, by omega, by go_num, by rw [HS.out]; go_num, HB9.out⟩
      case measure => simp [intOf]; omega
    · obtain rfl : j = U.length := by omega
      rw [List.take_length] at *
      have H9 := hid (And.intro (H8.out.1.step hb) (And.intro (H8.out.2.1.step hb) (And.intro (H8.out.2.2.1.trans (hb.mono (by omega))) (And.intro (H8.out.2.2.2.1.past hb) (And.intro (H8.out.2.2.2.2.1.past hb) (And.intro (H8.out.2.2.2.2.2.1.past hb) (H8.out.2.2.2.2.2.2.1.step hb)))))))
      have hbl := H9.out.2.2.1.size
      clear hrw hb HBR H8
      have hov := comp_outs L
      have hcl : (compL L).g.length ≤ 1000000 := by
        have h1 := comp_ok L
        have h2 := h1.hi
        have h3 := unrL_len L
        unfold compL
        split
        · omega
        · exact Nat.zero_le _
      have hand : unrB L = true → (cntG (compL L).g 4 : Int) ≤ (sumA U : Int) := fun hu => by
        rw [comp_yes hu, show cntG (compC (unrL L)).g 4 = andG (compC (unrL L)).g from rfl, and_comp _ (fun s hs => ?_), HU.out]
        · exact Int.le_refl _
        · obtain ⟨h1, h2, h3⟩ := HUL.out s (by rw [← HU.out]; exact hs)
          have := (stmt_in h1).1
          omega
      have hsu := sumA_le U
      have HSC := hid (fun w hc => sCompile Al cl L w hc (by omega))
      obtain ⟨KL, hKL⟩ : ∃ r, compL L = r := ⟨_, rfl⟩
      obtain ⟨q, hq⟩ : ∃ q, sumA U = q := ⟨_, rfl⟩
      obtain ⟨k, hk⟩ : ∃ k, cntG KL.g 4 = k := ⟨_, rfl⟩
      rw [hKL] at HSC hand hcl hov
      rw [hq] at hand hsu ⊢
      rw [hk] at hand
      have CN := hid (fun G O cg co w hg => sCount G O cg co KL.g KL.o 4 w hg hcl)
      rw [hk] at CN
      have HAND := hid hand
      have hk6 : (k : Int) ≤ 1000000 := by have := cntG_le KL.g 4; omega
      clear hand hKL hq hk
      go_wp2_with fail
      refine Calls.mono (HSC.out _ H9.out.2.2.2.2.2.2) ?_
      rintro e w10 ⟨YG, cgy, YO, coy, rfl, yg, yo, hb10⟩
      have z10 := hb10.size
      have H10 := hid (And.intro (H9.out.1.step hb10) (And.intro (H9.out.2.1.step hb10) (And.intro (H9.out.2.2.1.trans (hb10.mono (by omega))) (And.intro (H9.out.2.2.2.1.past hb10) (And.intro (H9.out.2.2.2.2.1.past hb10) (And.intro (H9.out.2.2.2.2.2.1.past hb10) (Cells.of_own yg)))))))
      clear yg yo hb10 H9 HSC
      have b_10 := (Below.refl w10.heap.size w10)
      have s_10 := b_10.size
      go_upto_region 14 with fail
      refine wp_forget1 (w0 := w10) (B := w10.heap.size) (b0 := w10.heap.size) (t0 := 27) (c0 := #[.slice YG KL.g.length cgy, .slice YO KL.o.length coy]) ?_ ?_ ?_
      (focus exact blkcBy)
      (focus (exact belBy))
      intro w11 y_11 hX11
      have sX11 := hX11.size
      have y_lt := y_11.lt
      have b_11 := b_10.trans (hX11.mono (by omega))
      clear b_10 hX11
      have cell_y := y_11.cell
      have froz_y := y_11.frozen
      have lt_y := y_11.lt
      have z11 := b_11.size
      have HX := hid (And.intro (H10.out.2.2.2.2.1.past b_11) (And.intro (H10.out.2.2.2.2.2.1.past b_11) (And.intro (H10.out.2.2.2.1.past b_11) y_11)))
      have HC := hid (And.intro (H10.out.1.step b_11) (And.intro (H10.out.2.1.step b_11) (H10.out.2.2.2.2.2.2.step b_11)))
      have HW := hid (H10.out.2.2.1.trans (b_11.mono (by omega)))
      have CN := hid (CN.out YG YO cgy coy)
      clear y_11 b_11 H10 cell_y froz_y lt_y
      cases hu : unrB L
      · clear hu HAND
        refine wp_grow_tails (W := w11) (spec := specAt [(4, .con (.int .i64 (TS2.length : Int))), (8, .any (KOf OG)), (9, .con (.agg #[.int .i64 2, .int .i64 0, .int .i64 0, .int .i64 xx])), (11, .con (.bool true)), (18, .con (.int .i64 (k : Int)))]) 23 (by kernel_rfl) (by kernel_rfl) (Onward.mk' ((Below.refl _ _).drew)) (specAt_stab ?_) ?_
        · intro p hp F hF
          simp only [List.mem_cons, List.not_mem_nil, or_false] at hp
          rcases hp with rfl | rfl | rfl | rfl | rfl
          all_goals first | (cases hF; done) | (injection hF with hF; subst hF; exact KOf.stable)
        refine gList_quietK 4 ⟨rfl, rfl, rfl, rfl, rfl, rfl, rfl, rfl, trivial⟩ (by decide) ?_
        have qx := fun (x : Later w11) (o : Nat) => (HX.out.1.past x.below).cell o
        have qg := fun (x : Later w11) (o : Nat) => (HX.out.2.1.past x.below).cell o
        have qc := fun (x : Later w11) (o : Nat) => (HX.out.2.2.1.past x.below).cell o
        have qy := fun (x : Later w11) (o : Nat) => (HX.out.2.2.2.past x.below).cell o
        delta Onward
        dsimp only [List.take, List.drop]
        repeat (go_big_quiet_step (fail))
        refine wpQuiet_nil ?_
        refine gList_conW (.int .i64 (TS2.length : Int)) rfl (by first | rfl | kernel_rfl) (fun w' _ _ => ?_) ?_
        · refine grow_value ?_
          simp [go_sem]
        refine gList_quietK 3 ⟨rfl, rfl, rfl, rfl, rfl, rfl, trivial⟩ (by decide) ?_
        simp only [Act.put, List.setIfInBounds_toArray, List.set_cons_succ, List.set_cons_zero]
        dsimp only [List.take, List.drop]
        repeat (go_big_quiet_step (fail))
        refine wpQuiet_nil ?_
        refine gList_anyW (KOf OG) rfl (by first | rfl | kernel_rfl) (fun w' hC _ => ?_) (fun v => ?_)
        · obtain ⟨⟨w', hb⟩, rfl⟩ := hC
          refine grow_call (by simp [go_sem]) ((CO.out _ (HC.out.1.step hb) (HC.out.2.1.step hb)).mono ?_)
          rintro e w6 ⟨G6, cg6, O6, co6, rfl, hg6, ho6, hb6⟩
          exact ⟨_, rfl, hb6, G6, cg6, O6, co6, rfl, Cells.of_own hg6, Cells.of_own ho6⟩
        refine gList_conW (.agg #[.int .i64 2, .int .i64 0, .int .i64 0, .int .i64 xx]) rfl (by first | rfl | kernel_rfl) (fun w' hC hd => ?_) ?_
        · have hv : KOf OG v w' := hd 8 (by kernel_rfl)
          obtain ⟨⟨w', hb⟩, rfl⟩ := hC
          obtain ⟨G6, cg6, O6, co6, rfl, h6, h7⟩ := hv
          exact grow_con (by simp [go_sem]) (CG2.out G6 O6 cg6 co6 _ h6 h7)
        refine gList_quietK 1 ⟨rfl, rfl, trivial⟩ (by decide) ?_
        simp only [Act.put, List.setIfInBounds_toArray, List.set_cons_succ, List.set_cons_zero]
        dsimp only [List.take, List.drop]
        repeat (go_big_quiet_step (fail))
        refine wpQuiet_nil ?_
        refine gList_conW (.bool true) rfl (by first | rfl | kernel_rfl) (fun w' hC _ => ?_) ?_
        · obtain ⟨⟨w', hb⟩, rfl⟩ := hC
          exact grow_con (by simp [go_sem]) (costWithin_yes _ _ _ HXY.out)
        refine gList_quietK 6 ⟨rfl, rfl, rfl, rfl, rfl, rfl, rfl, rfl, rfl, rfl, rfl, rfl, trivial⟩ (by decide) ?_
        simp only [Act.put, List.setIfInBounds_toArray, List.set_cons_succ, List.set_cons_zero]
        dsimp only [List.take, List.drop]
        repeat (go_big_quiet_step (fail))
        refine wpQuiet_nil ?_
        refine gList_skip (by first | (intro h; cases h; done) | decide) ?_
        refine gList_quietK 4 ⟨rfl, rfl, rfl, rfl, rfl, rfl, rfl, rfl, trivial⟩ (by decide) ?_
        simp only [Act.put, List.setIfInBounds_toArray, List.set_cons_succ, List.set_cons_zero]
        dsimp only [List.take, List.drop]
        repeat (go_big_quiet_step (fail))
        refine wpQuiet_nil ?_
        unfold gList
        intro w' hW _
        obtain ⟨⟨w12, hb⟩, rfl⟩ := hW
        have HF := hid (HW.out.trans (hb.mono (by omega)))
        clear hb qx qg qc qy
        go_wp2
        go_ret
        exact ⟨rfl, HF.out⟩
      · have hkq := HAND.out hu
        clear hu HAND
        refine wp_grow_tails (W := w11) (spec := specAt [(4, .con (.int .i64 (TS2.length : Int))), (8, .any (KOf OG)), (9, .con (.agg #[.int .i64 2, .int .i64 0, .int .i64 0, .int .i64 xx])), (11, .con (.bool true)), (18, .con (.int .i64 (k : Int)))]) 23 (by kernel_rfl) (by kernel_rfl) (Onward.mk' ((Below.refl _ _).drew)) (specAt_stab ?_) ?_
        · intro p hp F hF
          simp only [List.mem_cons, List.not_mem_nil, or_false] at hp
          rcases hp with rfl | rfl | rfl | rfl | rfl
          all_goals first | (cases hF; done) | (injection hF with hF; subst hF; exact KOf.stable)
        refine gList_quietK 4 ⟨rfl, rfl, rfl, rfl, rfl, rfl, rfl, rfl, trivial⟩ (by decide) ?_
        have qx := fun (x : Later w11) (o : Nat) => (HX.out.1.past x.below).cell o
        have qg := fun (x : Later w11) (o : Nat) => (HX.out.2.1.past x.below).cell o
        have qc := fun (x : Later w11) (o : Nat) => (HX.out.2.2.1.past x.below).cell o
        have qy := fun (x : Later w11) (o : Nat) => (HX.out.2.2.2.past x.below).cell o
        delta Onward
        dsimp only [List.take, List.drop]
        repeat (go_big_quiet_step (fail))
        refine wpQuiet_nil ?_
        refine gList_conW (.int .i64 (TS2.length : Int)) rfl (by first | rfl | kernel_rfl) (fun w' _ _ => ?_) ?_
        · refine grow_value ?_
          simp [go_sem]
        refine gList_quietK 3 ⟨rfl, rfl, rfl, rfl, rfl, rfl, trivial⟩ (by decide) ?_
        simp only [Act.put, List.setIfInBounds_toArray, List.set_cons_succ, List.set_cons_zero]
        dsimp only [List.take, List.drop]
        repeat (go_big_quiet_step (fail))
        refine wpQuiet_nil ?_
        refine gList_anyW (KOf OG) rfl (by first | rfl | kernel_rfl) (fun w' hC _ => ?_) (fun v => ?_)
        · obtain ⟨⟨w', hb⟩, rfl⟩ := hC
          refine grow_call (by simp [go_sem]) ((CO.out _ (HC.out.1.step hb) (HC.out.2.1.step hb)).mono ?_)
          rintro e w6 ⟨G6, cg6, O6, co6, rfl, hg6, ho6, hb6⟩
          exact ⟨_, rfl, hb6, G6, cg6, O6, co6, rfl, Cells.of_own hg6, Cells.of_own ho6⟩
        refine gList_conW (.agg #[.int .i64 2, .int .i64 0, .int .i64 0, .int .i64 xx]) rfl (by first | rfl | kernel_rfl) (fun w' hC hd => ?_) ?_
        · have hv : KOf OG v w' := hd 8 (by kernel_rfl)
          obtain ⟨⟨w', hb⟩, rfl⟩ := hC
          obtain ⟨G6, cg6, O6, co6, rfl, h6, h7⟩ := hv
          exact grow_con (by simp [go_sem]) (CG2.out G6 O6 cg6 co6 _ h6 h7)
        refine gList_quietK 1 ⟨rfl, rfl, trivial⟩ (by decide) ?_
        simp only [Act.put, List.setIfInBounds_toArray, List.set_cons_succ, List.set_cons_zero]
        dsimp only [List.take, List.drop]
        repeat (go_big_quiet_step (fail))
        refine wpQuiet_nil ?_
        refine gList_conW (.bool true) rfl (by first | rfl | kernel_rfl) (fun w' hC _ => ?_) ?_
        · obtain ⟨⟨w', hb⟩, rfl⟩ := hC
          exact grow_con (by simp [go_sem]) (costWithin_yes _ _ _ HXY.out)
        refine gList_quietK 6 ⟨rfl, rfl, rfl, rfl, rfl, rfl, rfl, rfl, rfl, rfl, rfl, rfl, trivial⟩ (by decide) ?_
        simp only [Act.put, List.setIfInBounds_toArray, List.set_cons_succ, List.set_cons_zero]
        dsimp only [List.take, List.drop]
        repeat (go_big_quiet_step (fail))
        refine wpQuiet_nil ?_
        refine gList_conW (.int .i64 (k : Int)) rfl (by first | rfl | kernel_rfl) (fun w' hC _ => ?_) ?_
        · obtain ⟨⟨w', hb⟩, rfl⟩ := hC
          exact grow_con (by simp [go_sem]) (CN.out _ (HC.out.2.2.step hb))
        refine gList_quietK 4 ⟨rfl, rfl, rfl, rfl, rfl, rfl, rfl, rfl, trivial⟩ (by decide) ?_
        simp only [Act.put, List.setIfInBounds_toArray, List.set_cons_succ, List.set_cons_zero]
        dsimp only [List.take, List.drop]
        repeat (go_big_quiet_step (fail))
        refine wpQuiet_nil ?_
        unfold gList
        intro w' hW _
        obtain ⟨⟨w12, hb⟩, rfl⟩ := hW
        have HF := hid (HW.out.trans (hb.mono (by omega)))
        clear hb qx qg qc qy
        go_wp2
        go_ret
        exact ⟨rfl, HF.out⟩
set_option maxRecDepth 100000 in
theorem lifted (os : Os) (started : os.Started) (H : Type) (enc : TypeId × Value → H) :
    ReturnsInHanded {} Try.checked os 3 .any (Rows.fnGarblingCostsSpec.pre6 enc Try.prog Try.f3 Rows.fnGarblingCostsRow.domain false) (Rows.fnGarblingCostsSpec.post enc Try.prog Try.f3 false true false false) := by
  refine returnsInHanded_of_change (C := Try.checked) own started (by kernel_rfl) Try.func3
    (ChangeSpec.witness6 (enc := enc) (C := Try.checked) false ⟨#[], #[.slice none 0 0], []⟩ 8 (by kernel_rfl) (by kernel_rfl) (by kernel_rfl) (by kernel_rfl)) ?_
  intro W base args ds gs before hval0 hW _ _
  have hval : ∀ (j : Nat) t v, Try.f3.params[j]? = some t → args[j]? = some v → Value.okWide Try.prog W .any base t v := hval0
  have hW' := hW
  obtain ⟨p, q, hA0, hV, rfl, _, _⟩ := hW
  have hA : DataW.TrodAll enc Try.prog W 0 (fun _ => true) true Try.f3.params.toList args.toList ds p := hA0
  rw [Try.params3] at hA hval
  obtain ⟨v0, vs0, d0, ds0, p0, q0, hargs, rfl, rfl, h0, r0⟩ := trodAll_cons hA
  obtain ⟨rfl, rfl, rfl⟩ := trodAll_nil r0
  obtain rfl : args = #[v0] := by cases args; simp_all
  obtain ⟨rfl, rfl⟩ := trodVars_none hV
  obtain ⟨A0, c0, xs0, rfl, hb0⟩ := view_bytes Try.underlying22 Try.underlying5 (by kernel_rfl) (hval 0 22 v0 rfl rfl) h0 (fun x hx => hW'.lt x (by simp [hx]))
  refine (walk A0 c0 xs0 W hb0).mono fun e W' ⟨he, hb⟩ => ?_
  subst he
  exact ⟨_, rfl, law_post rfl (by kernel_rfl) (by kernel_rfl) rfl Try.underlying4 hW' rfl rfl rfl hb⟩
theorem closed : joinedFacts Try.prog 3 Try.f3 Rows.fnGarblingCostsSpec Rows.fnGarblingCostsRow = true := by
  unfold joinedFacts
  rw [makeIs, mayIs, finalsIs]
  kernel_rfl
theorem over : Rows.fnGarblingCostsRow.holds Try.pinned (OpenSpec.ofChange Rows.fnGarblingCostsSpec) :=
  OpenClaim.holds_of_wide 3 Try.f3 rfl rfl rfl rfl rfl rfl rfl ⟨rfl, rfl, rfl, rfl, rfl⟩ rfl rfl rfl rfl rfl (by kernel_rfl) Try.func3 closed
    (of_decide_eq_true (by kernel_rfl)) (by unfold Func.isWrapper; first | (rw [if_pos (by decide +kernel)]; kernel_rfl) | (rw [if_neg (by decide +kernel)]; exact ⟨rfl, rfl⟩))
    (fun os started H enc _ => lifted os started H enc)
theorem proved : Rows.FnGarblingCostsSaid := over
#print axioms proved

end garblingCosts
end Go.Proofs.Ytihbaieiempjeaa
