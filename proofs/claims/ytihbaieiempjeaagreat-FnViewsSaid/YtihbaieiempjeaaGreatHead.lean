import Derived.JoinedOf
import Derived.KernelRfl
import Derived.Test.YtihbaieiempjeaaGreatRows
/- What the head of a translation says (how it was made), read word by word: general lemmas, no program is named. They spare the kernel the great string. -/
namespace Go.Proofs.YtihbaieiempjeaaGreat

def chars (l : List Nat) : List Char := l.map Char.ofNat
theorem words_split (a b : List Nat) (h : (chars a).all (fun c => c != Char.ofNat 32) = true) : wordsSigns (chars (a ++ 32 :: b)) = chars a :: wordsSigns (chars b) := by
  induction a with
  | nil => rfl
  | cons x a ih =>
    have h1 : Char.ofNat x ≠ Char.ofNat 32 := by simpa [chars] using (List.all_eq_true.1 h) (Char.ofNat x) (by simp [chars])
    have h2 := ih (by simp only [chars, List.map_cons, List.all_cons, Bool.and_eq_true] at h ⊢; exact h.2)
    show wordsSigns (Char.ofNat x :: chars (a ++ 32 :: b)) = _
    conv => lhs; unfold wordsSigns
    split
    · rename_i e; cases e
    · rename_i r e
      injection e with e1 e2
      exact absurd e1 h1
    · rename_i c r _ e
      injection e with e1 e2
      subst e1 e2
      rw [h2]
      rfl
theorem behind_of (a b : List Char) (T : List (List Char)) (h1 : ((a == "harness".toList || a == "ownmain".toList) && isSumSigns b) = true) : behindMainWord (a :: b :: T) = T := by
  simp only [behindMainWord, h1, if_true]
theorem make_of (P : Program) (a b c : List Char) (T : List (List Char)) (h : wordsSigns P.initOrder.toList = a :: b :: c :: T)
    (h1 : ((a == "harness".toList || a == "ownmain".toList) && isSumSigns b) = true) (h2 : (c == "gc".toList || c == "spec".toList) = false) (h3 : (c == "cut".toList) = true) : P.make = some .cut := by
  unfold Program.make
  rw [h, behind_of a b _ h1]
  simp only [h2, h3]
  simp
theorem strip_none (c : List Char) (T : List (List Char)) : ∀ (os : List String), os.all (fun o => !(c == o.toList)) = true → stripLifts os (c :: T) = ([], c :: T)
  | [], _ => rfl
  | o :: os, h => by
    simp only [List.all_cons, Bool.and_eq_true, Bool.not_eq_true'] at h
    unfold stripLifts
    rw [h.1, if_neg Bool.false_ne_true]
    exact strip_none c T os h.2
theorem may_of (P : Program) (a b c : List Char) (T : List (List Char)) (h : wordsSigns P.initOrder.toList = a :: b :: c :: T)
    (h1 : ((a == "harness".toList || a == "ownmain".toList) && isSumSigns b) = true) (h3 : (c == "cut".toList) = true) (h4 : liftWords.all (fun o => !(c == o.toList)) = true)
    (h5 : P.laysLater = false) (h6 : P.bearsReflect = false) (h7 : P.doorFits [] = true) : P.mayEnter = true := by
  have e : c = "cut".toList := by simpa using h3
  unfold Program.mayEnter
  rw [h, behind_of a b _ h1]
  simp only [strip_none c T _ h4, h5, h6, h7]
  simp [e]
theorem finals_of (P : Program) (a b c : List Char) (T : List (List Char)) (h : wordsSigns P.initOrder.toList = a :: b :: c :: T)
    (h1 : ((a == "harness".toList || a == "ownmain".toList) && isSumSigns b) = true) (h2 : (c == "carried".toList) = false) (h4 : liftWords.all (fun o => !(c == o.toList)) = true) : P.liftsFinal = false := by
  unfold Program.liftsFinal Program.headLifts
  rw [h, behind_of a b _ h1]
  simp only [strip_none c T _ h4, List.head?_cons]
  have e : ((some c : Option (List Char)) == some "carried".toList) = false := h2
  rw [e]
  simp
end Go.Proofs.YtihbaieiempjeaaGreat
/- How this seat's translation was made, read off its head: three facts that every row of the seat asks. Written by program. -/
namespace Go.Proofs.YtihbaieiempjeaaGreat
set_option maxRecDepth 100000 in
def headA : List Nat := [104, 97, 114, 110, 101, 115, 115]
set_option maxRecDepth 100000 in
def headB : List Nat := [98, 57, 101, 56, 50, 51, 49, 98, 54, 55, 49, 57, 99, 52, 54, 57, 48, 50, 48, 99, 51, 50, 101, 102, 50, 101, 101, 52, 99, 53, 57, 48, 55, 53, 56, 52, 54, 99, 99, 53,
  99, 55, 51, 55, 52, 51, 55, 50, 48, 53, 98, 49, 57, 97, 49, 55, 49, 57, 98, 57, 54, 99, 99, 97]
set_option maxRecDepth 100000 in
def headC : List Nat := [99, 117, 116]
set_option maxRecDepth 100000 in
def headD : List Nat := [97, 116, 32, 108, 111, 111, 112, 46, 101, 120, 97, 109, 112, 108, 101, 47, 103, 48, 48, 57, 55, 57, 47, 108, 97, 119, 115, 46, 70, 110, 84, 111, 112, 32, 108, 111, 111, 112, 46, 101,
  120, 97, 109, 112, 108, 101, 47, 103, 48, 48, 57, 55, 57, 47, 108, 97, 119, 115, 46, 70, 110, 69, 118, 101, 114, 121, 80, 97, 114, 116, 121, 32, 108, 111, 111, 112, 46, 101, 120, 97,
  109, 112, 108, 101, 47, 103, 48, 48, 57, 55, 57, 47, 108, 97, 119, 115, 46, 70, 110, 86, 105, 101, 119, 115, 32, 108, 111, 111, 112, 46, 101, 120, 97, 109, 112, 108, 101, 47, 103, 48,
  48, 57, 55, 57, 47, 108, 97, 119, 115, 46, 70, 110, 69, 120, 97, 99, 116, 87, 105, 114, 101, 86, 105, 101, 119, 32, 108, 111, 111, 112, 46, 101, 120, 97, 109, 112, 108, 101, 47, 103,
  48, 48, 57, 55, 57, 47, 108, 97, 119, 115, 46, 70, 110, 69, 120, 97, 99, 116, 86, 97, 108, 117, 101, 115, 83, 101, 101, 110, 32, 108, 111, 111, 112, 46, 101, 120, 97, 109, 112, 108,
  101, 47, 103, 48, 48, 57, 55, 57, 47, 108, 97, 119, 115, 46, 70, 110, 69, 120, 97, 99, 116, 82, 117, 110, 83, 101, 99, 117, 114, 101]
set_option maxRecDepth 100000 in
theorem headIs : Tryz.prog.initOrder = String.ofList (chars (headA ++ 32 :: (headB ++ 32 :: (headC ++ 32 :: headD)))) := by kernel_rfl
theorem headWords : wordsSigns Tryz.prog.initOrder.toList = chars headA :: chars headB :: chars headC :: wordsSigns (chars headD) := by
  rw [headIs, String.toList_ofList, words_split _ _ (by kernel_rfl), words_split _ _ (by kernel_rfl), words_split _ _ (by kernel_rfl)]
theorem makeIs : Tryz.prog.make = some .cut := make_of _ _ _ _ _ headWords (by kernel_rfl) (by kernel_rfl) (by kernel_rfl)
theorem mayIs : Tryz.prog.mayEnter = true := may_of _ _ _ _ _ headWords (by kernel_rfl) (by kernel_rfl) (by kernel_rfl) (by kernel_rfl) (by kernel_rfl) (by kernel_rfl)
theorem finalsIs : Tryz.prog.liftsFinal = false := finals_of _ _ _ _ _ headWords (by kernel_rfl) (by kernel_rfl) (by kernel_rfl)
theorem own : ownKnob Tryz.prog.godebug = none := by kernel_rfl
end Go.Proofs.YtihbaieiempjeaaGreat
