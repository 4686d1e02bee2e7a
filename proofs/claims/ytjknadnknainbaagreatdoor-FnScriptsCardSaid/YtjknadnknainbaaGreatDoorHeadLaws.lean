/- What the head of a translation says (how it was made), read word by word: general lemmas, no program is named. They spare the kernel the great string. -/
import Derived.JoinedOf
import Derived.KernelRfl
namespace Go.Proofs.YtjknadnknainbaaGreatDoor

def chars (l : List Nat) : List Char := l.map Char.ofNat
theorem words_split (a b : List Nat) (h : (chars a).all (fun c => c != Char.ofNat 32) = true) : wordsSigns (chars (a ++ 32 :: b)) = chars a :: wordsSigns (chars b) := by
  induction a with
  | nil => rfl
  | cons x a ih =>
    have h1 : Char.ofNat x ≠ Char.ofNat 32 := by simpa [chars] using (List.all_eq_true.1 h) (Char.ofNat x) (by simp [chars])
    have h2 := ih (by simp only [chars, List.map_cons, List.all_cons, Bool.and_eq_true] at h ⊢; exact h.2)
    show wordsSigns (Char.ofNat x :: chars (a ++ 32 :: b)) = _
    conv => lhs; unfold wordsSigns
    split
    · rename_i e; cases e
    · rename_i r e
      injection e with e1 e2
      exact absurd e1 h1
    · rename_i c r _ e
      injection e with e1 e2
      subst e1 e2
      rw [h2]
      rfl
theorem behind_of (a b : List Char) (T : List (List Char)) (h1 : ((a == "harness".toList || a == "ownmain".toList) && isSumSigns b) = true) : behindMainWord (a :: b :: T) = T := by
  simp only [behindMainWord, h1, if_true]
theorem make_of (P : Program) (a b c : List Char) (T : List (List Char)) (h : wordsSigns P.initOrder.toList = a :: b :: c :: T)
    (h1 : ((a == "harness".toList || a == "ownmain".toList) && isSumSigns b) = true) (h2 : (c == "gc".toList || c == "spec".toList) = false) (h3 : (c == "cut".toList) = true) : P.make = some .cut := by
  unfold Program.make
  rw [h, behind_of a b _ h1]
  simp only [h2, h3]
  simp
theorem strip_none (c : List Char) (T : List (List Char)) : ∀ (os : List String), os.all (fun o => !(c == o.toList)) = true → stripLifts os (c :: T) = ([], c :: T)
  | [], _ => rfl
  | o :: os, h => by
    simp only [List.all_cons, Bool.and_eq_true, Bool.not_eq_true'] at h
    unfold stripLifts
    rw [h.1, if_neg Bool.false_ne_true]
    exact strip_none c T os h.2
theorem may_of (P : Program) (a b c : List Char) (T : List (List Char)) (h : wordsSigns P.initOrder.toList = a :: b :: c :: T)
    (h1 : ((a == "harness".toList || a == "ownmain".toList) && isSumSigns b) = true) (h3 : (c == "cut".toList) = true) (h4 : liftWords.all (fun o => !(c == o.toList)) = true)
    (h5 : P.laysLater = false) (h6 : P.bearsReflect = false) (h7 : P.doorFits [] = true) : P.mayEnter = true := by
  have e : c = "cut".toList := by simpa using h3
  unfold Program.mayEnter
  rw [h, behind_of a b _ h1]
  simp only [strip_none c T _ h4, h5, h6, h7]
  simp [e]
theorem finals_of (P : Program) (a b c : List Char) (T : List (List Char)) (h : wordsSigns P.initOrder.toList = a :: b :: c :: T)
    (h1 : ((a == "harness".toList || a == "ownmain".toList) && isSumSigns b) = true) (h2 : (c == "carried".toList) = false) (h4 : liftWords.all (fun o => !(c == o.toList)) = true) : P.liftsFinal = false := by
  unfold Program.liftsFinal Program.headLifts
  rw [h, behind_of a b _ h1]
  simp only [strip_none c T _ h4, List.head?_cons]
  have e : ((some c : Option (List Char)) == some "carried".toList) = false := h2
  rw [e]
  simp
end Go.Proofs.YtjknadnknainbaaGreatDoor
