/- How this seat's translation was made, read off its head: three facts that every row of the seat asks. Written by program. -/
import Derived.Test.YtonanjcojfjbdaaRows
import Derived.Test.YtonanjcojfjbdaaHeadLaws
namespace Go.Proofs.Ytonanjcojfjbdaa
set_option maxRecDepth 100000 in
def headA : List Nat := [104, 97, 114, 110, 101, 115, 115]
set_option maxRecDepth 100000 in
def headB : List Nat := [98, 53, 56, 57, 49, 101, 53, 57, 53, 97, 51, 56, 100, 49, 54, 102, 51, 51, 51, 57, 56, 49, 53, 101, 101, 56, 56, 100, 55, 49, 98, 98, 102, 51, 97, 52, 49, 98, 99, 97,
  100, 100, 97, 100, 97, 48, 49, 52, 53, 49, 101, 55, 49, 51, 51, 56, 56, 100, 48, 99, 98, 50, 55, 49]
set_option maxRecDepth 100000 in
def headC : List Nat := [99, 117, 116]
set_option maxRecDepth 100000 in
def headD : List Nat := [97, 116, 32, 108, 111, 111, 112, 46, 101, 120, 97, 109, 112, 108, 101, 47, 103, 48, 48, 57, 55, 57, 47, 108, 97, 119, 115, 46, 70, 110, 69, 120, 97, 99, 116, 76, 97, 98, 101, 108,
  115, 66, 121, 84, 114, 97, 110, 115, 102, 101, 114, 32, 108, 111, 111, 112, 46, 101, 120, 97, 109, 112, 108, 101, 47, 103, 48, 48, 57, 55, 57, 47, 108, 97, 119, 115, 46, 70, 110, 66,
  121, 84, 114, 97, 110, 115, 102, 101, 114]
set_option maxRecDepth 100000 in
theorem headIs : Try.prog.initOrder = String.ofList (chars (headA ++ 32 :: (headB ++ 32 :: (headC ++ 32 :: headD)))) := by kernel_rfl
theorem headWords : wordsSigns Try.prog.initOrder.toList = chars headA :: chars headB :: chars headC :: wordsSigns (chars headD) := by
  rw [headIs, String.toList_ofList, words_split _ _ (by kernel_rfl), words_split _ _ (by kernel_rfl), words_split _ _ (by kernel_rfl)]
theorem makeIs : Try.prog.make = some .cut := make_of _ _ _ _ _ headWords (by kernel_rfl) (by kernel_rfl) (by kernel_rfl)
theorem mayIs : Try.prog.mayEnter = true := may_of _ _ _ _ _ headWords (by kernel_rfl) (by kernel_rfl) (by kernel_rfl) (by kernel_rfl) (by kernel_rfl) (by kernel_rfl)
theorem finalsIs : Try.prog.liftsFinal = false := finals_of _ _ _ _ _ headWords (by kernel_rfl) (by kernel_rfl) (by kernel_rfl)
theorem own : ownKnob Try.prog.godebug = none := by kernel_rfl
end Go.Proofs.Ytonanjcojfjbdaa
