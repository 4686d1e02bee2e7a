/- How this seat's translation was made, read off its head: three facts that every row of the seat asks. Written by program. -/
import Derived.Test.YtcdodfekclkonaaDoorRows
import Derived.Test.YtcdodfekclkonaaDoorHeadLaws
namespace Go.Proofs.YtcdodfekclkonaaDoor
set_option maxRecDepth 100000 in
def headA : List Nat := [104, 97, 114, 110, 101, 115, 115]
set_option maxRecDepth 100000 in
def headB : List Nat := [53, 57, 56, 101, 55, 51, 48, 53, 57, 98, 48, 52, 52, 55, 55, 51, 51, 50, 99, 102, 98, 101, 101, 55, 51, 49, 50, 54, 54, 54, 97, 50, 101, 54, 57, 52, 55, 101, 51, 98,
  57, 57, 56, 51, 98, 52, 102, 102, 56, 51, 57, 55, 55, 55, 53, 97, 99, 52, 48, 97, 53, 97, 54, 54]
set_option maxRecDepth 100000 in
def headC : List Nat := [99, 117, 116]
set_option maxRecDepth 100000 in
def headD : List Nat := [97, 116, 32, 108, 111, 111, 112, 46, 101, 120, 97, 109, 112, 108, 101, 47, 103, 48, 48, 57, 55, 57, 47, 108, 97, 119, 115, 46, 70, 110, 83, 101, 114, 118, 101, 100]
set_option maxRecDepth 100000 in
theorem headIs : Tryd.prog.initOrder = String.ofList (chars (headA ++ 32 :: (headB ++ 32 :: (headC ++ 32 :: headD)))) := by kernel_rfl
theorem headWords : wordsSigns Tryd.prog.initOrder.toList = chars headA :: chars headB :: chars headC :: wordsSigns (chars headD) := by
  rw [headIs, String.toList_ofList, words_split _ _ (by kernel_rfl), words_split _ _ (by kernel_rfl), words_split _ _ (by kernel_rfl)]
theorem makeIs : Tryd.prog.make = some .cut := make_of _ _ _ _ _ headWords (by kernel_rfl) (by kernel_rfl) (by kernel_rfl)
theorem mayIs : Tryd.prog.mayEnter = true := may_of _ _ _ _ _ headWords (by kernel_rfl) (by kernel_rfl) (by kernel_rfl) (by kernel_rfl) (by kernel_rfl) (by kernel_rfl)
theorem finalsIs : Tryd.prog.liftsFinal = false := finals_of _ _ _ _ _ headWords (by kernel_rfl) (by kernel_rfl) (by kernel_rfl)
theorem own : ownKnob Tryd.prog.godebug = none := by kernel_rfl
end Go.Proofs.YtcdodfekclkonaaDoor
