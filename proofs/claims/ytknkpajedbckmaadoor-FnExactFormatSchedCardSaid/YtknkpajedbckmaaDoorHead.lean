/- How this seat's translation was made, read off its head: three facts that every row of the seat asks. Written by program. -/
import Derived.Test.YtknkpajedbckmaaDoorRows
import Derived.Test.YtknkpajedbckmaaDoorHeadLaws
namespace Go.Proofs.YtknkpajedbckmaaDoor
set_option maxRecDepth 100000 in
def headA : List Nat := [104, 97, 114, 110, 101, 115, 115]
set_option maxRecDepth 100000 in
def headB : List Nat := [98, 101, 52, 97, 54, 55, 101, 55, 56, 98, 99, 50, 56, 97, 53, 57, 53, 53, 54, 52, 56, 98, 57, 53, 52, 102, 56, 51, 99, 53, 56, 101, 97, 48, 100, 57, 51, 52, 48, 50,
  51, 50, 54, 99, 99, 57, 50, 57, 55, 102, 55, 57, 48, 48, 101, 101, 57, 101, 102, 101, 97, 53, 53, 102]
set_option maxRecDepth 100000 in
def headC : List Nat := [99, 117, 116]
set_option maxRecDepth 100000 in
def headD : List Nat := [97, 116, 32, 108, 111, 111, 112, 46, 101, 120, 97, 109, 112, 108, 101, 47, 103, 48, 48, 57, 55, 57, 47, 108, 97, 119, 115, 46, 70, 110, 69, 120, 97, 99, 116, 70, 111, 114, 109, 97,
  116, 65, 99, 116, 32, 108, 111, 111, 112, 46, 101, 120, 97, 109, 112, 108, 101, 47, 103, 48, 48, 57, 55, 57, 47, 108, 97, 119, 115, 46, 70, 110, 69, 120, 97, 99, 116, 70, 111, 114,
  109, 97, 116, 83, 99, 104, 101, 100]
set_option maxRecDepth 100000 in
theorem headIs : Tryd.prog.initOrder = String.ofList (chars (headA ++ 32 :: (headB ++ 32 :: (headC ++ 32 :: headD)))) := by kernel_rfl
theorem headWords : wordsSigns Tryd.prog.initOrder.toList = chars headA :: chars headB :: chars headC :: wordsSigns (chars headD) := by
  rw [headIs, String.toList_ofList, words_split _ _ (by kernel_rfl), words_split _ _ (by kernel_rfl), words_split _ _ (by kernel_rfl)]
theorem makeIs : Tryd.prog.make = some .cut := make_of _ _ _ _ _ headWords (by kernel_rfl) (by kernel_rfl) (by kernel_rfl)
theorem mayIs : Tryd.prog.mayEnter = true := may_of _ _ _ _ _ headWords (by kernel_rfl) (by kernel_rfl) (by kernel_rfl) (by kernel_rfl) (by kernel_rfl) (by kernel_rfl)
theorem finalsIs : Tryd.prog.liftsFinal = false := finals_of _ _ _ _ _ headWords (by kernel_rfl) (by kernel_rfl) (by kernel_rfl)
theorem own : ownKnob Tryd.prog.godebug = none := by kernel_rfl
end Go.Proofs.YtknkpajedbckmaaDoor
