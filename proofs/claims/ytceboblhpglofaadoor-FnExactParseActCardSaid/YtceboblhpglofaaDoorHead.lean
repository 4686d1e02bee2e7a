/- How this seat's translation was made, read off its head: three facts that every row of the seat asks. Written by program. -/
import Derived.Test.YtceboblhpglofaaDoorRows
import Derived.Test.YtceboblhpglofaaDoorHeadLaws
namespace Go.Proofs.YtceboblhpglofaaDoor
set_option maxRecDepth 100000 in
def headA : List Nat := [104, 97, 114, 110, 101, 115, 115]
set_option maxRecDepth 100000 in
def headB : List Nat := [101, 99, 99, 101, 57, 53, 48, 50, 98, 100, 50, 98, 48, 99, 52, 97, 53, 49, 102, 50, 57, 50, 98, 53, 53, 102, 51, 98, 53, 57, 55, 101, 100, 50, 101, 101, 99, 98, 101, 102,
  54, 54, 100, 57, 51, 50, 54, 53, 55, 54, 99, 51, 98, 50, 97, 99, 99, 98, 56, 98, 49, 48, 54, 53]
set_option maxRecDepth 100000 in
def headC : List Nat := [99, 117, 116]
set_option maxRecDepth 100000 in
def headD : List Nat := [97, 116, 32, 108, 111, 111, 112, 46, 101, 120, 97, 109, 112, 108, 101, 47, 103, 48, 48, 57, 55, 57, 47, 108, 97, 119, 115, 46, 70, 110, 65, 99, 116, 84, 101, 120, 116, 115, 32, 108,
  111, 111, 112, 46, 101, 120, 97, 109, 112, 108, 101, 47, 103, 48, 48, 57, 55, 57, 47, 108, 97, 119, 115, 46, 70, 110, 69, 120, 97, 99, 116, 80, 97, 114, 115, 101, 65, 99, 116]
set_option maxRecDepth 100000 in
theorem headIs : Tryd.prog.initOrder = String.ofList (chars (headA ++ 32 :: (headB ++ 32 :: (headC ++ 32 :: headD)))) := by kernel_rfl
theorem headWords : wordsSigns Tryd.prog.initOrder.toList = chars headA :: chars headB :: chars headC :: wordsSigns (chars headD) := by
  rw [headIs, String.toList_ofList, words_split _ _ (by kernel_rfl), words_split _ _ (by kernel_rfl), words_split _ _ (by kernel_rfl)]
theorem makeIs : Tryd.prog.make = some .cut := make_of _ _ _ _ _ headWords (by kernel_rfl) (by kernel_rfl) (by kernel_rfl)
theorem mayIs : Tryd.prog.mayEnter = true := may_of _ _ _ _ _ headWords (by kernel_rfl) (by kernel_rfl) (by kernel_rfl) (by kernel_rfl) (by kernel_rfl) (by kernel_rfl)
theorem finalsIs : Tryd.prog.liftsFinal = false := finals_of _ _ _ _ _ headWords (by kernel_rfl) (by kernel_rfl) (by kernel_rfl)
theorem own : ownKnob Tryd.prog.godebug = none := by kernel_rfl
end Go.Proofs.YtceboblhpglofaaDoor
