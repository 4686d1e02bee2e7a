/- How this seat's translation was made, read off its head: three facts that every row of the seat asks. Written by program. -/
import Derived.Test.YtipnhlnbokkihaaRows
import Derived.Test.YtipnhlnbokkihaaHeadLaws
namespace Go.Proofs.Ytipnhlnbokkihaa
set_option maxRecDepth 100000 in
def headA : List Nat := [104, 97, 114, 110, 101, 115, 115]
set_option maxRecDepth 100000 in
def headB : List Nat := [54, 102, 51, 55, 99, 50, 48, 51, 56, 97, 55, 48, 53, 102, 49, 102, 50, 100, 55, 50, 56, 57, 52, 55, 99, 57, 57, 48, 48, 55, 49, 97, 53, 101, 97, 102, 97, 100, 57, 52,
  55, 54, 51, 99, 52, 49, 56, 54, 98, 97, 102, 51, 102, 57, 100, 102, 50, 100, 57, 101, 55, 98, 54, 53]
set_option maxRecDepth 100000 in
def headC : List Nat := [99, 117, 116]
set_option maxRecDepth 100000 in
def headD : List Nat := [97, 116, 32, 108, 111, 111, 112, 46, 101, 120, 97, 109, 112, 108, 101, 47, 103, 48, 48, 57, 55, 57, 47, 108, 97, 119, 115, 46, 70, 110, 70, 97, 105, 114, 32, 108, 111, 111, 112, 46,
  101, 120, 97, 109, 112, 108, 101, 47, 103, 48, 48, 57, 55, 57, 47, 108, 97, 119, 115, 46, 70, 110, 69, 120, 97, 99, 116, 83, 99, 104, 101, 100, 78, 101, 119, 32, 108, 111, 111, 112,
  46, 101, 120, 97, 109, 112, 108, 101, 47, 103, 48, 48, 57, 55, 57, 47, 108, 97, 119, 115, 46, 70, 110, 69, 120, 97, 99, 116, 83, 99, 104, 101, 100, 79, 107, 32, 108, 111, 111, 112,
  46, 101, 120, 97, 109, 112, 108, 101, 47, 103, 48, 48, 57, 55, 57, 47, 108, 97, 119, 115, 46, 70, 110, 70, 97, 105, 108, 117, 114, 101, 115, 32, 108, 111, 111, 112, 46, 101, 120, 97,
  109, 112, 108, 101, 47, 103, 48, 48, 57, 55, 57, 47, 108, 97, 119, 115, 46, 70, 110, 65, 99, 99, 111, 117, 110, 116, 101, 100, 32, 108, 111, 111, 112, 46, 101, 120, 97, 109, 112, 108,
  101, 47, 103, 48, 48, 57, 55, 57, 47, 108, 97, 119, 115, 46, 70, 110, 83, 99, 104, 101, 100, 117, 108, 101, 100, 32, 108, 111, 111, 112, 46, 101, 120, 97, 109, 112, 108, 101, 47, 103,
  48, 48, 57, 55, 57, 47, 108, 97, 119, 115, 46, 70, 110, 69, 120, 97, 99, 116, 83, 99, 104, 101, 100, 65, 100, 100, 32, 108, 111, 111, 112, 46, 101, 120, 97, 109, 112, 108, 101, 47,
  103, 48, 48, 57, 55, 57, 47, 108, 97, 119, 115, 46, 70, 110, 69, 120, 97, 99, 116, 83, 99, 104, 101, 100, 67, 114, 97, 115, 104, 32, 108, 111, 111, 112, 46, 101, 120, 97, 109, 112,
  108, 101, 47, 103, 48, 48, 57, 55, 57, 47, 108, 97, 119, 115, 46, 70, 110, 69, 120, 97, 99, 116, 83, 99, 104, 101, 100, 83, 116, 101, 112, 32, 108, 111, 111, 112, 46, 101, 120, 97,
  109, 112, 108, 101, 47, 103, 48, 48, 57, 55, 57, 47, 108, 97, 119, 115, 46, 70, 110, 69, 120, 97, 99, 116, 83, 99, 104, 101, 100, 82, 117, 110]
set_option maxRecDepth 100000 in
theorem headIs : Try.prog.initOrder = String.ofList (chars (headA ++ 32 :: (headB ++ 32 :: (headC ++ 32 :: headD)))) := by kernel_rfl
theorem headWords : wordsSigns Try.prog.initOrder.toList = chars headA :: chars headB :: chars headC :: wordsSigns (chars headD) := by
  rw [headIs, String.toList_ofList, words_split _ _ (by kernel_rfl), words_split _ _ (by kernel_rfl), words_split _ _ (by kernel_rfl)]
theorem makeIs : Try.prog.make = some .cut := make_of _ _ _ _ _ headWords (by kernel_rfl) (by kernel_rfl) (by kernel_rfl)
theorem mayIs : Try.prog.mayEnter = true := may_of _ _ _ _ _ headWords (by kernel_rfl) (by kernel_rfl) (by kernel_rfl) (by kernel_rfl) (by kernel_rfl) (by kernel_rfl)
theorem finalsIs : Try.prog.liftsFinal = false := finals_of _ _ _ _ _ headWords (by kernel_rfl) (by kernel_rfl) (by kernel_rfl)
theorem own : ownKnob Try.prog.godebug = none := by kernel_rfl
end Go.Proofs.Ytipnhlnbokkihaa
