/-
  No cell of these rows narrows 'for every input' (looked for: loops, veiled, ifaces, maps, wideKeys, modest, calm, conditions, laid).
  DERIVED. THE GIVEN ROWS OF THIS SEAT. 8 by the template 'for every input the law returns true; each argument reads behind the call as it read before'; 0 by the template 'total and deterministic' (their statements: YtdfomahaplcgoaaTotals.lean).
  GIVEN WITH THE SEED: the statements are not yours to turn. If you find one false, say at which input.
  Laid BY PROGRAM, IN A SANDBOX (cutbox-rows.mjs): the forced cells as the released guide's own fill.sh prints them over the translation ee9a97947a12673d… (all of the seat's roots in one cut). By AI agents, Wed Nov 11 2026. No macro, syntax, notation, axiom, sorry.
-/
import Derived.Test.YtdfomahaplcgoaaChecked
import GoSem.Claim
import GoSem.ClaimJoined
import GoSem.ClaimMapViews
import Derived.JoinedTies
import Derived.KernelRfl
namespace Go.Proofs.Ytdfomahaplcgoaa
/- THE CELL 'sum', in the pinned program and in every row, IS THE sha256 OF THE DUMP (.gsa) THAT YtdfomahaplcgoaaProg.lean LOADS. Nothing in Lean hashes anything: it is a label: what it is worth is what the hold of that sum in a sandbox is worth. -/
noncomputable def Try.pinned : Pinned := { name := "ytdfomahaplcgoaa", sum := "ee9a97947a12673dfbb1851a2772969a12e1486f4501218adabb709db09c46a0", checked := Try.checked }
namespace Rows
def none {H : Type} : Left H := { results := [], args := [] }

/-- 'laws.FnChanged': WHATEVER THE INPUT: true; the input reads as it did. -/
def fnChangedSpec : ChangeSpec := { name := "fnChanged", fn := fun _ => fun
  | [d] => { results := [.lit (.bool true)], args := [d] }
  | _ => none }
def fnChangedRow : OpenClaim := { program := "ytdfomahaplcgoaa", sum := "ee9a97947a12673dfbb1851a2772969a12e1486f4501218adabb709db09c46a0", func := "loop.example/g00979/laws.FnChanged", spec := "fnChanged", apart := false }
def FnChangedSaid : Prop := fnChangedRow.holds Try.pinned (OpenSpec.ofChange fnChangedSpec)

/-- ITS FALSE NEIGHBOUR: 'it returns false'. Refute it at one input. -/
def fnChangedWrong : ChangeSpec := { name := "fnChanged", fn := fun _ => fun
  | [d] => { results := [.lit (.bool false)], args := [d] }
  | _ => none }
def FnChangedWrongFalsely : Prop := fnChangedRow.holds Try.pinned (OpenSpec.ofChange fnChangedWrong)

/-- 'laws.FnResumed': WHATEVER THE INPUT: true; the input reads as it did. -/
def fnResumedSpec : ChangeSpec := { name := "fnResumed", fn := fun _ => fun
  | [d] => { results := [.lit (.bool true)], args := [d] }
  | _ => none }
def fnResumedRow : OpenClaim := { program := "ytdfomahaplcgoaa", sum := "ee9a97947a12673dfbb1851a2772969a12e1486f4501218adabb709db09c46a0", func := "loop.example/g00979/laws.FnResumed", spec := "fnResumed", apart := false }
def FnResumedSaid : Prop := fnResumedRow.holds Try.pinned (OpenSpec.ofChange fnResumedSpec)

/-- ITS FALSE NEIGHBOUR: 'it returns false'. Refute it at one input. -/
def fnResumedWrong : ChangeSpec := { name := "fnResumed", fn := fun _ => fun
  | [d] => { results := [.lit (.bool false)], args := [d] }
  | _ => none }
def FnResumedWrongFalsely : Prop := fnResumedRow.holds Try.pinned (OpenSpec.ofChange fnResumedWrong)

/-- 'laws.FnPads': WHATEVER THE INPUT: true; the input reads as it did. -/
def fnPadsSpec : ChangeSpec := { name := "fnPads", fn := fun _ => fun
  | [d] => { results := [.lit (.bool true)], args := [d] }
  | _ => none }
def fnPadsRow : OpenClaim := { program := "ytdfomahaplcgoaa", sum := "ee9a97947a12673dfbb1851a2772969a12e1486f4501218adabb709db09c46a0", func := "loop.example/g00979/laws.FnPads", spec := "fnPads", apart := false }
def FnPadsSaid : Prop := fnPadsRow.holds Try.pinned (OpenSpec.ofChange fnPadsSpec)

/-- ITS FALSE NEIGHBOUR: 'it returns false'. Refute it at one input. -/
def fnPadsWrong : ChangeSpec := { name := "fnPads", fn := fun _ => fun
  | [d] => { results := [.lit (.bool false)], args := [d] }
  | _ => none }
def FnPadsWrongFalsely : Prop := fnPadsRow.holds Try.pinned (OpenSpec.ofChange fnPadsWrong)

/-- 'laws.FnDelivered': WHATEVER THE INPUT: true; the input reads as it did. -/
def fnDeliveredSpec : ChangeSpec := { name := "fnDelivered", fn := fun _ => fun
  | [d] => { results := [.lit (.bool true)], args := [d] }
  | _ => none }
def fnDeliveredRow : OpenClaim := { program := "ytdfomahaplcgoaa", sum := "ee9a97947a12673dfbb1851a2772969a12e1486f4501218adabb709db09c46a0", func := "loop.example/g00979/laws.FnDelivered", spec := "fnDelivered", apart := false }
def FnDeliveredSaid : Prop := fnDeliveredRow.holds Try.pinned (OpenSpec.ofChange fnDeliveredSpec)

/-- ITS FALSE NEIGHBOUR: 'it returns false'. Refute it at one input. -/
def fnDeliveredWrong : ChangeSpec := { name := "fnDelivered", fn := fun _ => fun
  | [d] => { results := [.lit (.bool false)], args := [d] }
  | _ => none }
def FnDeliveredWrongFalsely : Prop := fnDeliveredRow.holds Try.pinned (OpenSpec.ofChange fnDeliveredWrong)

/-- 'laws.FnSaved': WHATEVER THE INPUT: true; the input reads as it did. -/
def fnSavedSpec : ChangeSpec := { name := "fnSaved", fn := fun _ => fun
  | [d] => { results := [.lit (.bool true)], args := [d] }
  | _ => none }
def fnSavedRow : OpenClaim := { program := "ytdfomahaplcgoaa", sum := "ee9a97947a12673dfbb1851a2772969a12e1486f4501218adabb709db09c46a0", func := "loop.example/g00979/laws.FnSaved", spec := "fnSaved", apart := false }
def FnSavedSaid : Prop := fnSavedRow.holds Try.pinned (OpenSpec.ofChange fnSavedSpec)

/-- ITS FALSE NEIGHBOUR: 'it returns false'. Refute it at one input. -/
def fnSavedWrong : ChangeSpec := { name := "fnSaved", fn := fun _ => fun
  | [d] => { results := [.lit (.bool false)], args := [d] }
  | _ => none }
def FnSavedWrongFalsely : Prop := fnSavedRow.holds Try.pinned (OpenSpec.ofChange fnSavedWrong)

/-- 'laws.FnExactRunFrames': WHATEVER THE INPUT: true; the input reads as it did. -/
def fnExactRunFramesSpec : ChangeSpec := { name := "fnExactRunFrames", fn := fun _ => fun
  | [d1, d2, d3] => { results := [.lit (.bool true)], args := [d1, d2, d3] }
  | _ => none }
def fnExactRunFramesRow : OpenClaim := { program := "ytdfomahaplcgoaa", sum := "ee9a97947a12673dfbb1851a2772969a12e1486f4501218adabb709db09c46a0", func := "loop.example/g00979/laws.FnExactRunFrames", spec := "fnExactRunFrames", apart := false }
def FnExactRunFramesSaid : Prop := fnExactRunFramesRow.holds Try.pinned (OpenSpec.ofChange fnExactRunFramesSpec)

/-- ITS FALSE NEIGHBOUR: 'it returns false'. Refute it at one input. -/
def fnExactRunFramesWrong : ChangeSpec := { name := "fnExactRunFrames", fn := fun _ => fun
  | [d1, d2, d3] => { results := [.lit (.bool false)], args := [d1, d2, d3] }
  | _ => none }
def FnExactRunFramesWrongFalsely : Prop := fnExactRunFramesRow.holds Try.pinned (OpenSpec.ofChange fnExactRunFramesWrong)

/-- 'laws.FnExactLoad': WHATEVER THE INPUT: true; the input reads as it did. -/
def fnExactLoadSpec : ChangeSpec := { name := "fnExactLoad", fn := fun _ => fun
  | [d1, d2] => { results := [.lit (.bool true)], args := [d1, d2] }
  | _ => none }
def fnExactLoadRow : OpenClaim := { program := "ytdfomahaplcgoaa", sum := "ee9a97947a12673dfbb1851a2772969a12e1486f4501218adabb709db09c46a0", func := "loop.example/g00979/laws.FnExactLoad", spec := "fnExactLoad", apart := false }
def FnExactLoadSaid : Prop := fnExactLoadRow.holds Try.pinned (OpenSpec.ofChange fnExactLoadSpec)

/-- ITS FALSE NEIGHBOUR: 'it returns false'. Refute it at one input. -/
def fnExactLoadWrong : ChangeSpec := { name := "fnExactLoad", fn := fun _ => fun
  | [d1, d2] => { results := [.lit (.bool false)], args := [d1, d2] }
  | _ => none }
def FnExactLoadWrongFalsely : Prop := fnExactLoadRow.holds Try.pinned (OpenSpec.ofChange fnExactLoadWrong)

/-- 'laws.FnExactSave': WHATEVER THE INPUT: true; the input reads as it did. -/
def fnExactSaveSpec : ChangeSpec := { name := "fnExactSave", fn := fun _ => fun
  | [d1, d2] => { results := [.lit (.bool true)], args := [d1, d2] }
  | _ => none }
def fnExactSaveRow : OpenClaim := { program := "ytdfomahaplcgoaa", sum := "ee9a97947a12673dfbb1851a2772969a12e1486f4501218adabb709db09c46a0", func := "loop.example/g00979/laws.FnExactSave", spec := "fnExactSave", apart := false }
def FnExactSaveSaid : Prop := fnExactSaveRow.holds Try.pinned (OpenSpec.ofChange fnExactSaveSpec)

/-- ITS FALSE NEIGHBOUR: 'it returns false'. Refute it at one input. -/
def fnExactSaveWrong : ChangeSpec := { name := "fnExactSave", fn := fun _ => fun
  | [d1, d2] => { results := [.lit (.bool false)], args := [d1, d2] }
  | _ => none }
def FnExactSaveWrongFalsely : Prop := fnExactSaveRow.holds Try.pinned (OpenSpec.ofChange fnExactSaveWrong)

/- THE SECOND FORM. 'bulk': how many values and letters a reading holds, each counted each time it is reached (what is shared counts as often as it is met; a slice's spare places count too). A statement '..UptoSaid' is the law's where the arguments, and the package variables that the reading takes, are together of bulk at most 1048576: NARROWER than '..Said'. Prove '..Said' where nothing that the law and all that it calls make is longer than what came in: it says more and counts as full. Else prove '..UptoSaid'. A law counts once. -/
mutual
def uptoBulk {H : Type} : DataW H → Nat
  | .lit (.string bytes) => bytes.length + 1
  | .lit _ => 1
  | .nil => 1
  | .ptr d => uptoBulk d + 1
  | .slice elems spare => uptoBulkAll elems + uptoBulkAll spare + 1
  | .agg parts => uptoBulkAll parts + 1
  | .iface _ d => uptoBulk d + 1
  | .map entries => uptoBulkEntries entries + 1
  | .held _ => 1
def uptoBulkAll {H : Type} : List (DataW H) → Nat
  | [] => 0
  | d :: r => uptoBulk d + uptoBulkAll r
def uptoBulkEntries {H : Type} : List (Lit × DataW H) → Nat
  | [] => 0
  | x :: r => uptoBulkEntry x + uptoBulkEntries r
def uptoBulkEntry {H : Type} : Lit × DataW H → Nat
  | (.string bytes, d) => bytes.length + uptoBulk d + 1
  | (_, d) => uptoBulk d + 1
 end
def uptoSmall : (H : Type) → List (DataW H) → Bool := fun _ ds => decide (uptoBulkAll ds ≤ 1048576)
def OpenSpec.upto (s : _root_.Go.ChangeSpec) : _root_.Go.OpenSpec := { _root_.Go.OpenSpec.ofChange s with cond := some uptoSmall }

/-- 'laws.FnChanged', WHERE WHAT IT READS IS OF BULK AT MOST 1048576: true; the input reads as it did. -/
def fnChangedUptoRow : OpenClaim := { program := "ytdfomahaplcgoaa", sum := "ee9a97947a12673dfbb1851a2772969a12e1486f4501218adabb709db09c46a0", func := "loop.example/g00979/laws.FnChanged", spec := "fnChanged", apart := false, narrowed := true }
def FnChangedUptoSaid : Prop := fnChangedUptoRow.holds Try.pinned (OpenSpec.upto fnChangedSpec)

/-- 'laws.FnResumed', WHERE WHAT IT READS IS OF BULK AT MOST 1048576: true; the input reads as it did. -/
def fnResumedUptoRow : OpenClaim := { program := "ytdfomahaplcgoaa", sum := "ee9a97947a12673dfbb1851a2772969a12e1486f4501218adabb709db09c46a0", func := "loop.example/g00979/laws.FnResumed", spec := "fnResumed", apart := false, narrowed := true }
def FnResumedUptoSaid : Prop := fnResumedUptoRow.holds Try.pinned (OpenSpec.upto fnResumedSpec)

/-- 'laws.FnPads', WHERE WHAT IT READS IS OF BULK AT MOST 1048576: true; the input reads as it did. -/
def fnPadsUptoRow : OpenClaim := { program := "ytdfomahaplcgoaa", sum := "ee9a97947a12673dfbb1851a2772969a12e1486f4501218adabb709db09c46a0", func := "loop.example/g00979/laws.FnPads", spec := "fnPads", apart := false, narrowed := true }
def FnPadsUptoSaid : Prop := fnPadsUptoRow.holds Try.pinned (OpenSpec.upto fnPadsSpec)

/-- 'laws.FnDelivered', WHERE WHAT IT READS IS OF BULK AT MOST 1048576: true; the input reads as it did. -/
def fnDeliveredUptoRow : OpenClaim := { program := "ytdfomahaplcgoaa", sum := "ee9a97947a12673dfbb1851a2772969a12e1486f4501218adabb709db09c46a0", func := "loop.example/g00979/laws.FnDelivered", spec := "fnDelivered", apart := false, narrowed := true }
def FnDeliveredUptoSaid : Prop := fnDeliveredUptoRow.holds Try.pinned (OpenSpec.upto fnDeliveredSpec)

/-- 'laws.FnSaved', WHERE WHAT IT READS IS OF BULK AT MOST 1048576: true; the input reads as it did. -/
def fnSavedUptoRow : OpenClaim := { program := "ytdfomahaplcgoaa", sum := "ee9a97947a12673dfbb1851a2772969a12e1486f4501218adabb709db09c46a0", func := "loop.example/g00979/laws.FnSaved", spec := "fnSaved", apart := false, narrowed := true }
def FnSavedUptoSaid : Prop := fnSavedUptoRow.holds Try.pinned (OpenSpec.upto fnSavedSpec)

/-- 'laws.FnExactRunFrames', WHERE WHAT IT READS IS OF BULK AT MOST 1048576: true; the input reads as it did. -/
def fnExactRunFramesUptoRow : OpenClaim := { program := "ytdfomahaplcgoaa", sum := "ee9a97947a12673dfbb1851a2772969a12e1486f4501218adabb709db09c46a0", func := "loop.example/g00979/laws.FnExactRunFrames", spec := "fnExactRunFrames", apart := false, narrowed := true }
def FnExactRunFramesUptoSaid : Prop := fnExactRunFramesUptoRow.holds Try.pinned (OpenSpec.upto fnExactRunFramesSpec)

/-- 'laws.FnExactLoad', WHERE WHAT IT READS IS OF BULK AT MOST 1048576: true; the input reads as it did. -/
def fnExactLoadUptoRow : OpenClaim := { program := "ytdfomahaplcgoaa", sum := "ee9a97947a12673dfbb1851a2772969a12e1486f4501218adabb709db09c46a0", func := "loop.example/g00979/laws.FnExactLoad", spec := "fnExactLoad", apart := false, narrowed := true }
def FnExactLoadUptoSaid : Prop := fnExactLoadUptoRow.holds Try.pinned (OpenSpec.upto fnExactLoadSpec)

/-- 'laws.FnExactSave', WHERE WHAT IT READS IS OF BULK AT MOST 1048576: true; the input reads as it did. -/
def fnExactSaveUptoRow : OpenClaim := { program := "ytdfomahaplcgoaa", sum := "ee9a97947a12673dfbb1851a2772969a12e1486f4501218adabb709db09c46a0", func := "loop.example/g00979/laws.FnExactSave", spec := "fnExactSave", apart := false, narrowed := true }
def FnExactSaveUptoSaid : Prop := fnExactSaveUptoRow.holds Try.pinned (OpenSpec.upto fnExactSaveSpec)

end Rows
end Go.Proofs.Ytdfomahaplcgoaa
