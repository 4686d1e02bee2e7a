/-
  No cell of these rows narrows 'for every input' (looked for: loops, veiled, ifaces, maps, wideKeys, modest, calm, conditions, laid).
  DERIVED. THE GIVEN ROWS OF THIS SEAT. 10 by the template 'for every input the law returns true; each argument reads behind the call as it read before'; 0 by the template 'total and deterministic' (their statements: YtipnhlnbokkihaaTotals.lean).
  GIVEN WITH THE SEED: the statements are not yours to turn. If you find one false, say at which input.
  Laid BY PROGRAM, IN A SANDBOX (cutbox-rows.mjs): the forced cells as the released guide's own fill.sh prints them over the translation ff756a893b11a80e… (all of the seat's roots in one cut). By AI agents, Wed Nov 11 2026. No macro, syntax, notation, axiom, sorry.
-/
import Derived.Test.YtipnhlnbokkihaaChecked
import GoSem.Claim
import GoSem.ClaimJoined
import GoSem.ClaimMapViews
import Derived.JoinedTies
import Derived.KernelRfl
namespace Go.Proofs.Ytipnhlnbokkihaa
/- THE CELL 'sum', in the pinned program and in every row, IS THE sha256 OF THE DUMP (.gsa) THAT YtipnhlnbokkihaaProg.lean LOADS. Nothing in Lean hashes anything: it is a label: what it is worth is what the hold of that sum in a sandbox is worth. -/
noncomputable def Try.pinned : Pinned := { name := "ytipnhlnbokkihaa", sum := "ff756a893b11a80ecec8e13825db64b8c1d97eeeb4774931e3bc16059b9946e6", checked := Try.checked }
namespace Rows
def none {H : Type} : Left H := { results := [], args := [] }

/-- 'laws.FnFair': WHATEVER THE INPUT: true; the input reads as it did. -/
def fnFairSpec : ChangeSpec := { name := "fnFair", fn := fun _ => fun
  | [d] => { results := [.lit (.bool true)], args := [d] }
  | _ => none }
def fnFairRow : OpenClaim := { program := "ytipnhlnbokkihaa", sum := "ff756a893b11a80ecec8e13825db64b8c1d97eeeb4774931e3bc16059b9946e6", func := "loop.example/g00979/laws.FnFair", spec := "fnFair", unfollowed := true, recurses := true, apart := false }
def FnFairSaid : Prop := fnFairRow.holds Try.pinned (OpenSpec.ofChange fnFairSpec)

/-- ITS FALSE NEIGHBOUR: 'it returns false'. Refute it at one input. -/
def fnFairWrong : ChangeSpec := { name := "fnFair", fn := fun _ => fun
  | [d] => { results := [.lit (.bool false)], args := [d] }
  | _ => none }
def FnFairWrongFalsely : Prop := fnFairRow.holds Try.pinned (OpenSpec.ofChange fnFairWrong)

/-- 'laws.FnExactSchedNew': WHATEVER THE INPUT: true; the input reads as it did. -/
def fnExactSchedNewSpec : ChangeSpec := { name := "fnExactSchedNew", fn := fun _ => fun
  | [d] => { results := [.lit (.bool true)], args := [d] }
  | _ => none }
def fnExactSchedNewRow : OpenClaim := { program := "ytipnhlnbokkihaa", sum := "ff756a893b11a80ecec8e13825db64b8c1d97eeeb4774931e3bc16059b9946e6", func := "loop.example/g00979/laws.FnExactSchedNew", spec := "fnExactSchedNew", apart := false }
def FnExactSchedNewSaid : Prop := fnExactSchedNewRow.holds Try.pinned (OpenSpec.ofChange fnExactSchedNewSpec)

/-- ITS FALSE NEIGHBOUR: 'it returns false'. Refute it at one input. -/
def fnExactSchedNewWrong : ChangeSpec := { name := "fnExactSchedNew", fn := fun _ => fun
  | [d] => { results := [.lit (.bool false)], args := [d] }
  | _ => none }
def FnExactSchedNewWrongFalsely : Prop := fnExactSchedNewRow.holds Try.pinned (OpenSpec.ofChange fnExactSchedNewWrong)

/-- 'laws.FnExactSchedOk': WHATEVER THE INPUT: true; the input reads as it did. -/
def fnExactSchedOkSpec : ChangeSpec := { name := "fnExactSchedOk", fn := fun _ => fun
  | [d] => { results := [.lit (.bool true)], args := [d] }
  | _ => none }
def fnExactSchedOkRow : OpenClaim := { program := "ytipnhlnbokkihaa", sum := "ff756a893b11a80ecec8e13825db64b8c1d97eeeb4774931e3bc16059b9946e6", func := "loop.example/g00979/laws.FnExactSchedOk", spec := "fnExactSchedOk", apart := false }
def FnExactSchedOkSaid : Prop := fnExactSchedOkRow.holds Try.pinned (OpenSpec.ofChange fnExactSchedOkSpec)

/-- ITS FALSE NEIGHBOUR: 'it returns false'. Refute it at one input. -/
def fnExactSchedOkWrong : ChangeSpec := { name := "fnExactSchedOk", fn := fun _ => fun
  | [d] => { results := [.lit (.bool false)], args := [d] }
  | _ => none }
def FnExactSchedOkWrongFalsely : Prop := fnExactSchedOkRow.holds Try.pinned (OpenSpec.ofChange fnExactSchedOkWrong)

/-- 'laws.FnFailures': WHATEVER THE INPUT: true; the input reads as it did. -/
def fnFailuresSpec : ChangeSpec := { name := "fnFailures", fn := fun _ => fun
  | [d] => { results := [.lit (.bool true)], args := [d] }
  | _ => none }
def fnFailuresRow : OpenClaim := { program := "ytipnhlnbokkihaa", sum := "ff756a893b11a80ecec8e13825db64b8c1d97eeeb4774931e3bc16059b9946e6", func := "loop.example/g00979/laws.FnFailures", spec := "fnFailures", unfollowed := true, recurses := true, apart := false }
def FnFailuresSaid : Prop := fnFailuresRow.holds Try.pinned (OpenSpec.ofChange fnFailuresSpec)

/-- ITS FALSE NEIGHBOUR: 'it returns false'. Refute it at one input. -/
def fnFailuresWrong : ChangeSpec := { name := "fnFailures", fn := fun _ => fun
  | [d] => { results := [.lit (.bool false)], args := [d] }
  | _ => none }
def FnFailuresWrongFalsely : Prop := fnFailuresRow.holds Try.pinned (OpenSpec.ofChange fnFailuresWrong)

/-- 'laws.FnAccounted': WHATEVER THE INPUT: true; the input reads as it did. -/
def fnAccountedSpec : ChangeSpec := { name := "fnAccounted", fn := fun _ => fun
  | [d] => { results := [.lit (.bool true)], args := [d] }
  | _ => none }
def fnAccountedRow : OpenClaim := { program := "ytipnhlnbokkihaa", sum := "ff756a893b11a80ecec8e13825db64b8c1d97eeeb4774931e3bc16059b9946e6", func := "loop.example/g00979/laws.FnAccounted", spec := "fnAccounted", unfollowed := true, recurses := true, apart := false }
def FnAccountedSaid : Prop := fnAccountedRow.holds Try.pinned (OpenSpec.ofChange fnAccountedSpec)

/-- ITS FALSE NEIGHBOUR: 'it returns false'. Refute it at one input. -/
def fnAccountedWrong : ChangeSpec := { name := "fnAccounted", fn := fun _ => fun
  | [d] => { results := [.lit (.bool false)], args := [d] }
  | _ => none }
def FnAccountedWrongFalsely : Prop := fnAccountedRow.holds Try.pinned (OpenSpec.ofChange fnAccountedWrong)

/-- 'laws.FnScheduled': WHATEVER THE INPUT: true; the input reads as it did. -/
def fnScheduledSpec : ChangeSpec := { name := "fnScheduled", fn := fun _ => fun
  | [d] => { results := [.lit (.bool true)], args := [d] }
  | _ => none }
def fnScheduledRow : OpenClaim := { program := "ytipnhlnbokkihaa", sum := "ff756a893b11a80ecec8e13825db64b8c1d97eeeb4774931e3bc16059b9946e6", func := "loop.example/g00979/laws.FnScheduled", spec := "fnScheduled", unfollowed := true, recurses := true, apart := false }
def FnScheduledSaid : Prop := fnScheduledRow.holds Try.pinned (OpenSpec.ofChange fnScheduledSpec)

/-- ITS FALSE NEIGHBOUR: 'it returns false'. Refute it at one input. -/
def fnScheduledWrong : ChangeSpec := { name := "fnScheduled", fn := fun _ => fun
  | [d] => { results := [.lit (.bool false)], args := [d] }
  | _ => none }
def FnScheduledWrongFalsely : Prop := fnScheduledRow.holds Try.pinned (OpenSpec.ofChange fnScheduledWrong)

/-- 'laws.FnExactSchedAdd': WHATEVER THE INPUT: true; the input reads as it did. -/
def fnExactSchedAddSpec : ChangeSpec := { name := "fnExactSchedAdd", fn := fun _ => fun
  | [d1, d2, d3, d4] => { results := [.lit (.bool true)], args := [d1, d2, d3, d4] }
  | _ => none }
def fnExactSchedAddRow : OpenClaim := { program := "ytipnhlnbokkihaa", sum := "ff756a893b11a80ecec8e13825db64b8c1d97eeeb4774931e3bc16059b9946e6", func := "loop.example/g00979/laws.FnExactSchedAdd", spec := "fnExactSchedAdd", apart := false }
def FnExactSchedAddSaid : Prop := fnExactSchedAddRow.holds Try.pinned (OpenSpec.ofChange fnExactSchedAddSpec)

/-- ITS FALSE NEIGHBOUR: 'it returns false'. Refute it at one input. -/
def fnExactSchedAddWrong : ChangeSpec := { name := "fnExactSchedAdd", fn := fun _ => fun
  | [d1, d2, d3, d4] => { results := [.lit (.bool false)], args := [d1, d2, d3, d4] }
  | _ => none }
def FnExactSchedAddWrongFalsely : Prop := fnExactSchedAddRow.holds Try.pinned (OpenSpec.ofChange fnExactSchedAddWrong)

/-- 'laws.FnExactSchedCrash': WHATEVER THE INPUT: true; the input reads as it did. -/
def fnExactSchedCrashSpec : ChangeSpec := { name := "fnExactSchedCrash", fn := fun _ => fun
  | [d] => { results := [.lit (.bool true)], args := [d] }
  | _ => none }
def fnExactSchedCrashRow : OpenClaim := { program := "ytipnhlnbokkihaa", sum := "ff756a893b11a80ecec8e13825db64b8c1d97eeeb4774931e3bc16059b9946e6", func := "loop.example/g00979/laws.FnExactSchedCrash", spec := "fnExactSchedCrash", apart := false }
def FnExactSchedCrashSaid : Prop := fnExactSchedCrashRow.holds Try.pinned (OpenSpec.ofChange fnExactSchedCrashSpec)

/-- ITS FALSE NEIGHBOUR: 'it returns false'. Refute it at one input. -/
def fnExactSchedCrashWrong : ChangeSpec := { name := "fnExactSchedCrash", fn := fun _ => fun
  | [d] => { results := [.lit (.bool false)], args := [d] }
  | _ => none }
def FnExactSchedCrashWrongFalsely : Prop := fnExactSchedCrashRow.holds Try.pinned (OpenSpec.ofChange fnExactSchedCrashWrong)

/-- 'laws.FnExactSchedStep': WHATEVER THE INPUT: true; the input reads as it did. -/
def fnExactSchedStepSpec : ChangeSpec := { name := "fnExactSchedStep", fn := fun _ => fun
  | [d] => { results := [.lit (.bool true)], args := [d] }
  | _ => none }
def fnExactSchedStepRow : OpenClaim := { program := "ytipnhlnbokkihaa", sum := "ff756a893b11a80ecec8e13825db64b8c1d97eeeb4774931e3bc16059b9946e6", func := "loop.example/g00979/laws.FnExactSchedStep", spec := "fnExactSchedStep", unfollowed := true, recurses := true, apart := false }
def FnExactSchedStepSaid : Prop := fnExactSchedStepRow.holds Try.pinned (OpenSpec.ofChange fnExactSchedStepSpec)

/-- ITS FALSE NEIGHBOUR: 'it returns false'. Refute it at one input. -/
def fnExactSchedStepWrong : ChangeSpec := { name := "fnExactSchedStep", fn := fun _ => fun
  | [d] => { results := [.lit (.bool false)], args := [d] }
  | _ => none }
def FnExactSchedStepWrongFalsely : Prop := fnExactSchedStepRow.holds Try.pinned (OpenSpec.ofChange fnExactSchedStepWrong)

/-- 'laws.FnExactSchedRun': WHATEVER THE INPUT: true; the input reads as it did. -/
def fnExactSchedRunSpec : ChangeSpec := { name := "fnExactSchedRun", fn := fun _ => fun
  | [d1, d2] => { results := [.lit (.bool true)], args := [d1, d2] }
  | _ => none }
def fnExactSchedRunRow : OpenClaim := { program := "ytipnhlnbokkihaa", sum := "ff756a893b11a80ecec8e13825db64b8c1d97eeeb4774931e3bc16059b9946e6", func := "loop.example/g00979/laws.FnExactSchedRun", spec := "fnExactSchedRun", unfollowed := true, recurses := true, apart := false }
def FnExactSchedRunSaid : Prop := fnExactSchedRunRow.holds Try.pinned (OpenSpec.ofChange fnExactSchedRunSpec)

/-- ITS FALSE NEIGHBOUR: 'it returns false'. Refute it at one input. -/
def fnExactSchedRunWrong : ChangeSpec := { name := "fnExactSchedRun", fn := fun _ => fun
  | [d1, d2] => { results := [.lit (.bool false)], args := [d1, d2] }
  | _ => none }
def FnExactSchedRunWrongFalsely : Prop := fnExactSchedRunRow.holds Try.pinned (OpenSpec.ofChange fnExactSchedRunWrong)

/- THE SECOND FORM. 'bulk': how many values and letters a reading holds, each counted each time it is reached (what is shared counts as often as it is met; a slice's spare places count too). A statement '..UptoSaid' is the law's where the arguments, and the package variables that the reading takes, are together of bulk at most 1048576: NARROWER than '..Said'. Prove '..Said' where nothing that the law and all that it calls make is longer than what came in: it says more and counts as full. Else prove '..UptoSaid'. A law counts once. -/
mutual
def uptoBulk {H : Type} : DataW H → Nat
  | .lit (.string bytes) => bytes.length + 1
  | .lit _ => 1
  | .nil => 1
  | .ptr d => uptoBulk d + 1
  | .slice elems spare => uptoBulkAll elems + uptoBulkAll spare + 1
  | .agg parts => uptoBulkAll parts + 1
  | .iface _ d => uptoBulk d + 1
  | .map entries => uptoBulkEntries entries + 1
  | .held _ => 1
def uptoBulkAll {H : Type} : List (DataW H) → Nat
  | [] => 0
  | d :: r => uptoBulk d + uptoBulkAll r
def uptoBulkEntries {H : Type} : List (Lit × DataW H) → Nat
  | [] => 0
  | x :: r => uptoBulkEntry x + uptoBulkEntries r
def uptoBulkEntry {H : Type} : Lit × DataW H → Nat
  | (.string bytes, d) => bytes.length + uptoBulk d + 1
  | (_, d) => uptoBulk d + 1
 end
def uptoSmall : (H : Type) → List (DataW H) → Bool := fun _ ds => decide (uptoBulkAll ds ≤ 1048576)
def OpenSpec.upto (s : _root_.Go.ChangeSpec) : _root_.Go.OpenSpec := { _root_.Go.OpenSpec.ofChange s with cond := some uptoSmall }

/-- 'laws.FnFair', WHERE WHAT IT READS IS OF BULK AT MOST 1048576: true; the input reads as it did. -/
def fnFairUptoRow : OpenClaim := { program := "ytipnhlnbokkihaa", sum := "ff756a893b11a80ecec8e13825db64b8c1d97eeeb4774931e3bc16059b9946e6", func := "loop.example/g00979/laws.FnFair", spec := "fnFair", unfollowed := true, recurses := true, apart := false, narrowed := true }
def FnFairUptoSaid : Prop := fnFairUptoRow.holds Try.pinned (OpenSpec.upto fnFairSpec)

/-- 'laws.FnExactSchedNew', WHERE WHAT IT READS IS OF BULK AT MOST 1048576: true; the input reads as it did. -/
def fnExactSchedNewUptoRow : OpenClaim := { program := "ytipnhlnbokkihaa", sum := "ff756a893b11a80ecec8e13825db64b8c1d97eeeb4774931e3bc16059b9946e6", func := "loop.example/g00979/laws.FnExactSchedNew", spec := "fnExactSchedNew", apart := false, narrowed := true }
def FnExactSchedNewUptoSaid : Prop := fnExactSchedNewUptoRow.holds Try.pinned (OpenSpec.upto fnExactSchedNewSpec)

/-- 'laws.FnExactSchedOk', WHERE WHAT IT READS IS OF BULK AT MOST 1048576: true; the input reads as it did. -/
def fnExactSchedOkUptoRow : OpenClaim := { program := "ytipnhlnbokkihaa", sum := "ff756a893b11a80ecec8e13825db64b8c1d97eeeb4774931e3bc16059b9946e6", func := "loop.example/g00979/laws.FnExactSchedOk", spec := "fnExactSchedOk", apart := false, narrowed := true }
def FnExactSchedOkUptoSaid : Prop := fnExactSchedOkUptoRow.holds Try.pinned (OpenSpec.upto fnExactSchedOkSpec)

/-- 'laws.FnFailures', WHERE WHAT IT READS IS OF BULK AT MOST 1048576: true; the input reads as it did. -/
def fnFailuresUptoRow : OpenClaim := { program := "ytipnhlnbokkihaa", sum := "ff756a893b11a80ecec8e13825db64b8c1d97eeeb4774931e3bc16059b9946e6", func := "loop.example/g00979/laws.FnFailures", spec := "fnFailures", unfollowed := true, recurses := true, apart := false, narrowed := true }
def FnFailuresUptoSaid : Prop := fnFailuresUptoRow.holds Try.pinned (OpenSpec.upto fnFailuresSpec)

/-- 'laws.FnAccounted', WHERE WHAT IT READS IS OF BULK AT MOST 1048576: true; the input reads as it did. -/
def fnAccountedUptoRow : OpenClaim := { program := "ytipnhlnbokkihaa", sum := "ff756a893b11a80ecec8e13825db64b8c1d97eeeb4774931e3bc16059b9946e6", func := "loop.example/g00979/laws.FnAccounted", spec := "fnAccounted", unfollowed := true, recurses := true, apart := false, narrowed := true }
def FnAccountedUptoSaid : Prop := fnAccountedUptoRow.holds Try.pinned (OpenSpec.upto fnAccountedSpec)

/-- 'laws.FnScheduled', WHERE WHAT IT READS IS OF BULK AT MOST 1048576: true; the input reads as it did. -/
def fnScheduledUptoRow : OpenClaim := { program := "ytipnhlnbokkihaa", sum := "ff756a893b11a80ecec8e13825db64b8c1d97eeeb4774931e3bc16059b9946e6", func := "loop.example/g00979/laws.FnScheduled", spec := "fnScheduled", unfollowed := true, recurses := true, apart := false, narrowed := true }
def FnScheduledUptoSaid : Prop := fnScheduledUptoRow.holds Try.pinned (OpenSpec.upto fnScheduledSpec)

/-- 'laws.FnExactSchedAdd', WHERE WHAT IT READS IS OF BULK AT MOST 1048576: true; the input reads as it did. -/
def fnExactSchedAddUptoRow : OpenClaim := { program := "ytipnhlnbokkihaa", sum := "ff756a893b11a80ecec8e13825db64b8c1d97eeeb4774931e3bc16059b9946e6", func := "loop.example/g00979/laws.FnExactSchedAdd", spec := "fnExactSchedAdd", apart := false, narrowed := true }
def FnExactSchedAddUptoSaid : Prop := fnExactSchedAddUptoRow.holds Try.pinned (OpenSpec.upto fnExactSchedAddSpec)

/-- 'laws.FnExactSchedCrash', WHERE WHAT IT READS IS OF BULK AT MOST 1048576: true; the input reads as it did. -/
def fnExactSchedCrashUptoRow : OpenClaim := { program := "ytipnhlnbokkihaa", sum := "ff756a893b11a80ecec8e13825db64b8c1d97eeeb4774931e3bc16059b9946e6", func := "loop.example/g00979/laws.FnExactSchedCrash", spec := "fnExactSchedCrash", apart := false, narrowed := true }
def FnExactSchedCrashUptoSaid : Prop := fnExactSchedCrashUptoRow.holds Try.pinned (OpenSpec.upto fnExactSchedCrashSpec)

/-- 'laws.FnExactSchedStep', WHERE WHAT IT READS IS OF BULK AT MOST 1048576: true; the input reads as it did. -/
def fnExactSchedStepUptoRow : OpenClaim := { program := "ytipnhlnbokkihaa", sum := "ff756a893b11a80ecec8e13825db64b8c1d97eeeb4774931e3bc16059b9946e6", func := "loop.example/g00979/laws.FnExactSchedStep", spec := "fnExactSchedStep", unfollowed := true, recurses := true, apart := false, narrowed := true }
def FnExactSchedStepUptoSaid : Prop := fnExactSchedStepUptoRow.holds Try.pinned (OpenSpec.upto fnExactSchedStepSpec)

/-- 'laws.FnExactSchedRun', WHERE WHAT IT READS IS OF BULK AT MOST 1048576: true; the input reads as it did. -/
def fnExactSchedRunUptoRow : OpenClaim := { program := "ytipnhlnbokkihaa", sum := "ff756a893b11a80ecec8e13825db64b8c1d97eeeb4774931e3bc16059b9946e6", func := "loop.example/g00979/laws.FnExactSchedRun", spec := "fnExactSchedRun", unfollowed := true, recurses := true, apart := false, narrowed := true }
def FnExactSchedRunUptoSaid : Prop := fnExactSchedRunUptoRow.holds Try.pinned (OpenSpec.upto fnExactSchedRunSpec)

end Rows
end Go.Proofs.Ytipnhlnbokkihaa
