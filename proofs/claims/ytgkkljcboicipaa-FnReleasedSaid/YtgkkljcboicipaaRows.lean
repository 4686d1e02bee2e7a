/-
  No cell of these rows narrows 'for every input' (looked for: loops, veiled, ifaces, maps, wideKeys, modest, calm, conditions, laid).
  DERIVED. THE GIVEN ROWS OF THIS SEAT. 8 by the template 'for every input the law returns true; each argument reads behind the call as it read before'; 0 by the template 'total and deterministic' (their statements: YtgkkljcboicipaaTotals.lean).
  GIVEN WITH THE SEED: the statements are not yours to turn. If you find one false, say at which input.
  Laid BY PROGRAM, IN A SANDBOX (cutbox-rows.mjs): the forced cells as the released guide's own fill.sh prints them over the translation 5fda81c04e5ce4b9… (all of the seat's roots in one cut). By AI agents, Wed Nov 11 2026. No macro, syntax, notation, axiom, sorry.
-/
import Derived.Test.YtgkkljcboicipaaChecked
import GoSem.Claim
import GoSem.ClaimJoined
import GoSem.ClaimMapViews
import Derived.JoinedTies
import Derived.KernelRfl
namespace Go.Proofs.Ytgkkljcboicipaa
/- THE CELL 'sum', in the pinned program and in every row, IS THE sha256 OF THE DUMP (.gsa) THAT YtgkkljcboicipaaProg.lean LOADS. Nothing in Lean hashes anything: it is a label: what it is worth is what the hold of that sum in a sandbox is worth. -/
noncomputable def Try.pinned : Pinned := { name := "ytgkkljcboicipaa", sum := "5fda81c04e5ce4b94bae54e0187b66d353c6b5837166b019c7b988c2a58951e6", checked := Try.checked }
namespace Rows
def none {H : Type} : Left H := { results := [], args := [] }

/-- 'laws.FnExactExpectedMsg': WHATEVER THE INPUT: true; the input reads as it did. -/
def fnExactExpectedMsgSpec : ChangeSpec := { name := "fnExactExpectedMsg", fn := fun _ => fun
  | [d1, d2, d3, d4] => { results := [.lit (.bool true)], args := [d1, d2, d3, d4] }
  | _ => none }
def fnExactExpectedMsgRow : OpenClaim := { program := "ytgkkljcboicipaa", sum := "5fda81c04e5ce4b94bae54e0187b66d353c6b5837166b019c7b988c2a58951e6", func := "loop.example/g00979/laws.FnExactExpectedMsg", spec := "fnExactExpectedMsg", apart := false }
def FnExactExpectedMsgSaid : Prop := fnExactExpectedMsgRow.holds Try.pinned (OpenSpec.ofChange fnExactExpectedMsgSpec)

/-- ITS FALSE NEIGHBOUR: 'it returns false'. Refute it at one input. -/
def fnExactExpectedMsgWrong : ChangeSpec := { name := "fnExactExpectedMsg", fn := fun _ => fun
  | [d1, d2, d3, d4] => { results := [.lit (.bool false)], args := [d1, d2, d3, d4] }
  | _ => none }
def FnExactExpectedMsgWrongFalsely : Prop := fnExactExpectedMsgRow.holds Try.pinned (OpenSpec.ofChange fnExactExpectedMsgWrong)

/-- 'laws.FnBlamed': WHATEVER THE INPUT: true; the input reads as it did. -/
def fnBlamedSpec : ChangeSpec := { name := "fnBlamed", fn := fun _ => fun
  | [d] => { results := [.lit (.bool true)], args := [d] }
  | _ => none }
def fnBlamedRow : OpenClaim := { program := "ytgkkljcboicipaa", sum := "5fda81c04e5ce4b94bae54e0187b66d353c6b5837166b019c7b988c2a58951e6", func := "loop.example/g00979/laws.FnBlamed", spec := "fnBlamed", apart := false }
def FnBlamedSaid : Prop := fnBlamedRow.holds Try.pinned (OpenSpec.ofChange fnBlamedSpec)

/-- ITS FALSE NEIGHBOUR: 'it returns false'. Refute it at one input. -/
def fnBlamedWrong : ChangeSpec := { name := "fnBlamed", fn := fun _ => fun
  | [d] => { results := [.lit (.bool false)], args := [d] }
  | _ => none }
def FnBlamedWrongFalsely : Prop := fnBlamedRow.holds Try.pinned (OpenSpec.ofChange fnBlamedWrong)

/-- 'laws.FnExtraMessage': WHATEVER THE INPUT: true; the input reads as it did. -/
def fnExtraMessageSpec : ChangeSpec := { name := "fnExtraMessage", fn := fun _ => fun
  | [d] => { results := [.lit (.bool true)], args := [d] }
  | _ => none }
def fnExtraMessageRow : OpenClaim := { program := "ytgkkljcboicipaa", sum := "5fda81c04e5ce4b94bae54e0187b66d353c6b5837166b019c7b988c2a58951e6", func := "loop.example/g00979/laws.FnExtraMessage", spec := "fnExtraMessage", apart := false }
def FnExtraMessageSaid : Prop := fnExtraMessageRow.holds Try.pinned (OpenSpec.ofChange fnExtraMessageSpec)

/-- ITS FALSE NEIGHBOUR: 'it returns false'. Refute it at one input. -/
def fnExtraMessageWrong : ChangeSpec := { name := "fnExtraMessage", fn := fun _ => fun
  | [d] => { results := [.lit (.bool false)], args := [d] }
  | _ => none }
def FnExtraMessageWrongFalsely : Prop := fnExtraMessageRow.holds Try.pinned (OpenSpec.ofChange fnExtraMessageWrong)

/-- 'laws.FnExactCoinsOf': WHATEVER THE INPUT: true; the input reads as it did. -/
def fnExactCoinsOfSpec : ChangeSpec := { name := "fnExactCoinsOf", fn := fun _ => fun
  | [d1, d2, d3] => { results := [.lit (.bool true)], args := [d1, d2, d3] }
  | _ => none }
def fnExactCoinsOfRow : OpenClaim := { program := "ytgkkljcboicipaa", sum := "5fda81c04e5ce4b94bae54e0187b66d353c6b5837166b019c7b988c2a58951e6", func := "loop.example/g00979/laws.FnExactCoinsOf", spec := "fnExactCoinsOf", apart := false }
def FnExactCoinsOfSaid : Prop := fnExactCoinsOfRow.holds Try.pinned (OpenSpec.ofChange fnExactCoinsOfSpec)

/-- ITS FALSE NEIGHBOUR: 'it returns false'. Refute it at one input. -/
def fnExactCoinsOfWrong : ChangeSpec := { name := "fnExactCoinsOf", fn := fun _ => fun
  | [d1, d2, d3] => { results := [.lit (.bool false)], args := [d1, d2, d3] }
  | _ => none }
def FnExactCoinsOfWrongFalsely : Prop := fnExactCoinsOfRow.holds Try.pinned (OpenSpec.ofChange fnExactCoinsOfWrong)

/-- 'laws.FnExactHonestRun': WHATEVER THE INPUT: true; the input reads as it did. -/
def fnExactHonestRunSpec : ChangeSpec := { name := "fnExactHonestRun", fn := fun _ => fun
  | [d1, d2, d3] => { results := [.lit (.bool true)], args := [d1, d2, d3] }
  | _ => none }
def fnExactHonestRunRow : OpenClaim := { program := "ytgkkljcboicipaa", sum := "5fda81c04e5ce4b94bae54e0187b66d353c6b5837166b019c7b988c2a58951e6", func := "loop.example/g00979/laws.FnExactHonestRun", spec := "fnExactHonestRun", apart := false }
def FnExactHonestRunSaid : Prop := fnExactHonestRunRow.holds Try.pinned (OpenSpec.ofChange fnExactHonestRunSpec)

/-- ITS FALSE NEIGHBOUR: 'it returns false'. Refute it at one input. -/
def fnExactHonestRunWrong : ChangeSpec := { name := "fnExactHonestRun", fn := fun _ => fun
  | [d1, d2, d3] => { results := [.lit (.bool false)], args := [d1, d2, d3] }
  | _ => none }
def FnExactHonestRunWrongFalsely : Prop := fnExactHonestRunRow.holds Try.pinned (OpenSpec.ofChange fnExactHonestRunWrong)

/-- 'laws.FnExactBlame': WHATEVER THE INPUT: true; the input reads as it did. -/
def fnExactBlameSpec : ChangeSpec := { name := "fnExactBlame", fn := fun _ => fun
  | [d1, d2, d3, d4] => { results := [.lit (.bool true)], args := [d1, d2, d3, d4] }
  | _ => none }
def fnExactBlameRow : OpenClaim := { program := "ytgkkljcboicipaa", sum := "5fda81c04e5ce4b94bae54e0187b66d353c6b5837166b019c7b988c2a58951e6", func := "loop.example/g00979/laws.FnExactBlame", spec := "fnExactBlame", apart := false }
def FnExactBlameSaid : Prop := fnExactBlameRow.holds Try.pinned (OpenSpec.ofChange fnExactBlameSpec)

/-- ITS FALSE NEIGHBOUR: 'it returns false'. Refute it at one input. -/
def fnExactBlameWrong : ChangeSpec := { name := "fnExactBlame", fn := fun _ => fun
  | [d1, d2, d3, d4] => { results := [.lit (.bool false)], args := [d1, d2, d3, d4] }
  | _ => none }
def FnExactBlameWrongFalsely : Prop := fnExactBlameRow.holds Try.pinned (OpenSpec.ofChange fnExactBlameWrong)

/-- 'laws.FnReleased': WHATEVER THE INPUT: true; the input reads as it did. -/
def fnReleasedSpec : ChangeSpec := { name := "fnReleased", fn := fun _ => fun
  | [d] => { results := [.lit (.bool true)], args := [d] }
  | _ => none }
def fnReleasedRow : OpenClaim := { program := "ytgkkljcboicipaa", sum := "5fda81c04e5ce4b94bae54e0187b66d353c6b5837166b019c7b988c2a58951e6", func := "loop.example/g00979/laws.FnReleased", spec := "fnReleased", apart := false }
def FnReleasedSaid : Prop := fnReleasedRow.holds Try.pinned (OpenSpec.ofChange fnReleasedSpec)

/-- ITS FALSE NEIGHBOUR: 'it returns false'. Refute it at one input. -/
def fnReleasedWrong : ChangeSpec := { name := "fnReleased", fn := fun _ => fun
  | [d] => { results := [.lit (.bool false)], args := [d] }
  | _ => none }
def FnReleasedWrongFalsely : Prop := fnReleasedRow.holds Try.pinned (OpenSpec.ofChange fnReleasedWrong)

/-- 'laws.FnExactReleased': WHATEVER THE INPUT: true; the input reads as it did. -/
def fnExactReleasedSpec : ChangeSpec := { name := "fnExactReleased", fn := fun _ => fun
  | [d1, d2, d3, d4] => { results := [.lit (.bool true)], args := [d1, d2, d3, d4] }
  | _ => none }
def fnExactReleasedRow : OpenClaim := { program := "ytgkkljcboicipaa", sum := "5fda81c04e5ce4b94bae54e0187b66d353c6b5837166b019c7b988c2a58951e6", func := "loop.example/g00979/laws.FnExactReleased", spec := "fnExactReleased", apart := false }
def FnExactReleasedSaid : Prop := fnExactReleasedRow.holds Try.pinned (OpenSpec.ofChange fnExactReleasedSpec)

/-- ITS FALSE NEIGHBOUR: 'it returns false'. Refute it at one input. -/
def fnExactReleasedWrong : ChangeSpec := { name := "fnExactReleased", fn := fun _ => fun
  | [d1, d2, d3, d4] => { results := [.lit (.bool false)], args := [d1, d2, d3, d4] }
  | _ => none }
def FnExactReleasedWrongFalsely : Prop := fnExactReleasedRow.holds Try.pinned (OpenSpec.ofChange fnExactReleasedWrong)

/- THE SECOND FORM. 'bulk': how many values and letters a reading holds, each counted each time it is reached (what is shared counts as often as it is met; a slice's spare places count too). A statement '..UptoSaid' is the law's where the arguments, and the package variables that the reading takes, are together of bulk at most 1048576: NARROWER than '..Said'. Prove '..Said' where nothing that the law and all that it calls make is longer than what came in: it says more and counts as full. Else prove '..UptoSaid'. A law counts once. -/
mutual
def uptoBulk {H : Type} : DataW H → Nat
  | .lit (.string bytes) => bytes.length + 1
  | .lit _ => 1
  | .nil => 1
  | .ptr d => uptoBulk d + 1
  | .slice elems spare => uptoBulkAll elems + uptoBulkAll spare + 1
  | .agg parts => uptoBulkAll parts + 1
  | .iface _ d => uptoBulk d + 1
  | .map entries => uptoBulkEntries entries + 1
  | .held _ => 1
def uptoBulkAll {H : Type} : List (DataW H) → Nat
  | [] => 0
  | d :: r => uptoBulk d + uptoBulkAll r
def uptoBulkEntries {H : Type} : List (Lit × DataW H) → Nat
  | [] => 0
  | x :: r => uptoBulkEntry x + uptoBulkEntries r
def uptoBulkEntry {H : Type} : Lit × DataW H → Nat
  | (.string bytes, d) => bytes.length + uptoBulk d + 1
  | (_, d) => uptoBulk d + 1
 end
def uptoSmall : (H : Type) → List (DataW H) → Bool := fun _ ds => decide (uptoBulkAll ds ≤ 1048576)
def OpenSpec.upto (s : _root_.Go.ChangeSpec) : _root_.Go.OpenSpec := { _root_.Go.OpenSpec.ofChange s with cond := some uptoSmall }

/-- 'laws.FnExactExpectedMsg', WHERE WHAT IT READS IS OF BULK AT MOST 1048576: true; the input reads as it did. -/
def fnExactExpectedMsgUptoRow : OpenClaim := { program := "ytgkkljcboicipaa", sum := "5fda81c04e5ce4b94bae54e0187b66d353c6b5837166b019c7b988c2a58951e6", func := "loop.example/g00979/laws.FnExactExpectedMsg", spec := "fnExactExpectedMsg", apart := false, narrowed := true }
def FnExactExpectedMsgUptoSaid : Prop := fnExactExpectedMsgUptoRow.holds Try.pinned (OpenSpec.upto fnExactExpectedMsgSpec)

/-- 'laws.FnBlamed', WHERE WHAT IT READS IS OF BULK AT MOST 1048576: true; the input reads as it did. -/
def fnBlamedUptoRow : OpenClaim := { program := "ytgkkljcboicipaa", sum := "5fda81c04e5ce4b94bae54e0187b66d353c6b5837166b019c7b988c2a58951e6", func := "loop.example/g00979/laws.FnBlamed", spec := "fnBlamed", apart := false, narrowed := true }
def FnBlamedUptoSaid : Prop := fnBlamedUptoRow.holds Try.pinned (OpenSpec.upto fnBlamedSpec)

/-- 'laws.FnExtraMessage', WHERE WHAT IT READS IS OF BULK AT MOST 1048576: true; the input reads as it did. -/
def fnExtraMessageUptoRow : OpenClaim := { program := "ytgkkljcboicipaa", sum := "5fda81c04e5ce4b94bae54e0187b66d353c6b5837166b019c7b988c2a58951e6", func := "loop.example/g00979/laws.FnExtraMessage", spec := "fnExtraMessage", apart := false, narrowed := true }
def FnExtraMessageUptoSaid : Prop := fnExtraMessageUptoRow.holds Try.pinned (OpenSpec.upto fnExtraMessageSpec)

/-- 'laws.FnExactCoinsOf', WHERE WHAT IT READS IS OF BULK AT MOST 1048576: true; the input reads as it did. -/
def fnExactCoinsOfUptoRow : OpenClaim := { program := "ytgkkljcboicipaa", sum := "5fda81c04e5ce4b94bae54e0187b66d353c6b5837166b019c7b988c2a58951e6", func := "loop.example/g00979/laws.FnExactCoinsOf", spec := "fnExactCoinsOf", apart := false, narrowed := true }
def FnExactCoinsOfUptoSaid : Prop := fnExactCoinsOfUptoRow.holds Try.pinned (OpenSpec.upto fnExactCoinsOfSpec)

/-- 'laws.FnExactHonestRun', WHERE WHAT IT READS IS OF BULK AT MOST 1048576: true; the input reads as it did. -/
def fnExactHonestRunUptoRow : OpenClaim := { program := "ytgkkljcboicipaa", sum := "5fda81c04e5ce4b94bae54e0187b66d353c6b5837166b019c7b988c2a58951e6", func := "loop.example/g00979/laws.FnExactHonestRun", spec := "fnExactHonestRun", apart := false, narrowed := true }
def FnExactHonestRunUptoSaid : Prop := fnExactHonestRunUptoRow.holds Try.pinned (OpenSpec.upto fnExactHonestRunSpec)

/-- 'laws.FnExactBlame', WHERE WHAT IT READS IS OF BULK AT MOST 1048576: true; the input reads as it did. -/
def fnExactBlameUptoRow : OpenClaim := { program := "ytgkkljcboicipaa", sum := "5fda81c04e5ce4b94bae54e0187b66d353c6b5837166b019c7b988c2a58951e6", func := "loop.example/g00979/laws.FnExactBlame", spec := "fnExactBlame", apart := false, narrowed := true }
def FnExactBlameUptoSaid : Prop := fnExactBlameUptoRow.holds Try.pinned (OpenSpec.upto fnExactBlameSpec)

/-- 'laws.FnReleased', WHERE WHAT IT READS IS OF BULK AT MOST 1048576: true; the input reads as it did. -/
def fnReleasedUptoRow : OpenClaim := { program := "ytgkkljcboicipaa", sum := "5fda81c04e5ce4b94bae54e0187b66d353c6b5837166b019c7b988c2a58951e6", func := "loop.example/g00979/laws.FnReleased", spec := "fnReleased", apart := false, narrowed := true }
def FnReleasedUptoSaid : Prop := fnReleasedUptoRow.holds Try.pinned (OpenSpec.upto fnReleasedSpec)

/-- 'laws.FnExactReleased', WHERE WHAT IT READS IS OF BULK AT MOST 1048576: true; the input reads as it did. -/
def fnExactReleasedUptoRow : OpenClaim := { program := "ytgkkljcboicipaa", sum := "5fda81c04e5ce4b94bae54e0187b66d353c6b5837166b019c7b988c2a58951e6", func := "loop.example/g00979/laws.FnExactReleased", spec := "fnExactReleased", apart := false, narrowed := true }
def FnExactReleasedUptoSaid : Prop := fnExactReleasedUptoRow.holds Try.pinned (OpenSpec.upto fnExactReleasedSpec)

end Rows
end Go.Proofs.Ytgkkljcboicipaa
