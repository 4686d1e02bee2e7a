/-
  No cell of these rows narrows 'for every input' (looked for: loops, veiled, ifaces, maps, wideKeys, modest, calm, conditions, laid).
  DERIVED. THE GIVEN ROWS OF THIS SEAT. 2 by the template 'for every input the law returns true; each argument reads behind the call as it read before'; 0 by the template 'total and deterministic' (their statements: YtonanjcojfjbdaaTotals.lean).
  GIVEN WITH THE SEED: the statements are not yours to turn. If you find one false, say at which input.
  Laid BY PROGRAM, IN A SANDBOX (cutbox-rows.mjs): the forced cells as the released guide's own fill.sh prints them over the translation 4bef1540963277b5… (all of the seat's roots in one cut). By AI agents, Wed Nov 11 2026. No macro, syntax, notation, axiom, sorry.
-/
import Derived.Test.YtonanjcojfjbdaaChecked
import GoSem.Claim
import GoSem.ClaimJoined
import GoSem.ClaimMapViews
import Derived.JoinedTies
import Derived.KernelRfl
namespace Go.Proofs.Ytonanjcojfjbdaa
/- THE CELL 'sum', in the pinned program and in every row, IS THE sha256 OF THE DUMP (.gsa) THAT YtonanjcojfjbdaaProg.lean LOADS. Nothing in Lean hashes anything: it is a label: what it is worth is what the hold of that sum in a sandbox is worth. -/
noncomputable def Try.pinned : Pinned := { name := "ytonanjcojfjbdaa", sum := "4bef1540963277b53003c81ab370254fc8d5cdb9374a3010ef5fc4d85841ea03", checked := Try.checked }
namespace Rows
def none {H : Type} : Left H := { results := [], args := [] }

/-- 'laws.FnExactLabelsByTransfer': WHATEVER THE INPUT: true; the input reads as it did. -/
def fnExactLabelsByTransferSpec : ChangeSpec := { name := "fnExactLabelsByTransfer", fn := fun _ => fun
  | [d1, d2, d3, d4] => { results := [.lit (.bool true)], args := [d1, d2, d3, d4] }
  | _ => none }
def fnExactLabelsByTransferRow : OpenClaim := { program := "ytonanjcojfjbdaa", sum := "4bef1540963277b53003c81ab370254fc8d5cdb9374a3010ef5fc4d85841ea03", func := "loop.example/g00979/laws.FnExactLabelsByTransfer", spec := "fnExactLabelsByTransfer", apart := false }
def FnExactLabelsByTransferSaid : Prop := fnExactLabelsByTransferRow.holds Try.pinned (OpenSpec.ofChange fnExactLabelsByTransferSpec)

/-- ITS FALSE NEIGHBOUR: 'it returns false'. Refute it at one input. -/
def fnExactLabelsByTransferWrong : ChangeSpec := { name := "fnExactLabelsByTransfer", fn := fun _ => fun
  | [d1, d2, d3, d4] => { results := [.lit (.bool false)], args := [d1, d2, d3, d4] }
  | _ => none }
def FnExactLabelsByTransferWrongFalsely : Prop := fnExactLabelsByTransferRow.holds Try.pinned (OpenSpec.ofChange fnExactLabelsByTransferWrong)

/-- 'laws.FnByTransfer': WHATEVER THE INPUT: true; the input reads as it did. -/
def fnByTransferSpec : ChangeSpec := { name := "fnByTransfer", fn := fun _ => fun
  | [d] => { results := [.lit (.bool true)], args := [d] }
  | _ => none }
def fnByTransferRow : OpenClaim := { program := "ytonanjcojfjbdaa", sum := "4bef1540963277b53003c81ab370254fc8d5cdb9374a3010ef5fc4d85841ea03", func := "loop.example/g00979/laws.FnByTransfer", spec := "fnByTransfer", apart := false }
def FnByTransferSaid : Prop := fnByTransferRow.holds Try.pinned (OpenSpec.ofChange fnByTransferSpec)

/-- ITS FALSE NEIGHBOUR: 'it returns false'. Refute it at one input. -/
def fnByTransferWrong : ChangeSpec := { name := "fnByTransfer", fn := fun _ => fun
  | [d] => { results := [.lit (.bool false)], args := [d] }
  | _ => none }
def FnByTransferWrongFalsely : Prop := fnByTransferRow.holds Try.pinned (OpenSpec.ofChange fnByTransferWrong)

/- THE SECOND FORM. 'bulk': how many values and letters a reading holds, each counted each time it is reached (what is shared counts as often as it is met; a slice's spare places count too). A statement '..UptoSaid' is the law's where the arguments, and the package variables that the reading takes, are together of bulk at most 1048576: NARROWER than '..Said'. Prove '..Said' where nothing that the law and all that it calls make is longer than what came in: it says more and counts as full. Else prove '..UptoSaid'. A law counts once. -/
mutual
def uptoBulk {H : Type} : DataW H → Nat
  | .lit (.string bytes) => bytes.length + 1
  | .lit _ => 1
  | .nil => 1
  | .ptr d => uptoBulk d + 1
  | .slice elems spare => uptoBulkAll elems + uptoBulkAll spare + 1
  | .agg parts => uptoBulkAll parts + 1
  | .iface _ d => uptoBulk d + 1
  | .map entries => uptoBulkEntries entries + 1
  | .held _ => 1
def uptoBulkAll {H : Type} : List (DataW H) → Nat
  | [] => 0
  | d :: r => uptoBulk d + uptoBulkAll r
def uptoBulkEntries {H : Type} : List (Lit × DataW H) → Nat
  | [] => 0
  | x :: r => uptoBulkEntry x + uptoBulkEntries r
def uptoBulkEntry {H : Type} : Lit × DataW H → Nat
  | (.string bytes, d) => bytes.length + uptoBulk d + 1
  | (_, d) => uptoBulk d + 1
 end
def uptoSmall : (H : Type) → List (DataW H) → Bool := fun _ ds => decide (uptoBulkAll ds ≤ 1048576)
def OpenSpec.upto (s : _root_.Go.ChangeSpec) : _root_.Go.OpenSpec := { _root_.Go.OpenSpec.ofChange s with cond := some uptoSmall }

/-- 'laws.FnExactLabelsByTransfer', WHERE WHAT IT READS IS OF BULK AT MOST 1048576: true; the input reads as it did. -/
def fnExactLabelsByTransferUptoRow : OpenClaim := { program := "ytonanjcojfjbdaa", sum := "4bef1540963277b53003c81ab370254fc8d5cdb9374a3010ef5fc4d85841ea03", func := "loop.example/g00979/laws.FnExactLabelsByTransfer", spec := "fnExactLabelsByTransfer", apart := false, narrowed := true }
def FnExactLabelsByTransferUptoSaid : Prop := fnExactLabelsByTransferUptoRow.holds Try.pinned (OpenSpec.upto fnExactLabelsByTransferSpec)

/-- 'laws.FnByTransfer', WHERE WHAT IT READS IS OF BULK AT MOST 1048576: true; the input reads as it did. -/
def fnByTransferUptoRow : OpenClaim := { program := "ytonanjcojfjbdaa", sum := "4bef1540963277b53003c81ab370254fc8d5cdb9374a3010ef5fc4d85841ea03", func := "loop.example/g00979/laws.FnByTransfer", spec := "fnByTransfer", apart := false, narrowed := true }
def FnByTransferUptoSaid : Prop := fnByTransferUptoRow.holds Try.pinned (OpenSpec.upto fnByTransferSpec)

end Rows
end Go.Proofs.Ytonanjcojfjbdaa
