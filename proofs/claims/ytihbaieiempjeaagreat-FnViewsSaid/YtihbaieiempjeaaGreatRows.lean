/-
  No cell of these rows narrows 'for every input' (looked for: loops, veiled, ifaces, maps, wideKeys, modest, calm, conditions, laid).
  DERIVED. THE GIVEN ROWS OF THIS SEAT. 6 by the template 'for every input the law returns true; each argument reads behind the call as it read before'; 0 by the template 'total and deterministic' (their statements: YtihbaieiempjeaaGreatTotals.lean).
  GIVEN WITH THE SEED: the statements are not yours to turn. If you find one false, say at which input.
  Laid BY PROGRAM, IN A SANDBOX (cutbox-rows.mjs): the forced cells as the released guide's own fill.sh prints them over the translation 3c2caa115a913530… (all of the seat's roots in one cut). By AI agents, Wed Nov 11 2026. No macro, syntax, notation, axiom, sorry.
-/
import Derived.Test.YtihbaieiempjeaaGreatChecked
import GoSem.Claim
import GoSem.ClaimJoined
import GoSem.ClaimMapViews
import Derived.JoinedTies
import Derived.KernelRfl
namespace Go.Proofs.YtihbaieiempjeaaGreat
/- THE CELL 'sum', in the pinned program and in every row, IS THE sha256 OF THE DUMP (.gsa) THAT YtihbaieiempjeaaGreatProg.lean LOADS. Nothing in Lean hashes anything: it is a label: what it is worth is what the hold of that sum in a sandbox is worth. -/
noncomputable def Tryz.pinned : Pinned := { name := "ytihbaieiempjeaagreat", sum := "3c2caa115a9135304b341f71c5abb2e98d19797e2c010c77c2ae4115ba3f7dfb", checked := Tryz.checked }
namespace Rows
def none {H : Type} : Left H := { results := [], args := [] }

/-- 'laws.FnTop': WHATEVER THE INPUT: true; the input reads as it did. -/
def fnTopSpec : ChangeSpec := { name := "fnTop", fn := fun _ => fun
  | [d] => { results := [.lit (.bool true)], args := [d] }
  | _ => none }
def fnTopRow : OpenClaim := { program := "ytihbaieiempjeaagreat", sum := "3c2caa115a9135304b341f71c5abb2e98d19797e2c010c77c2ae4115ba3f7dfb", func := "loop.example/g00979/laws.FnTop", spec := "fnTop", recurses := true, plainKeys := false, apart := false }
def FnTopSaid : Prop := fnTopRow.holds Tryz.pinned (OpenSpec.ofChange fnTopSpec)

/-- ITS FALSE NEIGHBOUR: 'it returns false'. Refute it at one input. -/
def fnTopWrong : ChangeSpec := { name := "fnTop", fn := fun _ => fun
  | [d] => { results := [.lit (.bool false)], args := [d] }
  | _ => none }
def FnTopWrongFalsely : Prop := fnTopRow.holds Tryz.pinned (OpenSpec.ofChange fnTopWrong)

/-- 'laws.FnEveryParty': WHATEVER THE INPUT: true; the input reads as it did. -/
def fnEveryPartySpec : ChangeSpec := { name := "fnEveryParty", fn := fun _ => fun
  | [d] => { results := [.lit (.bool true)], args := [d] }
  | _ => none }
def fnEveryPartyRow : OpenClaim := { program := "ytihbaieiempjeaagreat", sum := "3c2caa115a9135304b341f71c5abb2e98d19797e2c010c77c2ae4115ba3f7dfb", func := "loop.example/g00979/laws.FnEveryParty", spec := "fnEveryParty", recurses := true, plainKeys := false, apart := false }
def FnEveryPartySaid : Prop := fnEveryPartyRow.holds Tryz.pinned (OpenSpec.ofChange fnEveryPartySpec)

/-- ITS FALSE NEIGHBOUR: 'it returns false'. Refute it at one input. -/
def fnEveryPartyWrong : ChangeSpec := { name := "fnEveryParty", fn := fun _ => fun
  | [d] => { results := [.lit (.bool false)], args := [d] }
  | _ => none }
def FnEveryPartyWrongFalsely : Prop := fnEveryPartyRow.holds Tryz.pinned (OpenSpec.ofChange fnEveryPartyWrong)

/-- 'laws.FnViews': WHATEVER THE INPUT: true; the input reads as it did. -/
def fnViewsSpec : ChangeSpec := { name := "fnViews", fn := fun _ => fun
  | [d] => { results := [.lit (.bool true)], args := [d] }
  | _ => none }
def fnViewsRow : OpenClaim := { program := "ytihbaieiempjeaagreat", sum := "3c2caa115a9135304b341f71c5abb2e98d19797e2c010c77c2ae4115ba3f7dfb", func := "loop.example/g00979/laws.FnViews", spec := "fnViews", recurses := true, plainKeys := false, apart := false }
def FnViewsSaid : Prop := fnViewsRow.holds Tryz.pinned (OpenSpec.ofChange fnViewsSpec)

/-- ITS FALSE NEIGHBOUR: 'it returns false'. Refute it at one input. -/
def fnViewsWrong : ChangeSpec := { name := "fnViews", fn := fun _ => fun
  | [d] => { results := [.lit (.bool false)], args := [d] }
  | _ => none }
def FnViewsWrongFalsely : Prop := fnViewsRow.holds Tryz.pinned (OpenSpec.ofChange fnViewsWrong)

/-- 'laws.FnExactWireView': WHATEVER THE INPUT: true; the input reads as it did. -/
def fnExactWireViewSpec : ChangeSpec := { name := "fnExactWireView", fn := fun _ => fun
  | [d1, d2, d3] => { results := [.lit (.bool true)], args := [d1, d2, d3] }
  | _ => none }
def fnExactWireViewRow : OpenClaim := { program := "ytihbaieiempjeaagreat", sum := "3c2caa115a9135304b341f71c5abb2e98d19797e2c010c77c2ae4115ba3f7dfb", func := "loop.example/g00979/laws.FnExactWireView", spec := "fnExactWireView", recurses := true, plainKeys := false, apart := false }
def FnExactWireViewSaid : Prop := fnExactWireViewRow.holds Tryz.pinned (OpenSpec.ofChange fnExactWireViewSpec)

/-- ITS FALSE NEIGHBOUR: 'it returns false'. Refute it at one input. -/
def fnExactWireViewWrong : ChangeSpec := { name := "fnExactWireView", fn := fun _ => fun
  | [d1, d2, d3] => { results := [.lit (.bool false)], args := [d1, d2, d3] }
  | _ => none }
def FnExactWireViewWrongFalsely : Prop := fnExactWireViewRow.holds Tryz.pinned (OpenSpec.ofChange fnExactWireViewWrong)

/-- 'laws.FnExactValuesSeen': WHATEVER THE INPUT: true; the input reads as it did. -/
def fnExactValuesSeenSpec : ChangeSpec := { name := "fnExactValuesSeen", fn := fun _ => fun
  | [d1, d2, d3] => { results := [.lit (.bool true)], args := [d1, d2, d3] }
  | _ => none }
def fnExactValuesSeenRow : OpenClaim := { program := "ytihbaieiempjeaagreat", sum := "3c2caa115a9135304b341f71c5abb2e98d19797e2c010c77c2ae4115ba3f7dfb", func := "loop.example/g00979/laws.FnExactValuesSeen", spec := "fnExactValuesSeen", recurses := true, plainKeys := false, apart := false }
def FnExactValuesSeenSaid : Prop := fnExactValuesSeenRow.holds Tryz.pinned (OpenSpec.ofChange fnExactValuesSeenSpec)

/-- ITS FALSE NEIGHBOUR: 'it returns false'. Refute it at one input. -/
def fnExactValuesSeenWrong : ChangeSpec := { name := "fnExactValuesSeen", fn := fun _ => fun
  | [d1, d2, d3] => { results := [.lit (.bool false)], args := [d1, d2, d3] }
  | _ => none }
def FnExactValuesSeenWrongFalsely : Prop := fnExactValuesSeenRow.holds Tryz.pinned (OpenSpec.ofChange fnExactValuesSeenWrong)

/-- 'laws.FnExactRunSecure': WHATEVER THE INPUT: true; the input reads as it did. -/
def fnExactRunSecureSpec : ChangeSpec := { name := "fnExactRunSecure", fn := fun _ => fun
  | [d1, d2, d3, d4, d5] => { results := [.lit (.bool true)], args := [d1, d2, d3, d4, d5] }
  | _ => none }
def fnExactRunSecureRow : OpenClaim := { program := "ytihbaieiempjeaagreat", sum := "3c2caa115a9135304b341f71c5abb2e98d19797e2c010c77c2ae4115ba3f7dfb", func := "loop.example/g00979/laws.FnExactRunSecure", spec := "fnExactRunSecure", recurses := true, plainKeys := false, apart := false }
def FnExactRunSecureSaid : Prop := fnExactRunSecureRow.holds Tryz.pinned (OpenSpec.ofChange fnExactRunSecureSpec)

/-- ITS FALSE NEIGHBOUR: 'it returns false'. Refute it at one input. -/
def fnExactRunSecureWrong : ChangeSpec := { name := "fnExactRunSecure", fn := fun _ => fun
  | [d1, d2, d3, d4, d5] => { results := [.lit (.bool false)], args := [d1, d2, d3, d4, d5] }
  | _ => none }
def FnExactRunSecureWrongFalsely : Prop := fnExactRunSecureRow.holds Tryz.pinned (OpenSpec.ofChange fnExactRunSecureWrong)

/- THE SECOND FORM. 'bulk': how many values and letters a reading holds, each counted each time it is reached (what is shared counts as often as it is met; a slice's spare places count too). A statement '..UptoSaid' is the law's where the arguments, and the package variables that the reading takes, are together of bulk at most 1048576: NARROWER than '..Said'. Prove '..Said' where nothing that the law and all that it calls make is longer than what came in: it says more and counts as full. Else prove '..UptoSaid'. A law counts once. -/
mutual
def uptoBulk {H : Type} : DataW H → Nat
  | .lit (.string bytes) => bytes.length + 1
  | .lit _ => 1
  | .nil => 1
  | .ptr d => uptoBulk d + 1
  | .slice elems spare => uptoBulkAll elems + uptoBulkAll spare + 1
  | .agg parts => uptoBulkAll parts + 1
  | .iface _ d => uptoBulk d + 1
  | .map entries => uptoBulkEntries entries + 1
  | .held _ => 1
def uptoBulkAll {H : Type} : List (DataW H) → Nat
  | [] => 0
  | d :: r => uptoBulk d + uptoBulkAll r
def uptoBulkEntries {H : Type} : List (Lit × DataW H) → Nat
  | [] => 0
  | x :: r => uptoBulkEntry x + uptoBulkEntries r
def uptoBulkEntry {H : Type} : Lit × DataW H → Nat
  | (.string bytes, d) => bytes.length + uptoBulk d + 1
  | (_, d) => uptoBulk d + 1
 end
def uptoSmall : (H : Type) → List (DataW H) → Bool := fun _ ds => decide (uptoBulkAll ds ≤ 1048576)
def OpenSpec.upto (s : _root_.Go.ChangeSpec) : _root_.Go.OpenSpec := { _root_.Go.OpenSpec.ofChange s with cond := some uptoSmall }

/-- 'laws.FnTop', WHERE WHAT IT READS IS OF BULK AT MOST 1048576: true; the input reads as it did. -/
def fnTopUptoRow : OpenClaim := { program := "ytihbaieiempjeaagreat", sum := "3c2caa115a9135304b341f71c5abb2e98d19797e2c010c77c2ae4115ba3f7dfb", func := "loop.example/g00979/laws.FnTop", spec := "fnTop", recurses := true, plainKeys := false, apart := false, narrowed := true }
def FnTopUptoSaid : Prop := fnTopUptoRow.holds Tryz.pinned (OpenSpec.upto fnTopSpec)

/-- 'laws.FnEveryParty', WHERE WHAT IT READS IS OF BULK AT MOST 1048576: true; the input reads as it did. -/
def fnEveryPartyUptoRow : OpenClaim := { program := "ytihbaieiempjeaagreat", sum := "3c2caa115a9135304b341f71c5abb2e98d19797e2c010c77c2ae4115ba3f7dfb", func := "loop.example/g00979/laws.FnEveryParty", spec := "fnEveryParty", recurses := true, plainKeys := false, apart := false, narrowed := true }
def FnEveryPartyUptoSaid : Prop := fnEveryPartyUptoRow.holds Tryz.pinned (OpenSpec.upto fnEveryPartySpec)

/-- 'laws.FnViews', WHERE WHAT IT READS IS OF BULK AT MOST 1048576: true; the input reads as it did. -/
def fnViewsUptoRow : OpenClaim := { program := "ytihbaieiempjeaagreat", sum := "3c2caa115a9135304b341f71c5abb2e98d19797e2c010c77c2ae4115ba3f7dfb", func := "loop.example/g00979/laws.FnViews", spec := "fnViews", recurses := true, plainKeys := false, apart := false, narrowed := true }
def FnViewsUptoSaid : Prop := fnViewsUptoRow.holds Tryz.pinned (OpenSpec.upto fnViewsSpec)

/-- 'laws.FnExactWireView', WHERE WHAT IT READS IS OF BULK AT MOST 1048576: true; the input reads as it did. -/
def fnExactWireViewUptoRow : OpenClaim := { program := "ytihbaieiempjeaagreat", sum := "3c2caa115a9135304b341f71c5abb2e98d19797e2c010c77c2ae4115ba3f7dfb", func := "loop.example/g00979/laws.FnExactWireView", spec := "fnExactWireView", recurses := true, plainKeys := false, apart := false, narrowed := true }
def FnExactWireViewUptoSaid : Prop := fnExactWireViewUptoRow.holds Tryz.pinned (OpenSpec.upto fnExactWireViewSpec)

/-- 'laws.FnExactValuesSeen', WHERE WHAT IT READS IS OF BULK AT MOST 1048576: true; the input reads as it did. -/
def fnExactValuesSeenUptoRow : OpenClaim := { program := "ytihbaieiempjeaagreat", sum := "3c2caa115a9135304b341f71c5abb2e98d19797e2c010c77c2ae4115ba3f7dfb", func := "loop.example/g00979/laws.FnExactValuesSeen", spec := "fnExactValuesSeen", recurses := true, plainKeys := false, apart := false, narrowed := true }
def FnExactValuesSeenUptoSaid : Prop := fnExactValuesSeenUptoRow.holds Tryz.pinned (OpenSpec.upto fnExactValuesSeenSpec)

/-- 'laws.FnExactRunSecure', WHERE WHAT IT READS IS OF BULK AT MOST 1048576: true; the input reads as it did. -/
def fnExactRunSecureUptoRow : OpenClaim := { program := "ytihbaieiempjeaagreat", sum := "3c2caa115a9135304b341f71c5abb2e98d19797e2c010c77c2ae4115ba3f7dfb", func := "loop.example/g00979/laws.FnExactRunSecure", spec := "fnExactRunSecure", recurses := true, plainKeys := false, apart := false, narrowed := true }
def FnExactRunSecureUptoSaid : Prop := fnExactRunSecureUptoRow.holds Tryz.pinned (OpenSpec.upto fnExactRunSecureSpec)

end Rows
end Go.Proofs.YtihbaieiempjeaaGreat
