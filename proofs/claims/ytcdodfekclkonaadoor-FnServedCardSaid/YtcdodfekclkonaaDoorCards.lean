/-
  DERIVED. GIVEN WITH THE SEED: THE CARDS: each row of YtcdodfekclkonaaDoorRows.lean that lists a variable, with what it lists TIED to the program's text (the seventh form; the later family's looks); each row that meets fmt, with fmt's text TOLD by the authors' own Lean function (tested against real Go, not proved from fmt's source: count such statements apart). THE CARD IS WHAT COUNTS. Prove the row's statement (the work); the ties are given (YtcdodfekclkonaaDoorTie.lean); close each card by the builder's one call (the guide's Derived/Test/ToyasCard.lean, 'card_holds'). Laid BY PROGRAM, IN A SANDBOX (cutbox-door.mjs). By AI agents, Wed Nov 11 2026. No macro, syntax, notation, axiom, sorry.
-/
import Derived.Test.YtcdodfekclkonaaDoorRows
import GoSem.ClaimSeven
namespace Go.Proofs.YtcdodfekclkonaaDoor
namespace Rows

/-- THE TIED CARD OF 'laws.FnServed'. -/
def fnServedCard : Claim7 := { stood := { row := fnServedRow, standIns := [], harness := (true, "598e73059b04477332cfbee7312666a2e6947e3b9983b4ff8397775ac40a5a66"), looks := false }, kinds := [], alts := [], laidByText := true, laidKinds := [.data, .data, .data], laidTests := true, laidLooks := .later }
def FnServedCardSaid : Prop := Claim7.holds Tryd.pinned (.plain (OpenSpec.ofChange fnServedSpec)) fnServedCard

/-- THE SECOND FORM's CARD OF 'laws.FnServed'. -/
def fnServedUptoCard : Claim7 := { stood := { row := fnServedUptoRow, standIns := [], harness := (true, "598e73059b04477332cfbee7312666a2e6947e3b9983b4ff8397775ac40a5a66"), looks := false }, kinds := [], alts := [], laidByText := true, laidKinds := [.data, .data, .data], laidTests := true, laidLooks := .later }
def FnServedUptoCardSaid : Prop := Claim7.holds Tryd.pinned (.plain (OpenSpec.upto fnServedSpec)) fnServedUptoCard
end Rows
end Go.Proofs.YtcdodfekclkonaaDoor
