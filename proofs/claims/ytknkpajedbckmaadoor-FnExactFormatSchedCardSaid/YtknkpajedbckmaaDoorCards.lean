/-
  DERIVED. GIVEN WITH THE SEED: THE CARDS: each row of YtknkpajedbckmaaDoorRows.lean that lists a variable, with what it lists TIED to the program's text (the seventh form; the later family's looks); each row that meets fmt, with fmt's text TOLD by the authors' own Lean function (tested against real Go, not proved from fmt's source: count such statements apart). THE CARD IS WHAT COUNTS. Prove the row's statement (the work); the ties are given (YtknkpajedbckmaaDoorTie.lean); close each card by the builder's one call (the guide's Derived/Test/ToyasCard.lean, 'card_holds'). Laid BY PROGRAM, IN A SANDBOX (cutbox-door.mjs). By AI agents, Wed Nov 11 2026. No macro, syntax, notation, axiom, sorry.
-/
import Derived.Test.YtknkpajedbckmaaDoorRows
import GoSem.ClaimSeven
namespace Go.Proofs.YtknkpajedbckmaaDoor
namespace Rows

/-- THE TIED CARD OF 'laws.FnExactFormatAct'. -/
def fnExactFormatActCard : Claim7 := { stood := { row := fnExactFormatActRow, standIns := [], harness := (true, "be4a67e78bc28a5955648b954f83c58ea0d93402326cc9297f7900ee9efea55f"), looks := false }, kinds := [], alts := [], laidByText := true, laidKinds := [.data, .data, .data], laidTests := true, laidLooks := .later }
def FnExactFormatActCardSaid : Prop := Claim7.holds Tryd.pinned (.plain (OpenSpec.ofChange fnExactFormatActSpec)) fnExactFormatActCard

/-- THE TIED CARD OF 'laws.FnExactFormatSched'. -/
def fnExactFormatSchedCard : Claim7 := { stood := { row := fnExactFormatSchedRow, standIns := [], harness := (true, "be4a67e78bc28a5955648b954f83c58ea0d93402326cc9297f7900ee9efea55f"), looks := false }, kinds := [], alts := [], laidByText := true, laidKinds := [.data, .data, .data], laidTests := true, laidLooks := .later }
def FnExactFormatSchedCardSaid : Prop := Claim7.holds Tryd.pinned (.plain (OpenSpec.ofChange fnExactFormatSchedSpec)) fnExactFormatSchedCard

/-- THE SECOND FORM's CARD OF 'laws.FnExactFormatAct'. -/
def fnExactFormatActUptoCard : Claim7 := { stood := { row := fnExactFormatActUptoRow, standIns := [], harness := (true, "be4a67e78bc28a5955648b954f83c58ea0d93402326cc9297f7900ee9efea55f"), looks := false }, kinds := [], alts := [], laidByText := true, laidKinds := [.data, .data, .data], laidTests := true, laidLooks := .later }
def FnExactFormatActUptoCardSaid : Prop := Claim7.holds Tryd.pinned (.plain (OpenSpec.upto fnExactFormatActSpec)) fnExactFormatActUptoCard

/-- THE SECOND FORM's CARD OF 'laws.FnExactFormatSched'. -/
def fnExactFormatSchedUptoCard : Claim7 := { stood := { row := fnExactFormatSchedUptoRow, standIns := [], harness := (true, "be4a67e78bc28a5955648b954f83c58ea0d93402326cc9297f7900ee9efea55f"), looks := false }, kinds := [], alts := [], laidByText := true, laidKinds := [.data, .data, .data], laidTests := true, laidLooks := .later }
def FnExactFormatSchedUptoCardSaid : Prop := Claim7.holds Tryd.pinned (.plain (OpenSpec.upto fnExactFormatSchedSpec)) fnExactFormatSchedUptoCard
end Rows
end Go.Proofs.YtknkpajedbckmaaDoor
