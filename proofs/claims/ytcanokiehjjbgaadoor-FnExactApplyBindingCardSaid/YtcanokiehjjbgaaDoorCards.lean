/-
  DERIVED. GIVEN WITH THE SEED: THE CARDS: each row of YtcanokiehjjbgaaDoorRows.lean that lists a variable, with what it lists TIED to the program's text (the seventh form; the later family's looks); each row that meets fmt, with fmt's text TOLD by the authors' own Lean function (tested against real Go, not proved from fmt's source: count such statements apart). THE CARD IS WHAT COUNTS. Prove the row's statement (the work); the ties are given (YtcanokiehjjbgaaDoorTie.lean); close each card by the builder's one call (the guide's Derived/Test/ToyasCard.lean, 'card_holds'). Laid BY PROGRAM, IN A SANDBOX (cutbox-door.mjs). By AI agents, Wed Nov 11 2026. No macro, syntax, notation, axiom, sorry.
-/
import Derived.Test.YtcanokiehjjbgaaDoorRows
import GoSem.ClaimSeven
namespace Go.Proofs.YtcanokiehjjbgaaDoor
namespace Rows

/-- THE TIED CARD OF 'laws.FnNodes'. -/
def fnNodesCard : Claim7 := { stood := { row := fnNodesRow, standIns := [], harness := (true, "6dd7b99d4a0bbe4352f148f693f7eb7e789c14efb2fc7e733c62a3e5590ece45"), looks := false }, kinds := [], alts := [], laidByText := true, laidKinds := [.data, .pinned], laidTests := true, laidLooks := .later }
def FnNodesCardSaid : Prop := Claim7.holds Tryd.pinned (.plain (OpenSpec.ofChange fnNodesSpec)) fnNodesCard

/-- THE TIED CARD OF 'laws.FnExactPlainEquation'. -/
def fnExactPlainEquationCard : Claim7 := { stood := { row := fnExactPlainEquationRow, standIns := [], harness := (true, "6dd7b99d4a0bbe4352f148f693f7eb7e789c14efb2fc7e733c62a3e5590ece45"), looks := false }, kinds := [], alts := [], laidByText := true, laidKinds := [.data, .pinned], laidTests := true, laidLooks := .later }
def FnExactPlainEquationCardSaid : Prop := Claim7.holds Tryd.pinned (.plain (OpenSpec.ofChange fnExactPlainEquationSpec)) fnExactPlainEquationCard

/-- THE TIED CARD OF 'laws.FnExactApplyBinding'. -/
def fnExactApplyBindingCard : Claim7 := { stood := { row := fnExactApplyBindingRow, standIns := [], harness := (true, "6dd7b99d4a0bbe4352f148f693f7eb7e789c14efb2fc7e733c62a3e5590ece45"), looks := false }, kinds := [], alts := [], laidByText := true, laidKinds := [.data, .pinned], laidTests := true, laidLooks := .later }
def FnExactApplyBindingCardSaid : Prop := Claim7.holds Tryd.pinned (.plain (OpenSpec.ofChange fnExactApplyBindingSpec)) fnExactApplyBindingCard

/-- THE SECOND FORM's CARD OF 'laws.FnNodes'. -/
def fnNodesUptoCard : Claim7 := { stood := { row := fnNodesUptoRow, standIns := [], harness := (true, "6dd7b99d4a0bbe4352f148f693f7eb7e789c14efb2fc7e733c62a3e5590ece45"), looks := false }, kinds := [], alts := [], laidByText := true, laidKinds := [.data, .pinned], laidTests := true, laidLooks := .later }
def FnNodesUptoCardSaid : Prop := Claim7.holds Tryd.pinned (.plain (OpenSpec.upto fnNodesSpec)) fnNodesUptoCard

/-- THE SECOND FORM's CARD OF 'laws.FnExactPlainEquation'. -/
def fnExactPlainEquationUptoCard : Claim7 := { stood := { row := fnExactPlainEquationUptoRow, standIns := [], harness := (true, "6dd7b99d4a0bbe4352f148f693f7eb7e789c14efb2fc7e733c62a3e5590ece45"), looks := false }, kinds := [], alts := [], laidByText := true, laidKinds := [.data, .pinned], laidTests := true, laidLooks := .later }
def FnExactPlainEquationUptoCardSaid : Prop := Claim7.holds Tryd.pinned (.plain (OpenSpec.upto fnExactPlainEquationSpec)) fnExactPlainEquationUptoCard

/-- THE SECOND FORM's CARD OF 'laws.FnExactApplyBinding'. -/
def fnExactApplyBindingUptoCard : Claim7 := { stood := { row := fnExactApplyBindingUptoRow, standIns := [], harness := (true, "6dd7b99d4a0bbe4352f148f693f7eb7e789c14efb2fc7e733c62a3e5590ece45"), looks := false }, kinds := [], alts := [], laidByText := true, laidKinds := [.data, .pinned], laidTests := true, laidLooks := .later }
def FnExactApplyBindingUptoCardSaid : Prop := Claim7.holds Tryd.pinned (.plain (OpenSpec.upto fnExactApplyBindingSpec)) fnExactApplyBindingUptoCard
end Rows
end Go.Proofs.YtcanokiehjjbgaaDoor
