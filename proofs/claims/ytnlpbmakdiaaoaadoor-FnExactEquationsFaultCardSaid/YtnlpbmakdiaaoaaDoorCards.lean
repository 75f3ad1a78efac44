/-
  DERIVED. GIVEN WITH THE SEED: THE CARDS: each row of YtnlpbmakdiaaoaaDoorRows.lean that lists a variable, with what it lists TIED to the program's text (the seventh form; the later family's looks); each row that meets fmt, with fmt's text TOLD by the authors' own Lean function (tested against real Go, not proved from fmt's source: count such statements apart). THE CARD IS WHAT COUNTS. Prove the row's statement (the work); the ties are given (YtnlpbmakdiaaoaaDoorTie.lean); close each card by the builder's one call (the guide's Derived/Test/ToyasCard.lean, 'card_holds'). Laid BY PROGRAM, IN A SANDBOX (cutbox-door.mjs). By AI agents, Wed Nov 11 2026. No macro, syntax, notation, axiom, sorry.
-/
import Derived.Test.YtnlpbmakdiaaoaaDoorRows
import GoSem.ClaimSeven
namespace Go.Proofs.YtnlpbmakdiaaoaaDoor
namespace Rows

/-- THE TIED CARD OF 'laws.FnExactPlainEquation'. -/
def fnExactPlainEquationCard : Claim7 := { stood := { row := fnExactPlainEquationRow, standIns := [], harness := (true, "031ad7b6eae07a74640b0c2c9189ea6880b9eea39bccfaae2d81f4cd4004c815"), looks := false }, kinds := [], alts := [], laidByText := true, laidKinds := [.data, .pinned], laidTests := true, laidLooks := .later }
def FnExactPlainEquationCardSaid : Prop := Claim7.holds Tryd.pinned (.plain (OpenSpec.ofChange fnExactPlainEquationSpec)) fnExactPlainEquationCard

/-- THE TIED CARD OF 'laws.FnExactApplyBinding'. -/
def fnExactApplyBindingCard : Claim7 := { stood := { row := fnExactApplyBindingRow, standIns := [], harness := (true, "031ad7b6eae07a74640b0c2c9189ea6880b9eea39bccfaae2d81f4cd4004c815"), looks := false }, kinds := [], alts := [], laidByText := true, laidKinds := [.data, .pinned], laidTests := true, laidLooks := .later }
def FnExactApplyBindingCardSaid : Prop := Claim7.holds Tryd.pinned (.plain (OpenSpec.ofChange fnExactApplyBindingSpec)) fnExactApplyBindingCard

/-- THE TIED CARD OF 'laws.FnExactReadTerm'. -/
def fnExactReadTermCard : Claim7 := { stood := { row := fnExactReadTermRow, standIns := [], harness := (true, "031ad7b6eae07a74640b0c2c9189ea6880b9eea39bccfaae2d81f4cd4004c815"), looks := false }, kinds := [], alts := [], laidByText := true, laidKinds := [.data, .pinned], laidTests := true, laidLooks := .later }
def FnExactReadTermCardSaid : Prop := Claim7.holds Tryd.pinned (.plain (OpenSpec.ofChange fnExactReadTermSpec)) fnExactReadTermCard

/-- THE TIED CARD OF 'laws.FnExactEquationsFault'. -/
def fnExactEquationsFaultCard : Claim7 := { stood := { row := fnExactEquationsFaultRow, standIns := [], harness := (true, "031ad7b6eae07a74640b0c2c9189ea6880b9eea39bccfaae2d81f4cd4004c815"), looks := false }, kinds := [], alts := [], laidByText := true, laidKinds := [.data, .pinned], laidTests := true, laidLooks := .later }
def FnExactEquationsFaultCardSaid : Prop := Claim7.holds Tryd.pinned (.plain (OpenSpec.ofChange fnExactEquationsFaultSpec)) fnExactEquationsFaultCard

/-- THE TIED CARD OF 'laws.FnNodes'. -/
def fnNodesCard : Claim7 := { stood := { row := fnNodesRow, standIns := [], harness := (true, "031ad7b6eae07a74640b0c2c9189ea6880b9eea39bccfaae2d81f4cd4004c815"), looks := false }, kinds := [], alts := [], laidByText := true, laidKinds := [.data, .pinned], laidTests := true, laidLooks := .later }
def FnNodesCardSaid : Prop := Claim7.holds Tryd.pinned (.plain (OpenSpec.ofChange fnNodesSpec)) fnNodesCard

/-- THE SECOND FORM's CARD OF 'laws.FnExactPlainEquation'. -/
def fnExactPlainEquationUptoCard : Claim7 := { stood := { row := fnExactPlainEquationUptoRow, standIns := [], harness := (true, "031ad7b6eae07a74640b0c2c9189ea6880b9eea39bccfaae2d81f4cd4004c815"), looks := false }, kinds := [], alts := [], laidByText := true, laidKinds := [.data, .pinned], laidTests := true, laidLooks := .later }
def FnExactPlainEquationUptoCardSaid : Prop := Claim7.holds Tryd.pinned (.plain (OpenSpec.upto fnExactPlainEquationSpec)) fnExactPlainEquationUptoCard

/-- THE SECOND FORM's CARD OF 'laws.FnExactApplyBinding'. -/
def fnExactApplyBindingUptoCard : Claim7 := { stood := { row := fnExactApplyBindingUptoRow, standIns := [], harness := (true, "031ad7b6eae07a74640b0c2c9189ea6880b9eea39bccfaae2d81f4cd4004c815"), looks := false }, kinds := [], alts := [], laidByText := true, laidKinds := [.data, .pinned], laidTests := true, laidLooks := .later }
def FnExactApplyBindingUptoCardSaid : Prop := Claim7.holds Tryd.pinned (.plain (OpenSpec.upto fnExactApplyBindingSpec)) fnExactApplyBindingUptoCard

/-- THE SECOND FORM's CARD OF 'laws.FnExactReadTerm'. -/
def fnExactReadTermUptoCard : Claim7 := { stood := { row := fnExactReadTermUptoRow, standIns := [], harness := (true, "031ad7b6eae07a74640b0c2c9189ea6880b9eea39bccfaae2d81f4cd4004c815"), looks := false }, kinds := [], alts := [], laidByText := true, laidKinds := [.data, .pinned], laidTests := true, laidLooks := .later }
def FnExactReadTermUptoCardSaid : Prop := Claim7.holds Tryd.pinned (.plain (OpenSpec.upto fnExactReadTermSpec)) fnExactReadTermUptoCard

/-- THE SECOND FORM's CARD OF 'laws.FnExactEquationsFault'. -/
def fnExactEquationsFaultUptoCard : Claim7 := { stood := { row := fnExactEquationsFaultUptoRow, standIns := [], harness := (true, "031ad7b6eae07a74640b0c2c9189ea6880b9eea39bccfaae2d81f4cd4004c815"), looks := false }, kinds := [], alts := [], laidByText := true, laidKinds := [.data, .pinned], laidTests := true, laidLooks := .later }
def FnExactEquationsFaultUptoCardSaid : Prop := Claim7.holds Tryd.pinned (.plain (OpenSpec.upto fnExactEquationsFaultSpec)) fnExactEquationsFaultUptoCard

/-- THE SECOND FORM's CARD OF 'laws.FnNodes'. -/
def fnNodesUptoCard : Claim7 := { stood := { row := fnNodesUptoRow, standIns := [], harness := (true, "031ad7b6eae07a74640b0c2c9189ea6880b9eea39bccfaae2d81f4cd4004c815"), looks := false }, kinds := [], alts := [], laidByText := true, laidKinds := [.data, .pinned], laidTests := true, laidLooks := .later }
def FnNodesUptoCardSaid : Prop := Claim7.holds Tryd.pinned (.plain (OpenSpec.upto fnNodesSpec)) fnNodesUptoCard
end Rows
end Go.Proofs.YtnlpbmakdiaaoaaDoor
