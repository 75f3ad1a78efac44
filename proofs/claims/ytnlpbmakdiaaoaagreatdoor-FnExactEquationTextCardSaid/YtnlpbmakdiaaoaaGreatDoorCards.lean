/-
  DERIVED. GIVEN WITH THE SEED: THE CARDS: each row of YtnlpbmakdiaaoaaGreatDoorRows.lean that lists a variable, with what it lists TIED to the program's text (the seventh form; the later family's looks); each row that meets fmt, with fmt's text TOLD by the authors' own Lean function (tested against real Go, not proved from fmt's source: count such statements apart). THE CARD IS WHAT COUNTS. Prove the row's statement (the work); the ties are given (YtnlpbmakdiaaoaaGreatDoorTie.lean); close each card by the builder's one call (the guide's Derived/Test/ToyasCard.lean, 'card_holds'). Laid BY PROGRAM, IN A SANDBOX (cutbox-door.mjs). By AI agents, Wed Nov 11 2026. No macro, syntax, notation, axiom, sorry.
-/
import Derived.Test.YtnlpbmakdiaaoaaGreatDoorRows
import GoSem.ClaimSeven
namespace Go.Proofs.YtnlpbmakdiaaoaaGreatDoor
namespace Rows

/-- THE TIED CARD OF 'laws.FnExactReadEquation'. -/
def fnExactReadEquationCard : Claim7 := { stood := { row := fnExactReadEquationRow, standIns := [], harness := (true, "ce32ebd2b865eb31e8f0619762e44ad72de9aa6bab4f5c1a552f53ccaf0f1756"), looks := false }, kinds := [], alts := [], laidByText := true, laidKinds := [.data, .pinned], laidTests := true, laidLooks := .later }
def FnExactReadEquationCardSaid : Prop := Claim7.holds Tryz.pinned (.plain (OpenSpec.ofChange fnExactReadEquationSpec)) fnExactReadEquationCard

/-- THE TIED CARD OF 'laws.FnTexts'. -/
def fnTextsCard : Claim7 := { stood := { row := fnTextsRow, standIns := [], harness := (true, "ce32ebd2b865eb31e8f0619762e44ad72de9aa6bab4f5c1a552f53ccaf0f1756"), looks := false }, kinds := [], alts := [], laidByText := true, laidKinds := [.data, .pinned], laidTests := true, laidLooks := .later }
def FnTextsCardSaid : Prop := Claim7.holds Tryz.pinned (.plain (OpenSpec.ofChange fnTextsSpec)) fnTextsCard

/-- THE TIED CARD OF 'laws.FnExactEquationText'. -/
def fnExactEquationTextCard : Claim7 := { stood := { row := fnExactEquationTextRow, standIns := [], harness := (true, "ce32ebd2b865eb31e8f0619762e44ad72de9aa6bab4f5c1a552f53ccaf0f1756"), looks := false }, kinds := [], alts := [], laidByText := true, laidKinds := [.data, .pinned], laidTests := true, laidLooks := .later }
def FnExactEquationTextCardSaid : Prop := Claim7.holds Tryz.pinned (.plain (OpenSpec.ofChange fnExactEquationTextSpec)) fnExactEquationTextCard

/-- THE TIED CARD OF 'laws.FnPlain'. -/
def fnPlainCard : Claim7 := { stood := { row := fnPlainRow, standIns := [], harness := (true, "ce32ebd2b865eb31e8f0619762e44ad72de9aa6bab4f5c1a552f53ccaf0f1756"), looks := false }, kinds := [], alts := [], laidByText := true, laidKinds := [.data, .pinned], laidTests := true, laidLooks := .later }
def FnPlainCardSaid : Prop := Claim7.holds Tryz.pinned (.plain (OpenSpec.ofChange fnPlainSpec)) fnPlainCard

/-- THE TIED CARD OF 'laws.FnExactPackEquations'. -/
def fnExactPackEquationsCard : Claim7 := { stood := { row := fnExactPackEquationsRow, standIns := [], harness := (true, "ce32ebd2b865eb31e8f0619762e44ad72de9aa6bab4f5c1a552f53ccaf0f1756"), looks := false }, kinds := [], alts := [], laidByText := true, laidKinds := [.data, .pinned], laidTests := true, laidLooks := .later }
def FnExactPackEquationsCardSaid : Prop := Claim7.holds Tryz.pinned (.plain (OpenSpec.ofChange fnExactPackEquationsSpec)) fnExactPackEquationsCard

/-- THE SECOND FORM's CARD OF 'laws.FnExactReadEquation'. -/
def fnExactReadEquationUptoCard : Claim7 := { stood := { row := fnExactReadEquationUptoRow, standIns := [], harness := (true, "ce32ebd2b865eb31e8f0619762e44ad72de9aa6bab4f5c1a552f53ccaf0f1756"), looks := false }, kinds := [], alts := [], laidByText := true, laidKinds := [.data, .pinned], laidTests := true, laidLooks := .later }
def FnExactReadEquationUptoCardSaid : Prop := Claim7.holds Tryz.pinned (.plain (OpenSpec.upto fnExactReadEquationSpec)) fnExactReadEquationUptoCard

/-- THE SECOND FORM's CARD OF 'laws.FnTexts'. -/
def fnTextsUptoCard : Claim7 := { stood := { row := fnTextsUptoRow, standIns := [], harness := (true, "ce32ebd2b865eb31e8f0619762e44ad72de9aa6bab4f5c1a552f53ccaf0f1756"), looks := false }, kinds := [], alts := [], laidByText := true, laidKinds := [.data, .pinned], laidTests := true, laidLooks := .later }
def FnTextsUptoCardSaid : Prop := Claim7.holds Tryz.pinned (.plain (OpenSpec.upto fnTextsSpec)) fnTextsUptoCard

/-- THE SECOND FORM's CARD OF 'laws.FnExactEquationText'. -/
def fnExactEquationTextUptoCard : Claim7 := { stood := { row := fnExactEquationTextUptoRow, standIns := [], harness := (true, "ce32ebd2b865eb31e8f0619762e44ad72de9aa6bab4f5c1a552f53ccaf0f1756"), looks := false }, kinds := [], alts := [], laidByText := true, laidKinds := [.data, .pinned], laidTests := true, laidLooks := .later }
def FnExactEquationTextUptoCardSaid : Prop := Claim7.holds Tryz.pinned (.plain (OpenSpec.upto fnExactEquationTextSpec)) fnExactEquationTextUptoCard

/-- THE SECOND FORM's CARD OF 'laws.FnPlain'. -/
def fnPlainUptoCard : Claim7 := { stood := { row := fnPlainUptoRow, standIns := [], harness := (true, "ce32ebd2b865eb31e8f0619762e44ad72de9aa6bab4f5c1a552f53ccaf0f1756"), looks := false }, kinds := [], alts := [], laidByText := true, laidKinds := [.data, .pinned], laidTests := true, laidLooks := .later }
def FnPlainUptoCardSaid : Prop := Claim7.holds Tryz.pinned (.plain (OpenSpec.upto fnPlainSpec)) fnPlainUptoCard

/-- THE SECOND FORM's CARD OF 'laws.FnExactPackEquations'. -/
def fnExactPackEquationsUptoCard : Claim7 := { stood := { row := fnExactPackEquationsUptoRow, standIns := [], harness := (true, "ce32ebd2b865eb31e8f0619762e44ad72de9aa6bab4f5c1a552f53ccaf0f1756"), looks := false }, kinds := [], alts := [], laidByText := true, laidKinds := [.data, .pinned], laidTests := true, laidLooks := .later }
def FnExactPackEquationsUptoCardSaid : Prop := Claim7.holds Tryz.pinned (.plain (OpenSpec.upto fnExactPackEquationsSpec)) fnExactPackEquationsUptoCard
end Rows
end Go.Proofs.YtnlpbmakdiaaoaaGreatDoor
