/-
  DERIVED. GIVEN WITH THE SEED: THE CARDS: each row of YtcanokiehjjbgaaGreatDoorRows.lean that lists a variable, with what it lists TIED to the program's text (the seventh form; the later family's looks); each row that meets fmt, with fmt's text TOLD by the authors' own Lean function (tested against real Go, not proved from fmt's source: count such statements apart). THE CARD IS WHAT COUNTS. Prove the row's statement (the work); the ties are given (YtcanokiehjjbgaaGreatDoorTie.lean); close each card by the builder's one call (the guide's Derived/Test/ToyasCard.lean, 'card_holds'). Laid BY PROGRAM, IN A SANDBOX (cutbox-door.mjs). By AI agents, Wed Nov 11 2026. No macro, syntax, notation, axiom, sorry.
-/
import Derived.Test.YtcanokiehjjbgaaGreatDoorRows
import GoSem.ClaimSeven
namespace Go.Proofs.YtcanokiehjjbgaaGreatDoor
namespace Rows

/-- THE TIED CARD OF 'laws.FnExactPackEquations'. -/
def fnExactPackEquationsCard : Claim7 := { stood := { row := fnExactPackEquationsRow, standIns := [], harness := (true, "ff485d7cc1cb1a0d9a45cd19a187d213632ead0cab69097cae70d25d6c962f61"), looks := false }, kinds := [], alts := [], laidByText := true, laidKinds := [.data, .pinned], laidTests := true, laidLooks := .later }
def FnExactPackEquationsCardSaid : Prop := Claim7.holds Tryz.pinned (.plain (OpenSpec.ofChange fnExactPackEquationsSpec)) fnExactPackEquationsCard

/-- THE TIED CARD OF 'laws.FnExactReadEquation'. -/
def fnExactReadEquationCard : Claim7 := { stood := { row := fnExactReadEquationRow, standIns := [], harness := (true, "ff485d7cc1cb1a0d9a45cd19a187d213632ead0cab69097cae70d25d6c962f61"), looks := false }, kinds := [], alts := [], laidByText := true, laidKinds := [.data, .pinned], laidTests := true, laidLooks := .later }
def FnExactReadEquationCardSaid : Prop := Claim7.holds Tryz.pinned (.plain (OpenSpec.ofChange fnExactReadEquationSpec)) fnExactReadEquationCard

/-- THE TIED CARD OF 'laws.FnPlain'. -/
def fnPlainCard : Claim7 := { stood := { row := fnPlainRow, standIns := [], harness := (true, "ff485d7cc1cb1a0d9a45cd19a187d213632ead0cab69097cae70d25d6c962f61"), looks := false }, kinds := [], alts := [], laidByText := true, laidKinds := [.data, .pinned], laidTests := true, laidLooks := .later }
def FnPlainCardSaid : Prop := Claim7.holds Tryz.pinned (.plain (OpenSpec.ofChange fnPlainSpec)) fnPlainCard

/-- THE TIED CARD OF 'laws.FnTexts'. -/
def fnTextsCard : Claim7 := { stood := { row := fnTextsRow, standIns := [], harness := (true, "ff485d7cc1cb1a0d9a45cd19a187d213632ead0cab69097cae70d25d6c962f61"), looks := false }, kinds := [], alts := [], laidByText := true, laidKinds := [.data, .pinned], laidTests := true, laidLooks := .later }
def FnTextsCardSaid : Prop := Claim7.holds Tryz.pinned (.plain (OpenSpec.ofChange fnTextsSpec)) fnTextsCard

/-- THE SECOND FORM's CARD OF 'laws.FnExactPackEquations'. -/
def fnExactPackEquationsUptoCard : Claim7 := { stood := { row := fnExactPackEquationsUptoRow, standIns := [], harness := (true, "ff485d7cc1cb1a0d9a45cd19a187d213632ead0cab69097cae70d25d6c962f61"), looks := false }, kinds := [], alts := [], laidByText := true, laidKinds := [.data, .pinned], laidTests := true, laidLooks := .later }
def FnExactPackEquationsUptoCardSaid : Prop := Claim7.holds Tryz.pinned (.plain (OpenSpec.upto fnExactPackEquationsSpec)) fnExactPackEquationsUptoCard

/-- THE SECOND FORM's CARD OF 'laws.FnExactReadEquation'. -/
def fnExactReadEquationUptoCard : Claim7 := { stood := { row := fnExactReadEquationUptoRow, standIns := [], harness := (true, "ff485d7cc1cb1a0d9a45cd19a187d213632ead0cab69097cae70d25d6c962f61"), looks := false }, kinds := [], alts := [], laidByText := true, laidKinds := [.data, .pinned], laidTests := true, laidLooks := .later }
def FnExactReadEquationUptoCardSaid : Prop := Claim7.holds Tryz.pinned (.plain (OpenSpec.upto fnExactReadEquationSpec)) fnExactReadEquationUptoCard

/-- THE SECOND FORM's CARD OF 'laws.FnPlain'. -/
def fnPlainUptoCard : Claim7 := { stood := { row := fnPlainUptoRow, standIns := [], harness := (true, "ff485d7cc1cb1a0d9a45cd19a187d213632ead0cab69097cae70d25d6c962f61"), looks := false }, kinds := [], alts := [], laidByText := true, laidKinds := [.data, .pinned], laidTests := true, laidLooks := .later }
def FnPlainUptoCardSaid : Prop := Claim7.holds Tryz.pinned (.plain (OpenSpec.upto fnPlainSpec)) fnPlainUptoCard

/-- THE SECOND FORM's CARD OF 'laws.FnTexts'. -/
def fnTextsUptoCard : Claim7 := { stood := { row := fnTextsUptoRow, standIns := [], harness := (true, "ff485d7cc1cb1a0d9a45cd19a187d213632ead0cab69097cae70d25d6c962f61"), looks := false }, kinds := [], alts := [], laidByText := true, laidKinds := [.data, .pinned], laidTests := true, laidLooks := .later }
def FnTextsUptoCardSaid : Prop := Claim7.holds Tryz.pinned (.plain (OpenSpec.upto fnTextsSpec)) fnTextsUptoCard
end Rows
end Go.Proofs.YtcanokiehjjbgaaGreatDoor
