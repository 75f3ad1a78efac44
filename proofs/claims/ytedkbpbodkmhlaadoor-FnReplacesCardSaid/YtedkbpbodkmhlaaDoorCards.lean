/-
  DERIVED. GIVEN WITH THE SEED: THE CARDS: each row of YtedkbpbodkmhlaaDoorRows.lean that lists a variable, with what it lists TIED to the program's text (the seventh form; the later family's looks); each row that meets fmt, with fmt's text TOLD by the authors' own Lean function (tested against real Go, not proved from fmt's source: count such statements apart). THE CARD IS WHAT COUNTS. Prove the row's statement (the work); the ties are given (YtedkbpbodkmhlaaDoorTie.lean); close each card by the builder's one call (the guide's Derived/Test/ToyasCard.lean, 'card_holds'). Laid BY PROGRAM, IN A SANDBOX (cutbox-door.mjs). By AI agents, Wed Nov 11 2026. No macro, syntax, notation, axiom, sorry.
-/
import Derived.Test.YtedkbpbodkmhlaaDoorRows
import GoSem.ClaimSeven
namespace Go.Proofs.YtedkbpbodkmhlaaDoor
namespace Rows

/-- THE TIED CARD OF 'laws.FnExactNumberText'. -/
def fnExactNumberTextCard : Claim7 := { stood := { row := fnExactNumberTextRow, standIns := [], harness := (true, "eb39b3419a00a88c62c91c9b962448ec28f1b50ad66fe58ff35afe48cc051911"), looks := true }, kinds := [], alts := [], laidByText := true, laidKinds := [.data, .data, .data], laidTests := true, laidLooks := .later }
def FnExactNumberTextCardSaid : Prop := Claim7.holds Tryd.pinned (.plain (OpenSpec.ofChange fnExactNumberTextSpec)) fnExactNumberTextCard

/-- THE TIED CARD OF 'laws.FnExactNumberOf'. -/
def fnExactNumberOfCard : Claim7 := { stood := { row := fnExactNumberOfRow, standIns := [], harness := (true, "eb39b3419a00a88c62c91c9b962448ec28f1b50ad66fe58ff35afe48cc051911"), looks := true }, kinds := [], alts := [], laidByText := true, laidKinds := [.data, .data, .data, .sentinel, .sentinel], laidTests := true, laidLooks := .later }
def FnExactNumberOfCardSaid : Prop := Claim7.holds Tryd.pinned (.plain (OpenSpec.ofChange fnExactNumberOfSpec)) fnExactNumberOfCard

/-- THE TIED CARD OF 'laws.FnExactPackSignature'. -/
def fnExactPackSignatureCard : Claim7 := { stood := { row := fnExactPackSignatureRow, standIns := [], harness := (true, "eb39b3419a00a88c62c91c9b962448ec28f1b50ad66fe58ff35afe48cc051911"), looks := true }, kinds := [], alts := [], laidByText := true, laidKinds := [.data, .pinned], laidTests := true, laidLooks := .later }
def FnExactPackSignatureCardSaid : Prop := Claim7.holds Tryd.pinned (.plain (OpenSpec.ofChange fnExactPackSignatureSpec)) fnExactPackSignatureCard

/-- THE TIED CARD OF 'laws.FnNumbers'. -/
def fnNumbersCard : Claim7 := { stood := { row := fnNumbersRow, standIns := [], harness := (true, "eb39b3419a00a88c62c91c9b962448ec28f1b50ad66fe58ff35afe48cc051911"), looks := true }, kinds := [], alts := [], laidByText := true, laidKinds := [.data, .data, .data, .sentinel, .sentinel], laidTests := true, laidLooks := .later }
def FnNumbersCardSaid : Prop := Claim7.holds Tryd.pinned (.plain (OpenSpec.ofChange fnNumbersSpec)) fnNumbersCard

/-- THE TIED CARD OF 'laws.FnRanks'. -/
def fnRanksCard : Claim7 := { stood := { row := fnRanksRow, standIns := [], harness := (true, "eb39b3419a00a88c62c91c9b962448ec28f1b50ad66fe58ff35afe48cc051911"), looks := true }, kinds := [], alts := [], laidByText := true, laidKinds := [.data, .pinned], laidTests := true, laidLooks := .later }
def FnRanksCardSaid : Prop := Claim7.holds Tryd.pinned (.plain (OpenSpec.ofChange fnRanksSpec)) fnRanksCard

/-- THE TIED CARD OF 'laws.FnExactRaiseSymbol'. -/
def fnExactRaiseSymbolCard : Claim7 := { stood := { row := fnExactRaiseSymbolRow, standIns := [], harness := (true, "eb39b3419a00a88c62c91c9b962448ec28f1b50ad66fe58ff35afe48cc051911"), looks := true }, kinds := [], alts := [], laidByText := true, laidKinds := [.data, .pinned], laidTests := true, laidLooks := .later }
def FnExactRaiseSymbolCardSaid : Prop := Claim7.holds Tryd.pinned (.plain (OpenSpec.ofChange fnExactRaiseSymbolSpec)) fnExactRaiseSymbolCard

/-- THE TIED CARD OF 'laws.FnExactShiftTerm'. -/
def fnExactShiftTermCard : Claim7 := { stood := { row := fnExactShiftTermRow, standIns := [], harness := (true, "eb39b3419a00a88c62c91c9b962448ec28f1b50ad66fe58ff35afe48cc051911"), looks := true }, kinds := [], alts := [], laidByText := true, laidKinds := [.data, .pinned], laidTests := true, laidLooks := .later }
def FnExactShiftTermCardSaid : Prop := Claim7.holds Tryd.pinned (.plain (OpenSpec.ofChange fnExactShiftTermSpec)) fnExactShiftTermCard

/-- THE TIED CARD OF 'laws.FnExactReplaceAt'. -/
def fnExactReplaceAtCard : Claim7 := { stood := { row := fnExactReplaceAtRow, standIns := [], harness := (true, "eb39b3419a00a88c62c91c9b962448ec28f1b50ad66fe58ff35afe48cc051911"), looks := true }, kinds := [], alts := [], laidByText := true, laidKinds := [.data, .pinned], laidTests := true, laidLooks := .later }
def FnExactReplaceAtCardSaid : Prop := Claim7.holds Tryd.pinned (.plain (OpenSpec.ofChange fnExactReplaceAtSpec)) fnExactReplaceAtCard

/-- THE TIED CARD OF 'laws.FnReplaces'. -/
def fnReplacesCard : Claim7 := { stood := { row := fnReplacesRow, standIns := [], harness := (true, "eb39b3419a00a88c62c91c9b962448ec28f1b50ad66fe58ff35afe48cc051911"), looks := true }, kinds := [], alts := [], laidByText := true, laidKinds := [.data, .pinned], laidTests := true, laidLooks := .later }
def FnReplacesCardSaid : Prop := Claim7.holds Tryd.pinned (.plain (OpenSpec.ofChange fnReplacesSpec)) fnReplacesCard

/-- THE TIED CARD OF 'laws.FnExactKeyOf'. -/
def fnExactKeyOfCard : Claim7 := { stood := { row := fnExactKeyOfRow, standIns := [], harness := (true, "eb39b3419a00a88c62c91c9b962448ec28f1b50ad66fe58ff35afe48cc051911"), looks := true }, kinds := [], alts := [], laidByText := true, laidKinds := [.data, .pinned], laidTests := true, laidLooks := .later }
def FnExactKeyOfCardSaid : Prop := Claim7.holds Tryd.pinned (.plain (OpenSpec.ofChange fnExactKeyOfSpec)) fnExactKeyOfCard

/-- THE TIED CARD OF 'laws.FnExactEquationFault'. -/
def fnExactEquationFaultCard : Claim7 := { stood := { row := fnExactEquationFaultRow, standIns := [], harness := (true, "eb39b3419a00a88c62c91c9b962448ec28f1b50ad66fe58ff35afe48cc051911"), looks := true }, kinds := [], alts := [], laidByText := true, laidKinds := [.data, .pinned], laidTests := true, laidLooks := .later }
def FnExactEquationFaultCardSaid : Prop := Claim7.holds Tryd.pinned (.plain (OpenSpec.ofChange fnExactEquationFaultSpec)) fnExactEquationFaultCard

/-- THE TIED CARD OF 'laws.FnExactVarsOf'. -/
def fnExactVarsOfCard : Claim7 := { stood := { row := fnExactVarsOfRow, standIns := [], harness := (true, "eb39b3419a00a88c62c91c9b962448ec28f1b50ad66fe58ff35afe48cc051911"), looks := true }, kinds := [], alts := [], laidByText := true, laidKinds := [.data, .pinned], laidTests := true, laidLooks := .later }
def FnExactVarsOfCardSaid : Prop := Claim7.holds Tryd.pinned (.plain (OpenSpec.ofChange fnExactVarsOfSpec)) fnExactVarsOfCard

/-- THE SECOND FORM's CARD OF 'laws.FnExactNumberText'. -/
def fnExactNumberTextUptoCard : Claim7 := { stood := { row := fnExactNumberTextUptoRow, standIns := [], harness := (true, "eb39b3419a00a88c62c91c9b962448ec28f1b50ad66fe58ff35afe48cc051911"), looks := true }, kinds := [], alts := [], laidByText := true, laidKinds := [.data, .data, .data], laidTests := true, laidLooks := .later }
def FnExactNumberTextUptoCardSaid : Prop := Claim7.holds Tryd.pinned (.plain (OpenSpec.upto fnExactNumberTextSpec)) fnExactNumberTextUptoCard

/-- THE SECOND FORM's CARD OF 'laws.FnExactNumberOf'. -/
def fnExactNumberOfUptoCard : Claim7 := { stood := { row := fnExactNumberOfUptoRow, standIns := [], harness := (true, "eb39b3419a00a88c62c91c9b962448ec28f1b50ad66fe58ff35afe48cc051911"), looks := true }, kinds := [], alts := [], laidByText := true, laidKinds := [.data, .data, .data, .sentinel, .sentinel], laidTests := true, laidLooks := .later }
def FnExactNumberOfUptoCardSaid : Prop := Claim7.holds Tryd.pinned (.plain (OpenSpec.upto fnExactNumberOfSpec)) fnExactNumberOfUptoCard

/-- THE SECOND FORM's CARD OF 'laws.FnExactPackSignature'. -/
def fnExactPackSignatureUptoCard : Claim7 := { stood := { row := fnExactPackSignatureUptoRow, standIns := [], harness := (true, "eb39b3419a00a88c62c91c9b962448ec28f1b50ad66fe58ff35afe48cc051911"), looks := true }, kinds := [], alts := [], laidByText := true, laidKinds := [.data, .pinned], laidTests := true, laidLooks := .later }
def FnExactPackSignatureUptoCardSaid : Prop := Claim7.holds Tryd.pinned (.plain (OpenSpec.upto fnExactPackSignatureSpec)) fnExactPackSignatureUptoCard

/-- THE SECOND FORM's CARD OF 'laws.FnNumbers'. -/
def fnNumbersUptoCard : Claim7 := { stood := { row := fnNumbersUptoRow, standIns := [], harness := (true, "eb39b3419a00a88c62c91c9b962448ec28f1b50ad66fe58ff35afe48cc051911"), looks := true }, kinds := [], alts := [], laidByText := true, laidKinds := [.data, .data, .data, .sentinel, .sentinel], laidTests := true, laidLooks := .later }
def FnNumbersUptoCardSaid : Prop := Claim7.holds Tryd.pinned (.plain (OpenSpec.upto fnNumbersSpec)) fnNumbersUptoCard

/-- THE SECOND FORM's CARD OF 'laws.FnRanks'. -/
def fnRanksUptoCard : Claim7 := { stood := { row := fnRanksUptoRow, standIns := [], harness := (true, "eb39b3419a00a88c62c91c9b962448ec28f1b50ad66fe58ff35afe48cc051911"), looks := true }, kinds := [], alts := [], laidByText := true, laidKinds := [.data, .pinned], laidTests := true, laidLooks := .later }
def FnRanksUptoCardSaid : Prop := Claim7.holds Tryd.pinned (.plain (OpenSpec.upto fnRanksSpec)) fnRanksUptoCard

/-- THE SECOND FORM's CARD OF 'laws.FnExactRaiseSymbol'. -/
def fnExactRaiseSymbolUptoCard : Claim7 := { stood := { row := fnExactRaiseSymbolUptoRow, standIns := [], harness := (true, "eb39b3419a00a88c62c91c9b962448ec28f1b50ad66fe58ff35afe48cc051911"), looks := true }, kinds := [], alts := [], laidByText := true, laidKinds := [.data, .pinned], laidTests := true, laidLooks := .later }
def FnExactRaiseSymbolUptoCardSaid : Prop := Claim7.holds Tryd.pinned (.plain (OpenSpec.upto fnExactRaiseSymbolSpec)) fnExactRaiseSymbolUptoCard

/-- THE SECOND FORM's CARD OF 'laws.FnExactShiftTerm'. -/
def fnExactShiftTermUptoCard : Claim7 := { stood := { row := fnExactShiftTermUptoRow, standIns := [], harness := (true, "eb39b3419a00a88c62c91c9b962448ec28f1b50ad66fe58ff35afe48cc051911"), looks := true }, kinds := [], alts := [], laidByText := true, laidKinds := [.data, .pinned], laidTests := true, laidLooks := .later }
def FnExactShiftTermUptoCardSaid : Prop := Claim7.holds Tryd.pinned (.plain (OpenSpec.upto fnExactShiftTermSpec)) fnExactShiftTermUptoCard

/-- THE SECOND FORM's CARD OF 'laws.FnExactReplaceAt'. -/
def fnExactReplaceAtUptoCard : Claim7 := { stood := { row := fnExactReplaceAtUptoRow, standIns := [], harness := (true, "eb39b3419a00a88c62c91c9b962448ec28f1b50ad66fe58ff35afe48cc051911"), looks := true }, kinds := [], alts := [], laidByText := true, laidKinds := [.data, .pinned], laidTests := true, laidLooks := .later }
def FnExactReplaceAtUptoCardSaid : Prop := Claim7.holds Tryd.pinned (.plain (OpenSpec.upto fnExactReplaceAtSpec)) fnExactReplaceAtUptoCard

/-- THE SECOND FORM's CARD OF 'laws.FnReplaces'. -/
def fnReplacesUptoCard : Claim7 := { stood := { row := fnReplacesUptoRow, standIns := [], harness := (true, "eb39b3419a00a88c62c91c9b962448ec28f1b50ad66fe58ff35afe48cc051911"), looks := true }, kinds := [], alts := [], laidByText := true, laidKinds := [.data, .pinned], laidTests := true, laidLooks := .later }
def FnReplacesUptoCardSaid : Prop := Claim7.holds Tryd.pinned (.plain (OpenSpec.upto fnReplacesSpec)) fnReplacesUptoCard

/-- THE SECOND FORM's CARD OF 'laws.FnExactKeyOf'. -/
def fnExactKeyOfUptoCard : Claim7 := { stood := { row := fnExactKeyOfUptoRow, standIns := [], harness := (true, "eb39b3419a00a88c62c91c9b962448ec28f1b50ad66fe58ff35afe48cc051911"), looks := true }, kinds := [], alts := [], laidByText := true, laidKinds := [.data, .pinned], laidTests := true, laidLooks := .later }
def FnExactKeyOfUptoCardSaid : Prop := Claim7.holds Tryd.pinned (.plain (OpenSpec.upto fnExactKeyOfSpec)) fnExactKeyOfUptoCard

/-- THE SECOND FORM's CARD OF 'laws.FnExactEquationFault'. -/
def fnExactEquationFaultUptoCard : Claim7 := { stood := { row := fnExactEquationFaultUptoRow, standIns := [], harness := (true, "eb39b3419a00a88c62c91c9b962448ec28f1b50ad66fe58ff35afe48cc051911"), looks := true }, kinds := [], alts := [], laidByText := true, laidKinds := [.data, .pinned], laidTests := true, laidLooks := .later }
def FnExactEquationFaultUptoCardSaid : Prop := Claim7.holds Tryd.pinned (.plain (OpenSpec.upto fnExactEquationFaultSpec)) fnExactEquationFaultUptoCard

/-- THE SECOND FORM's CARD OF 'laws.FnExactVarsOf'. -/
def fnExactVarsOfUptoCard : Claim7 := { stood := { row := fnExactVarsOfUptoRow, standIns := [], harness := (true, "eb39b3419a00a88c62c91c9b962448ec28f1b50ad66fe58ff35afe48cc051911"), looks := true }, kinds := [], alts := [], laidByText := true, laidKinds := [.data, .pinned], laidTests := true, laidLooks := .later }
def FnExactVarsOfUptoCardSaid : Prop := Claim7.holds Tryd.pinned (.plain (OpenSpec.upto fnExactVarsOfSpec)) fnExactVarsOfUptoCard
end Rows
end Go.Proofs.YtedkbpbodkmhlaaDoor
