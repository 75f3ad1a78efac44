/-
  DERIVED. GIVEN WITH THE SEED: THE CARDS: each row of YtjamapijodcnbaaDoorRows.lean that lists a variable, with what it lists TIED to the program's text (the seventh form; the later family's looks); each row that meets fmt, with fmt's text TOLD by the authors' own Lean function (tested against real Go, not proved from fmt's source: count such statements apart). THE CARD IS WHAT COUNTS. Prove the row's statement (the work); the ties are given (YtjamapijodcnbaaDoorTie.lean); close each card by the builder's one call (the guide's Derived/Test/ToyasCard.lean, 'card_holds'). Laid BY PROGRAM, IN A SANDBOX (cutbox-door.mjs). By AI agents, Wed Nov 11 2026. No macro, syntax, notation, axiom, sorry.
-/
import Derived.Test.YtjamapijodcnbaaDoorRows
import GoSem.ClaimSeven
namespace Go.Proofs.YtjamapijodcnbaaDoor
namespace Rows

/-- THE TIED CARD OF 'laws.FnExactCountOf'. -/
def fnExactCountOfCard : Claim7 := { stood := { row := fnExactCountOfRow, standIns := [], harness := (true, "cf4744f13a4d4cf1a4817f472739ce105788dee4438f3e30433a1df50e1578d8"), looks := false }, kinds := [], alts := [], laidByText := true, laidKinds := [.data, .pinned], laidTests := true, laidLooks := .later }
def FnExactCountOfCardSaid : Prop := Claim7.holds Tryd.pinned (.plain (OpenSpec.ofChange fnExactCountOfSpec)) fnExactCountOfCard

/-- THE TIED CARD OF 'laws.FnExactDepthOf'. -/
def fnExactDepthOfCard : Claim7 := { stood := { row := fnExactDepthOfRow, standIns := [], harness := (true, "cf4744f13a4d4cf1a4817f472739ce105788dee4438f3e30433a1df50e1578d8"), looks := false }, kinds := [], alts := [], laidByText := true, laidKinds := [.data, .pinned], laidTests := true, laidLooks := .later }
def FnExactDepthOfCardSaid : Prop := Claim7.holds Tryd.pinned (.plain (OpenSpec.ofChange fnExactDepthOfSpec)) fnExactDepthOfCard

/-- THE TIED CARD OF 'laws.FnRanks'. -/
def fnRanksCard : Claim7 := { stood := { row := fnRanksRow, standIns := [], harness := (true, "cf4744f13a4d4cf1a4817f472739ce105788dee4438f3e30433a1df50e1578d8"), looks := false }, kinds := [], alts := [], laidByText := true, laidKinds := [.data, .pinned], laidTests := true, laidLooks := .later }
def FnRanksCardSaid : Prop := Claim7.holds Tryd.pinned (.plain (OpenSpec.ofChange fnRanksSpec)) fnRanksCard

/-- THE TIED CARD OF 'laws.FnExactSubtermAt'. -/
def fnExactSubtermAtCard : Claim7 := { stood := { row := fnExactSubtermAtRow, standIns := [], harness := (true, "cf4744f13a4d4cf1a4817f472739ce105788dee4438f3e30433a1df50e1578d8"), looks := false }, kinds := [], alts := [], laidByText := true, laidKinds := [.data, .pinned], laidTests := true, laidLooks := .later }
def FnExactSubtermAtCardSaid : Prop := Claim7.holds Tryd.pinned (.plain (OpenSpec.ofChange fnExactSubtermAtSpec)) fnExactSubtermAtCard

/-- THE TIED CARD OF 'laws.FnExactRaiseSymbol'. -/
def fnExactRaiseSymbolCard : Claim7 := { stood := { row := fnExactRaiseSymbolRow, standIns := [], harness := (true, "cf4744f13a4d4cf1a4817f472739ce105788dee4438f3e30433a1df50e1578d8"), looks := false }, kinds := [], alts := [], laidByText := true, laidKinds := [.data, .pinned], laidTests := true, laidLooks := .later }
def FnExactRaiseSymbolCardSaid : Prop := Claim7.holds Tryd.pinned (.plain (OpenSpec.ofChange fnExactRaiseSymbolSpec)) fnExactRaiseSymbolCard

/-- THE TIED CARD OF 'laws.FnExactBindingFault'. -/
def fnExactBindingFaultCard : Claim7 := { stood := { row := fnExactBindingFaultRow, standIns := [], harness := (true, "cf4744f13a4d4cf1a4817f472739ce105788dee4438f3e30433a1df50e1578d8"), looks := false }, kinds := [], alts := [], laidByText := true, laidKinds := [.data, .pinned], laidTests := true, laidLooks := .later }
def FnExactBindingFaultCardSaid : Prop := Claim7.holds Tryd.pinned (.plain (OpenSpec.ofChange fnExactBindingFaultSpec)) fnExactBindingFaultCard

/-- THE TIED CARD OF 'laws.FnExactPackTerm'. -/
def fnExactPackTermCard : Claim7 := { stood := { row := fnExactPackTermRow, standIns := [], harness := (true, "cf4744f13a4d4cf1a4817f472739ce105788dee4438f3e30433a1df50e1578d8"), looks := false }, kinds := [], alts := [], laidByText := true, laidKinds := [.data, .pinned], laidTests := true, laidLooks := .later }
def FnExactPackTermCardSaid : Prop := Claim7.holds Tryd.pinned (.plain (OpenSpec.ofChange fnExactPackTermSpec)) fnExactPackTermCard

/-- THE TIED CARD OF 'laws.FnExactShiftTerm'. -/
def fnExactShiftTermCard : Claim7 := { stood := { row := fnExactShiftTermRow, standIns := [], harness := (true, "cf4744f13a4d4cf1a4817f472739ce105788dee4438f3e30433a1df50e1578d8"), looks := false }, kinds := [], alts := [], laidByText := true, laidKinds := [.data, .pinned], laidTests := true, laidLooks := .later }
def FnExactShiftTermCardSaid : Prop := Claim7.holds Tryd.pinned (.plain (OpenSpec.ofChange fnExactShiftTermSpec)) fnExactShiftTermCard

/-- THE TIED CARD OF 'laws.FnExactReplaceAt'. -/
def fnExactReplaceAtCard : Claim7 := { stood := { row := fnExactReplaceAtRow, standIns := [], harness := (true, "cf4744f13a4d4cf1a4817f472739ce105788dee4438f3e30433a1df50e1578d8"), looks := false }, kinds := [], alts := [], laidByText := true, laidKinds := [.data, .pinned], laidTests := true, laidLooks := .later }
def FnExactReplaceAtCardSaid : Prop := Claim7.holds Tryd.pinned (.plain (OpenSpec.ofChange fnExactReplaceAtSpec)) fnExactReplaceAtCard

/-- THE TIED CARD OF 'laws.FnExactTermText'. -/
def fnExactTermTextCard : Claim7 := { stood := { row := fnExactTermTextRow, standIns := [], harness := (true, "cf4744f13a4d4cf1a4817f472739ce105788dee4438f3e30433a1df50e1578d8"), looks := false }, kinds := [], alts := [], laidByText := true, laidKinds := [.data, .pinned], laidTests := true, laidLooks := .later }
def FnExactTermTextCardSaid : Prop := Claim7.holds Tryd.pinned (.plain (OpenSpec.ofChange fnExactTermTextSpec)) fnExactTermTextCard

/-- THE TIED CARD OF 'laws.FnReplaces'. -/
def fnReplacesCard : Claim7 := { stood := { row := fnReplacesRow, standIns := [], harness := (true, "cf4744f13a4d4cf1a4817f472739ce105788dee4438f3e30433a1df50e1578d8"), looks := false }, kinds := [], alts := [], laidByText := true, laidKinds := [.data, .pinned], laidTests := true, laidLooks := .later }
def FnReplacesCardSaid : Prop := Claim7.holds Tryd.pinned (.plain (OpenSpec.ofChange fnReplacesSpec)) fnReplacesCard

/-- THE TIED CARD OF 'laws.FnExactKeyOf'. -/
def fnExactKeyOfCard : Claim7 := { stood := { row := fnExactKeyOfRow, standIns := [], harness := (true, "cf4744f13a4d4cf1a4817f472739ce105788dee4438f3e30433a1df50e1578d8"), looks := false }, kinds := [], alts := [], laidByText := true, laidKinds := [.data, .pinned], laidTests := true, laidLooks := .later }
def FnExactKeyOfCardSaid : Prop := Claim7.holds Tryd.pinned (.plain (OpenSpec.ofChange fnExactKeyOfSpec)) fnExactKeyOfCard

/-- THE SECOND FORM's CARD OF 'laws.FnExactCountOf'. -/
def fnExactCountOfUptoCard : Claim7 := { stood := { row := fnExactCountOfUptoRow, standIns := [], harness := (true, "cf4744f13a4d4cf1a4817f472739ce105788dee4438f3e30433a1df50e1578d8"), looks := false }, kinds := [], alts := [], laidByText := true, laidKinds := [.data, .pinned], laidTests := true, laidLooks := .later }
def FnExactCountOfUptoCardSaid : Prop := Claim7.holds Tryd.pinned (.plain (OpenSpec.upto fnExactCountOfSpec)) fnExactCountOfUptoCard

/-- THE SECOND FORM's CARD OF 'laws.FnExactDepthOf'. -/
def fnExactDepthOfUptoCard : Claim7 := { stood := { row := fnExactDepthOfUptoRow, standIns := [], harness := (true, "cf4744f13a4d4cf1a4817f472739ce105788dee4438f3e30433a1df50e1578d8"), looks := false }, kinds := [], alts := [], laidByText := true, laidKinds := [.data, .pinned], laidTests := true, laidLooks := .later }
def FnExactDepthOfUptoCardSaid : Prop := Claim7.holds Tryd.pinned (.plain (OpenSpec.upto fnExactDepthOfSpec)) fnExactDepthOfUptoCard

/-- THE SECOND FORM's CARD OF 'laws.FnRanks'. -/
def fnRanksUptoCard : Claim7 := { stood := { row := fnRanksUptoRow, standIns := [], harness := (true, "cf4744f13a4d4cf1a4817f472739ce105788dee4438f3e30433a1df50e1578d8"), looks := false }, kinds := [], alts := [], laidByText := true, laidKinds := [.data, .pinned], laidTests := true, laidLooks := .later }
def FnRanksUptoCardSaid : Prop := Claim7.holds Tryd.pinned (.plain (OpenSpec.upto fnRanksSpec)) fnRanksUptoCard

/-- THE SECOND FORM's CARD OF 'laws.FnExactSubtermAt'. -/
def fnExactSubtermAtUptoCard : Claim7 := { stood := { row := fnExactSubtermAtUptoRow, standIns := [], harness := (true, "cf4744f13a4d4cf1a4817f472739ce105788dee4438f3e30433a1df50e1578d8"), looks := false }, kinds := [], alts := [], laidByText := true, laidKinds := [.data, .pinned], laidTests := true, laidLooks := .later }
def FnExactSubtermAtUptoCardSaid : Prop := Claim7.holds Tryd.pinned (.plain (OpenSpec.upto fnExactSubtermAtSpec)) fnExactSubtermAtUptoCard

/-- THE SECOND FORM's CARD OF 'laws.FnExactRaiseSymbol'. -/
def fnExactRaiseSymbolUptoCard : Claim7 := { stood := { row := fnExactRaiseSymbolUptoRow, standIns := [], harness := (true, "cf4744f13a4d4cf1a4817f472739ce105788dee4438f3e30433a1df50e1578d8"), looks := false }, kinds := [], alts := [], laidByText := true, laidKinds := [.data, .pinned], laidTests := true, laidLooks := .later }
def FnExactRaiseSymbolUptoCardSaid : Prop := Claim7.holds Tryd.pinned (.plain (OpenSpec.upto fnExactRaiseSymbolSpec)) fnExactRaiseSymbolUptoCard

/-- THE SECOND FORM's CARD OF 'laws.FnExactBindingFault'. -/
def fnExactBindingFaultUptoCard : Claim7 := { stood := { row := fnExactBindingFaultUptoRow, standIns := [], harness := (true, "cf4744f13a4d4cf1a4817f472739ce105788dee4438f3e30433a1df50e1578d8"), looks := false }, kinds := [], alts := [], laidByText := true, laidKinds := [.data, .pinned], laidTests := true, laidLooks := .later }
def FnExactBindingFaultUptoCardSaid : Prop := Claim7.holds Tryd.pinned (.plain (OpenSpec.upto fnExactBindingFaultSpec)) fnExactBindingFaultUptoCard

/-- THE SECOND FORM's CARD OF 'laws.FnExactPackTerm'. -/
def fnExactPackTermUptoCard : Claim7 := { stood := { row := fnExactPackTermUptoRow, standIns := [], harness := (true, "cf4744f13a4d4cf1a4817f472739ce105788dee4438f3e30433a1df50e1578d8"), looks := false }, kinds := [], alts := [], laidByText := true, laidKinds := [.data, .pinned], laidTests := true, laidLooks := .later }
def FnExactPackTermUptoCardSaid : Prop := Claim7.holds Tryd.pinned (.plain (OpenSpec.upto fnExactPackTermSpec)) fnExactPackTermUptoCard

/-- THE SECOND FORM's CARD OF 'laws.FnExactShiftTerm'. -/
def fnExactShiftTermUptoCard : Claim7 := { stood := { row := fnExactShiftTermUptoRow, standIns := [], harness := (true, "cf4744f13a4d4cf1a4817f472739ce105788dee4438f3e30433a1df50e1578d8"), looks := false }, kinds := [], alts := [], laidByText := true, laidKinds := [.data, .pinned], laidTests := true, laidLooks := .later }
def FnExactShiftTermUptoCardSaid : Prop := Claim7.holds Tryd.pinned (.plain (OpenSpec.upto fnExactShiftTermSpec)) fnExactShiftTermUptoCard

/-- THE SECOND FORM's CARD OF 'laws.FnExactReplaceAt'. -/
def fnExactReplaceAtUptoCard : Claim7 := { stood := { row := fnExactReplaceAtUptoRow, standIns := [], harness := (true, "cf4744f13a4d4cf1a4817f472739ce105788dee4438f3e30433a1df50e1578d8"), looks := false }, kinds := [], alts := [], laidByText := true, laidKinds := [.data, .pinned], laidTests := true, laidLooks := .later }
def FnExactReplaceAtUptoCardSaid : Prop := Claim7.holds Tryd.pinned (.plain (OpenSpec.upto fnExactReplaceAtSpec)) fnExactReplaceAtUptoCard

/-- THE SECOND FORM's CARD OF 'laws.FnExactTermText'. -/
def fnExactTermTextUptoCard : Claim7 := { stood := { row := fnExactTermTextUptoRow, standIns := [], harness := (true, "cf4744f13a4d4cf1a4817f472739ce105788dee4438f3e30433a1df50e1578d8"), looks := false }, kinds := [], alts := [], laidByText := true, laidKinds := [.data, .pinned], laidTests := true, laidLooks := .later }
def FnExactTermTextUptoCardSaid : Prop := Claim7.holds Tryd.pinned (.plain (OpenSpec.upto fnExactTermTextSpec)) fnExactTermTextUptoCard

/-- THE SECOND FORM's CARD OF 'laws.FnReplaces'. -/
def fnReplacesUptoCard : Claim7 := { stood := { row := fnReplacesUptoRow, standIns := [], harness := (true, "cf4744f13a4d4cf1a4817f472739ce105788dee4438f3e30433a1df50e1578d8"), looks := false }, kinds := [], alts := [], laidByText := true, laidKinds := [.data, .pinned], laidTests := true, laidLooks := .later }
def FnReplacesUptoCardSaid : Prop := Claim7.holds Tryd.pinned (.plain (OpenSpec.upto fnReplacesSpec)) fnReplacesUptoCard

/-- THE SECOND FORM's CARD OF 'laws.FnExactKeyOf'. -/
def fnExactKeyOfUptoCard : Claim7 := { stood := { row := fnExactKeyOfUptoRow, standIns := [], harness := (true, "cf4744f13a4d4cf1a4817f472739ce105788dee4438f3e30433a1df50e1578d8"), looks := false }, kinds := [], alts := [], laidByText := true, laidKinds := [.data, .pinned], laidTests := true, laidLooks := .later }
def FnExactKeyOfUptoCardSaid : Prop := Claim7.holds Tryd.pinned (.plain (OpenSpec.upto fnExactKeyOfSpec)) fnExactKeyOfUptoCard
end Rows
end Go.Proofs.YtjamapijodcnbaaDoor
