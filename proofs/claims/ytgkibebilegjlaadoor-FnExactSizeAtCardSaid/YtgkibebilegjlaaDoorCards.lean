/-
  DERIVED. GIVEN WITH THE SEED: THE CARDS: each row of YtgkibebilegjlaaDoorRows.lean that lists a variable, with what it lists TIED to the program's text (the seventh form; the later family's looks); each row that meets fmt, with fmt's text TOLD by the authors' own Lean function (tested against real Go, not proved from fmt's source: count such statements apart). THE CARD IS WHAT COUNTS. Prove the row's statement (the work); the ties are given (YtgkibebilegjlaaDoorTie.lean); close each card by the builder's one call (the guide's Derived/Test/ToyasCard.lean, 'card_holds'). Laid BY PROGRAM, IN A SANDBOX (cutbox-door.mjs). By AI agents, Wed Nov 11 2026. No macro, syntax, notation, axiom, sorry.
-/
import Derived.Test.YtgkibebilegjlaaDoorRows
import GoSem.ClaimSeven
namespace Go.Proofs.YtgkibebilegjlaaDoor
namespace Rows

/-- THE TIED CARD OF 'laws.FnExactNumberText'. -/
def fnExactNumberTextCard : Claim7 := { stood := { row := fnExactNumberTextRow, standIns := [], harness := (true, "26352bfd1d5c9373d94759482df96dc116f983416f321dd2828438dcd5a0f81b"), looks := true }, kinds := [], alts := [], laidByText := true, laidKinds := [.data, .data, .data], laidTests := true, laidLooks := .later }
def FnExactNumberTextCardSaid : Prop := Claim7.holds Tryd.pinned (.plain (OpenSpec.ofChange fnExactNumberTextSpec)) fnExactNumberTextCard

/-- THE TIED CARD OF 'laws.FnExactSignatureFault'. -/
def fnExactSignatureFaultCard : Claim7 := { stood := { row := fnExactSignatureFaultRow, standIns := [], harness := (true, "26352bfd1d5c9373d94759482df96dc116f983416f321dd2828438dcd5a0f81b"), looks := true }, kinds := [], alts := [], laidByText := true, laidKinds := [.data, .pinned], laidTests := true, laidLooks := .later }
def FnExactSignatureFaultCardSaid : Prop := Claim7.holds Tryd.pinned (.plain (OpenSpec.ofChange fnExactSignatureFaultSpec)) fnExactSignatureFaultCard

/-- THE TIED CARD OF 'laws.FnExactArityOf'. -/
def fnExactArityOfCard : Claim7 := { stood := { row := fnExactArityOfRow, standIns := [], harness := (true, "26352bfd1d5c9373d94759482df96dc116f983416f321dd2828438dcd5a0f81b"), looks := true }, kinds := [], alts := [], laidByText := true, laidKinds := [.data, .pinned], laidTests := true, laidLooks := .later }
def FnExactArityOfCardSaid : Prop := Claim7.holds Tryd.pinned (.plain (OpenSpec.ofChange fnExactArityOfSpec)) fnExactArityOfCard

/-- THE TIED CARD OF 'laws.FnExactSymbolOf'. -/
def fnExactSymbolOfCard : Claim7 := { stood := { row := fnExactSymbolOfRow, standIns := [], harness := (true, "26352bfd1d5c9373d94759482df96dc116f983416f321dd2828438dcd5a0f81b"), looks := true }, kinds := [], alts := [], laidByText := true, laidKinds := [.data, .pinned], laidTests := true, laidLooks := .later }
def FnExactSymbolOfCardSaid : Prop := Claim7.holds Tryd.pinned (.plain (OpenSpec.ofChange fnExactSymbolOfSpec)) fnExactSymbolOfCard

/-- THE TIED CARD OF 'laws.FnExactNumberOf'. -/
def fnExactNumberOfCard : Claim7 := { stood := { row := fnExactNumberOfRow, standIns := [], harness := (true, "26352bfd1d5c9373d94759482df96dc116f983416f321dd2828438dcd5a0f81b"), looks := true }, kinds := [], alts := [], laidByText := true, laidKinds := [.data, .data, .data, .sentinel, .sentinel], laidTests := true, laidLooks := .later }
def FnExactNumberOfCardSaid : Prop := Claim7.holds Tryd.pinned (.plain (OpenSpec.ofChange fnExactNumberOfSpec)) fnExactNumberOfCard

/-- THE TIED CARD OF 'laws.FnExactOrderFault'. -/
def fnExactOrderFaultCard : Claim7 := { stood := { row := fnExactOrderFaultRow, standIns := [], harness := (true, "26352bfd1d5c9373d94759482df96dc116f983416f321dd2828438dcd5a0f81b"), looks := true }, kinds := [], alts := [], laidByText := true, laidKinds := [.data, .pinned], laidTests := true, laidLooks := .later }
def FnExactOrderFaultCardSaid : Prop := Claim7.holds Tryd.pinned (.plain (OpenSpec.ofChange fnExactOrderFaultSpec)) fnExactOrderFaultCard

/-- THE TIED CARD OF 'laws.FnExactTermFault'. -/
def fnExactTermFaultCard : Claim7 := { stood := { row := fnExactTermFaultRow, standIns := [], harness := (true, "26352bfd1d5c9373d94759482df96dc116f983416f321dd2828438dcd5a0f81b"), looks := true }, kinds := [], alts := [], laidByText := true, laidKinds := [.data, .pinned], laidTests := true, laidLooks := .later }
def FnExactTermFaultCardSaid : Prop := Claim7.holds Tryd.pinned (.plain (OpenSpec.ofChange fnExactTermFaultSpec)) fnExactTermFaultCard

/-- THE TIED CARD OF 'laws.FnExactPackSignature'. -/
def fnExactPackSignatureCard : Claim7 := { stood := { row := fnExactPackSignatureRow, standIns := [], harness := (true, "26352bfd1d5c9373d94759482df96dc116f983416f321dd2828438dcd5a0f81b"), looks := true }, kinds := [], alts := [], laidByText := true, laidKinds := [.data, .pinned], laidTests := true, laidLooks := .later }
def FnExactPackSignatureCardSaid : Prop := Claim7.holds Tryd.pinned (.plain (OpenSpec.ofChange fnExactPackSignatureSpec)) fnExactPackSignatureCard

/-- THE TIED CARD OF 'laws.FnExactIsGround'. -/
def fnExactIsGroundCard : Claim7 := { stood := { row := fnExactIsGroundRow, standIns := [], harness := (true, "26352bfd1d5c9373d94759482df96dc116f983416f321dd2828438dcd5a0f81b"), looks := true }, kinds := [], alts := [], laidByText := true, laidKinds := [.data, .pinned], laidTests := true, laidLooks := .later }
def FnExactIsGroundCardSaid : Prop := Claim7.holds Tryd.pinned (.plain (OpenSpec.ofChange fnExactIsGroundSpec)) fnExactIsGroundCard

/-- THE TIED CARD OF 'laws.FnNumbers'. -/
def fnNumbersCard : Claim7 := { stood := { row := fnNumbersRow, standIns := [], harness := (true, "26352bfd1d5c9373d94759482df96dc116f983416f321dd2828438dcd5a0f81b"), looks := true }, kinds := [], alts := [], laidByText := true, laidKinds := [.data, .data, .data, .sentinel, .sentinel], laidTests := true, laidLooks := .later }
def FnNumbersCardSaid : Prop := Claim7.holds Tryd.pinned (.plain (OpenSpec.ofChange fnNumbersSpec)) fnNumbersCard

/-- THE TIED CARD OF 'laws.FnExactRankOf'. -/
def fnExactRankOfCard : Claim7 := { stood := { row := fnExactRankOfRow, standIns := [], harness := (true, "26352bfd1d5c9373d94759482df96dc116f983416f321dd2828438dcd5a0f81b"), looks := true }, kinds := [], alts := [], laidByText := true, laidKinds := [.data, .pinned], laidTests := true, laidLooks := .later }
def FnExactRankOfCardSaid : Prop := Claim7.holds Tryd.pinned (.plain (OpenSpec.ofChange fnExactRankOfSpec)) fnExactRankOfCard

/-- THE TIED CARD OF 'laws.FnExactSizeAt'. -/
def fnExactSizeAtCard : Claim7 := { stood := { row := fnExactSizeAtRow, standIns := [], harness := (true, "26352bfd1d5c9373d94759482df96dc116f983416f321dd2828438dcd5a0f81b"), looks := true }, kinds := [], alts := [], laidByText := true, laidKinds := [.data, .pinned], laidTests := true, laidLooks := .later }
def FnExactSizeAtCardSaid : Prop := Claim7.holds Tryd.pinned (.plain (OpenSpec.ofChange fnExactSizeAtSpec)) fnExactSizeAtCard

/-- THE SECOND FORM's CARD OF 'laws.FnExactNumberText'. -/
def fnExactNumberTextUptoCard : Claim7 := { stood := { row := fnExactNumberTextUptoRow, standIns := [], harness := (true, "26352bfd1d5c9373d94759482df96dc116f983416f321dd2828438dcd5a0f81b"), looks := true }, kinds := [], alts := [], laidByText := true, laidKinds := [.data, .data, .data], laidTests := true, laidLooks := .later }
def FnExactNumberTextUptoCardSaid : Prop := Claim7.holds Tryd.pinned (.plain (OpenSpec.upto fnExactNumberTextSpec)) fnExactNumberTextUptoCard

/-- THE SECOND FORM's CARD OF 'laws.FnExactSignatureFault'. -/
def fnExactSignatureFaultUptoCard : Claim7 := { stood := { row := fnExactSignatureFaultUptoRow, standIns := [], harness := (true, "26352bfd1d5c9373d94759482df96dc116f983416f321dd2828438dcd5a0f81b"), looks := true }, kinds := [], alts := [], laidByText := true, laidKinds := [.data, .pinned], laidTests := true, laidLooks := .later }
def FnExactSignatureFaultUptoCardSaid : Prop := Claim7.holds Tryd.pinned (.plain (OpenSpec.upto fnExactSignatureFaultSpec)) fnExactSignatureFaultUptoCard

/-- THE SECOND FORM's CARD OF 'laws.FnExactArityOf'. -/
def fnExactArityOfUptoCard : Claim7 := { stood := { row := fnExactArityOfUptoRow, standIns := [], harness := (true, "26352bfd1d5c9373d94759482df96dc116f983416f321dd2828438dcd5a0f81b"), looks := true }, kinds := [], alts := [], laidByText := true, laidKinds := [.data, .pinned], laidTests := true, laidLooks := .later }
def FnExactArityOfUptoCardSaid : Prop := Claim7.holds Tryd.pinned (.plain (OpenSpec.upto fnExactArityOfSpec)) fnExactArityOfUptoCard

/-- THE SECOND FORM's CARD OF 'laws.FnExactSymbolOf'. -/
def fnExactSymbolOfUptoCard : Claim7 := { stood := { row := fnExactSymbolOfUptoRow, standIns := [], harness := (true, "26352bfd1d5c9373d94759482df96dc116f983416f321dd2828438dcd5a0f81b"), looks := true }, kinds := [], alts := [], laidByText := true, laidKinds := [.data, .pinned], laidTests := true, laidLooks := .later }
def FnExactSymbolOfUptoCardSaid : Prop := Claim7.holds Tryd.pinned (.plain (OpenSpec.upto fnExactSymbolOfSpec)) fnExactSymbolOfUptoCard

/-- THE SECOND FORM's CARD OF 'laws.FnExactNumberOf'. -/
def fnExactNumberOfUptoCard : Claim7 := { stood := { row := fnExactNumberOfUptoRow, standIns := [], harness := (true, "26352bfd1d5c9373d94759482df96dc116f983416f321dd2828438dcd5a0f81b"), looks := true }, kinds := [], alts := [], laidByText := true, laidKinds := [.data, .data, .data, .sentinel, .sentinel], laidTests := true, laidLooks := .later }
def FnExactNumberOfUptoCardSaid : Prop := Claim7.holds Tryd.pinned (.plain (OpenSpec.upto fnExactNumberOfSpec)) fnExactNumberOfUptoCard

/-- THE SECOND FORM's CARD OF 'laws.FnExactOrderFault'. -/
def fnExactOrderFaultUptoCard : Claim7 := { stood := { row := fnExactOrderFaultUptoRow, standIns := [], harness := (true, "26352bfd1d5c9373d94759482df96dc116f983416f321dd2828438dcd5a0f81b"), looks := true }, kinds := [], alts := [], laidByText := true, laidKinds := [.data, .pinned], laidTests := true, laidLooks := .later }
def FnExactOrderFaultUptoCardSaid : Prop := Claim7.holds Tryd.pinned (.plain (OpenSpec.upto fnExactOrderFaultSpec)) fnExactOrderFaultUptoCard

/-- THE SECOND FORM's CARD OF 'laws.FnExactTermFault'. -/
def fnExactTermFaultUptoCard : Claim7 := { stood := { row := fnExactTermFaultUptoRow, standIns := [], harness := (true, "26352bfd1d5c9373d94759482df96dc116f983416f321dd2828438dcd5a0f81b"), looks := true }, kinds := [], alts := [], laidByText := true, laidKinds := [.data, .pinned], laidTests := true, laidLooks := .later }
def FnExactTermFaultUptoCardSaid : Prop := Claim7.holds Tryd.pinned (.plain (OpenSpec.upto fnExactTermFaultSpec)) fnExactTermFaultUptoCard

/-- THE SECOND FORM's CARD OF 'laws.FnExactPackSignature'. -/
def fnExactPackSignatureUptoCard : Claim7 := { stood := { row := fnExactPackSignatureUptoRow, standIns := [], harness := (true, "26352bfd1d5c9373d94759482df96dc116f983416f321dd2828438dcd5a0f81b"), looks := true }, kinds := [], alts := [], laidByText := true, laidKinds := [.data, .pinned], laidTests := true, laidLooks := .later }
def FnExactPackSignatureUptoCardSaid : Prop := Claim7.holds Tryd.pinned (.plain (OpenSpec.upto fnExactPackSignatureSpec)) fnExactPackSignatureUptoCard

/-- THE SECOND FORM's CARD OF 'laws.FnExactIsGround'. -/
def fnExactIsGroundUptoCard : Claim7 := { stood := { row := fnExactIsGroundUptoRow, standIns := [], harness := (true, "26352bfd1d5c9373d94759482df96dc116f983416f321dd2828438dcd5a0f81b"), looks := true }, kinds := [], alts := [], laidByText := true, laidKinds := [.data, .pinned], laidTests := true, laidLooks := .later }
def FnExactIsGroundUptoCardSaid : Prop := Claim7.holds Tryd.pinned (.plain (OpenSpec.upto fnExactIsGroundSpec)) fnExactIsGroundUptoCard

/-- THE SECOND FORM's CARD OF 'laws.FnNumbers'. -/
def fnNumbersUptoCard : Claim7 := { stood := { row := fnNumbersUptoRow, standIns := [], harness := (true, "26352bfd1d5c9373d94759482df96dc116f983416f321dd2828438dcd5a0f81b"), looks := true }, kinds := [], alts := [], laidByText := true, laidKinds := [.data, .data, .data, .sentinel, .sentinel], laidTests := true, laidLooks := .later }
def FnNumbersUptoCardSaid : Prop := Claim7.holds Tryd.pinned (.plain (OpenSpec.upto fnNumbersSpec)) fnNumbersUptoCard

/-- THE SECOND FORM's CARD OF 'laws.FnExactRankOf'. -/
def fnExactRankOfUptoCard : Claim7 := { stood := { row := fnExactRankOfUptoRow, standIns := [], harness := (true, "26352bfd1d5c9373d94759482df96dc116f983416f321dd2828438dcd5a0f81b"), looks := true }, kinds := [], alts := [], laidByText := true, laidKinds := [.data, .pinned], laidTests := true, laidLooks := .later }
def FnExactRankOfUptoCardSaid : Prop := Claim7.holds Tryd.pinned (.plain (OpenSpec.upto fnExactRankOfSpec)) fnExactRankOfUptoCard

/-- THE SECOND FORM's CARD OF 'laws.FnExactSizeAt'. -/
def fnExactSizeAtUptoCard : Claim7 := { stood := { row := fnExactSizeAtUptoRow, standIns := [], harness := (true, "26352bfd1d5c9373d94759482df96dc116f983416f321dd2828438dcd5a0f81b"), looks := true }, kinds := [], alts := [], laidByText := true, laidKinds := [.data, .pinned], laidTests := true, laidLooks := .later }
def FnExactSizeAtUptoCardSaid : Prop := Claim7.holds Tryd.pinned (.plain (OpenSpec.upto fnExactSizeAtSpec)) fnExactSizeAtUptoCard
end Rows
end Go.Proofs.YtgkibebilegjlaaDoor
