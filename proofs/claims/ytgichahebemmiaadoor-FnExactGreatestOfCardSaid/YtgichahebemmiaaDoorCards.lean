/-
  DERIVED. GIVEN WITH THE SEED: THE CARDS: each row of YtgichahebemmiaaDoorRows.lean that lists a variable, with what it lists TIED to the program's text (the seventh form; the later family's looks); each row that meets fmt, with fmt's text TOLD by the authors' own Lean function (tested against real Go, not proved from fmt's source: count such statements apart). THE CARD IS WHAT COUNTS. Prove the row's statement (the work); the ties are given (YtgichahebemmiaaDoorTie.lean); close each card by the builder's one call (the guide's Derived/Test/ToyasCard.lean, 'card_holds'). Laid BY PROGRAM, IN A SANDBOX (cutbox-door.mjs). By AI agents, Wed Nov 11 2026. No macro, syntax, notation, axiom, sorry.
-/
import Derived.Test.YtgichahebemmiaaDoorRows
import GoSem.ClaimSeven
namespace Go.Proofs.YtgichahebemmiaaDoor
namespace Rows

/-- THE TIED CARD OF 'laws.FnExactCompareTerms'. -/
def fnExactCompareTermsCard : Claim7 := { stood := { row := fnExactCompareTermsRow, standIns := [], harness := (true, "a10e62910657526ee1b24ec26216542546971dd8c1d2fa353ae6836256367804"), looks := false }, kinds := [], alts := [], laidByText := true, laidKinds := [.data, .pinned], laidTests := true, laidLooks := .later }
def FnExactCompareTermsCardSaid : Prop := Claim7.holds Tryd.pinned (.plain (OpenSpec.ofChange fnExactCompareTermsSpec)) fnExactCompareTermsCard

/-- THE TIED CARD OF 'laws.FnExactGreatestOf'. -/
def fnExactGreatestOfCard : Claim7 := { stood := { row := fnExactGreatestOfRow, standIns := [], harness := (true, "a10e62910657526ee1b24ec26216542546971dd8c1d2fa353ae6836256367804"), looks := false }, kinds := [], alts := [], laidByText := true, laidKinds := [.data, .pinned], laidTests := true, laidLooks := .later }
def FnExactGreatestOfCardSaid : Prop := Claim7.holds Tryd.pinned (.plain (OpenSpec.ofChange fnExactGreatestOfSpec)) fnExactGreatestOfCard

/-- THE SECOND FORM's CARD OF 'laws.FnExactCompareTerms'. -/
def fnExactCompareTermsUptoCard : Claim7 := { stood := { row := fnExactCompareTermsUptoRow, standIns := [], harness := (true, "a10e62910657526ee1b24ec26216542546971dd8c1d2fa353ae6836256367804"), looks := false }, kinds := [], alts := [], laidByText := true, laidKinds := [.data, .pinned], laidTests := true, laidLooks := .later }
def FnExactCompareTermsUptoCardSaid : Prop := Claim7.holds Tryd.pinned (.plain (OpenSpec.upto fnExactCompareTermsSpec)) fnExactCompareTermsUptoCard

/-- THE SECOND FORM's CARD OF 'laws.FnExactGreatestOf'. -/
def fnExactGreatestOfUptoCard : Claim7 := { stood := { row := fnExactGreatestOfUptoRow, standIns := [], harness := (true, "a10e62910657526ee1b24ec26216542546971dd8c1d2fa353ae6836256367804"), looks := false }, kinds := [], alts := [], laidByText := true, laidKinds := [.data, .pinned], laidTests := true, laidLooks := .later }
def FnExactGreatestOfUptoCardSaid : Prop := Claim7.holds Tryd.pinned (.plain (OpenSpec.upto fnExactGreatestOfSpec)) fnExactGreatestOfUptoCard
end Rows
end Go.Proofs.YtgichahebemmiaaDoor
