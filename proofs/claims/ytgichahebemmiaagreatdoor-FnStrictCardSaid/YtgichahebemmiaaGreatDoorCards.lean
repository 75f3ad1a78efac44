/-
  DERIVED. GIVEN WITH THE SEED: THE CARDS: each row of YtgichahebemmiaaGreatDoorRows.lean that lists a variable, with what it lists TIED to the program's text (the seventh form; the later family's looks); each row that meets fmt, with fmt's text TOLD by the authors' own Lean function (tested against real Go, not proved from fmt's source: count such statements apart). THE CARD IS WHAT COUNTS. Prove the row's statement (the work); the ties are given (YtgichahebemmiaaGreatDoorTie.lean); close each card by the builder's one call (the guide's Derived/Test/ToyasCard.lean, 'card_holds'). Laid BY PROGRAM, IN A SANDBOX (cutbox-door.mjs). By AI agents, Wed Nov 11 2026. No macro, syntax, notation, axiom, sorry.
-/
import Derived.Test.YtgichahebemmiaaGreatDoorRows
import GoSem.ClaimSeven
namespace Go.Proofs.YtgichahebemmiaaGreatDoor
namespace Rows

/-- THE TIED CARD OF 'laws.FnExactOrientEquation'. -/
def fnExactOrientEquationCard : Claim7 := { stood := { row := fnExactOrientEquationRow, standIns := [], harness := (true, "a0b19b07cfb124703c1f6df4eb7afca8820616fc98524169336cbc1d16ecfc6c"), looks := false }, kinds := [], alts := [], laidByText := true, laidKinds := [.data, .pinned], laidTests := true, laidLooks := .later }
def FnExactOrientEquationCardSaid : Prop := Claim7.holds Tryz.pinned (.plain (OpenSpec.ofChange fnExactOrientEquationSpec)) fnExactOrientEquationCard

/-- THE TIED CARD OF 'laws.FnStrict'. -/
def fnStrictCard : Claim7 := { stood := { row := fnStrictRow, standIns := [], harness := (true, "a0b19b07cfb124703c1f6df4eb7afca8820616fc98524169336cbc1d16ecfc6c"), looks := false }, kinds := [], alts := [], laidByText := true, laidKinds := [.data, .pinned], laidTests := true, laidLooks := .later }
def FnStrictCardSaid : Prop := Claim7.holds Tryz.pinned (.plain (OpenSpec.ofChange fnStrictSpec)) fnStrictCard

/-- THE SECOND FORM's CARD OF 'laws.FnExactOrientEquation'. -/
def fnExactOrientEquationUptoCard : Claim7 := { stood := { row := fnExactOrientEquationUptoRow, standIns := [], harness := (true, "a0b19b07cfb124703c1f6df4eb7afca8820616fc98524169336cbc1d16ecfc6c"), looks := false }, kinds := [], alts := [], laidByText := true, laidKinds := [.data, .pinned], laidTests := true, laidLooks := .later }
def FnExactOrientEquationUptoCardSaid : Prop := Claim7.holds Tryz.pinned (.plain (OpenSpec.upto fnExactOrientEquationSpec)) fnExactOrientEquationUptoCard

/-- THE SECOND FORM's CARD OF 'laws.FnStrict'. -/
def fnStrictUptoCard : Claim7 := { stood := { row := fnStrictUptoRow, standIns := [], harness := (true, "a0b19b07cfb124703c1f6df4eb7afca8820616fc98524169336cbc1d16ecfc6c"), looks := false }, kinds := [], alts := [], laidByText := true, laidKinds := [.data, .pinned], laidTests := true, laidLooks := .later }
def FnStrictUptoCardSaid : Prop := Claim7.holds Tryz.pinned (.plain (OpenSpec.upto fnStrictSpec)) fnStrictUptoCard
end Rows
end Go.Proofs.YtgichahebemmiaaGreatDoor
