/- A part of the proof of the law FnExactOrientEquation. -/
import Derived.Test.YtgichahebemmiaaGreatDoorCards
import Derived.WalkKit
import Derived.ProofKit
import Derived.JoinedCond
namespace Go.Proofs.YtgichahebemmiaaGreatDoor.fnExactOrientEquation
open Go.RowKit
set_option maxRecDepth 100000 in
theorem closed : joinedFacts Tryz.pinned.checked.prog 3 Tryz.f3 (OpenSpec.ofChange Rows.fnExactOrientEquationSpec).bare Rows.fnExactOrientEquationRow = true := by kernel_rfl
end Go.Proofs.YtgichahebemmiaaGreatDoor.fnExactOrientEquation
