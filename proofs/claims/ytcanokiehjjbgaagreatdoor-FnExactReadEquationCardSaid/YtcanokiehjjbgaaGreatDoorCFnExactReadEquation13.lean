/- A part of the proof of the law FnExactReadEquation. -/
import Derived.Test.YtcanokiehjjbgaaGreatDoorCards
import Derived.WalkKit
import Derived.ProofKit
import Derived.JoinedCond
namespace Go.Proofs.YtcanokiehjjbgaaGreatDoor.fnExactReadEquation
open Go.RowKit
set_option maxRecDepth 100000 in
theorem closed : joinedFacts Tryz.pinned.checked.prog 4 Tryz.f4 (OpenSpec.ofChange Rows.fnExactReadEquationSpec).bare Rows.fnExactReadEquationRow = true := by kernel_rfl
end Go.Proofs.YtcanokiehjjbgaaGreatDoor.fnExactReadEquation
