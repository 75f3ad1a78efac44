/- A part of the proof of the law FnExactEquationFault. -/
import Derived.Test.YtedkbpbodkmhlaaDoorCards
import Derived.WalkKit
import Derived.ProofKit
import Derived.JoinedCond
namespace Go.Proofs.YtedkbpbodkmhlaaDoor.fnExactEquationFault
open Go.RowKit
set_option maxRecDepth 100000 in
theorem closed : joinedFacts Tryd.pinned.checked.prog 13 Tryd.f13 (OpenSpec.ofChange Rows.fnExactEquationFaultSpec).bare Rows.fnExactEquationFaultRow = true := by kernel_rfl
end Go.Proofs.YtedkbpbodkmhlaaDoor.fnExactEquationFault
