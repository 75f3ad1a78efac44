/- A part of the proof of the law FnExactPackEquations. -/
import Derived.Test.YtcanokiehjjbgaaGreatDoorCards
import Derived.WalkKit
import Derived.ProofKit
import Derived.JoinedCond
namespace Go.Proofs.YtcanokiehjjbgaaGreatDoor.fnExactPackEquations
open Go.RowKit
set_option maxRecDepth 100000 in
theorem closed : joinedFacts Tryz.pinned.checked.prog 3 Tryz.f3 (OpenSpec.ofChange Rows.fnExactPackEquationsSpec).bare Rows.fnExactPackEquationsRow = true := by kernel_rfl
end Go.Proofs.YtcanokiehjjbgaaGreatDoor.fnExactPackEquations
