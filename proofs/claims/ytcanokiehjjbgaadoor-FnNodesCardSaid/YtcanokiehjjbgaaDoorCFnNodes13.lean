/- A part of the proof of the law FnNodes. -/
import Derived.Test.YtcanokiehjjbgaaDoorCards
import Derived.WalkKit
import Derived.ProofKit
import Derived.JoinedCond
namespace Go.Proofs.YtcanokiehjjbgaaDoor.fnNodes
open Go.RowKit
set_option maxRecDepth 100000 in
theorem closed : joinedFacts Tryd.pinned.checked.prog 3 Tryd.f3 (OpenSpec.ofChange Rows.fnNodesSpec).bare Rows.fnNodesRow = true := by kernel_rfl
end Go.Proofs.YtcanokiehjjbgaaDoor.fnNodes
