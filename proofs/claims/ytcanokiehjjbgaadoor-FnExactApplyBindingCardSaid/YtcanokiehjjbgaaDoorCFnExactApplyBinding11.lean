/- A part of the proof of the law FnExactApplyBinding. -/
import Derived.Test.YtcanokiehjjbgaaDoorCards
import Derived.WalkKit
import Derived.ProofKit
import Derived.JoinedCond
namespace Go.Proofs.YtcanokiehjjbgaaDoor.fnExactApplyBinding
open Go.RowKit
set_option maxRecDepth 100000 in
theorem closed : joinedFacts Tryd.pinned.checked.prog 5 Tryd.f5 (OpenSpec.ofChange Rows.fnExactApplyBindingSpec).bare Rows.fnExactApplyBindingRow = true := by kernel_rfl
end Go.Proofs.YtcanokiehjjbgaaDoor.fnExactApplyBinding
