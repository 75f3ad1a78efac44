/- A part of the proof of the law FnReplaces. -/
import Derived.Test.YtedkbpbodkmhlaaDoorCards
import Derived.WalkKit
import Derived.ProofKit
import Derived.JoinedCond
namespace Go.Proofs.YtedkbpbodkmhlaaDoor.fnReplaces
open Go.RowKit
set_option maxRecDepth 100000 in
theorem closed : joinedFacts Tryd.pinned.checked.prog 11 Tryd.f11 (OpenSpec.ofChange Rows.fnReplacesSpec).bare Rows.fnReplacesRow = true := by kernel_rfl
end Go.Proofs.YtedkbpbodkmhlaaDoor.fnReplaces
