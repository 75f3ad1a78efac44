/- A part of the proof of the law FnExactVarsOf. -/
import Derived.Test.YtedkbpbodkmhlaaDoorCards
import Derived.WalkKit
import Derived.ProofKit
import Derived.JoinedCond
namespace Go.Proofs.YtedkbpbodkmhlaaDoor.fnExactVarsOf
open Go.RowKit
set_option maxRecDepth 100000 in
theorem closed : joinedFacts Tryd.pinned.checked.prog 14 Tryd.f14 (OpenSpec.ofChange Rows.fnExactVarsOfSpec).bare Rows.fnExactVarsOfRow = true := by kernel_rfl
end Go.Proofs.YtedkbpbodkmhlaaDoor.fnExactVarsOf
