/- A part of the proof of the law FnExactGreatestOf. -/
import Derived.Test.YtgichahebemmiaaDoorCards
import Derived.WalkKit
import Derived.ProofKit
import Derived.JoinedCond
namespace Go.Proofs.YtgichahebemmiaaDoor.fnExactGreatestOf
open Go.RowKit
set_option maxRecDepth 100000 in
theorem closed : joinedFacts Tryd.pinned.checked.prog 4 Tryd.f4 (OpenSpec.ofChange Rows.fnExactGreatestOfSpec).bare Rows.fnExactGreatestOfRow = true := by kernel_rfl
end Go.Proofs.YtgichahebemmiaaDoor.fnExactGreatestOf
