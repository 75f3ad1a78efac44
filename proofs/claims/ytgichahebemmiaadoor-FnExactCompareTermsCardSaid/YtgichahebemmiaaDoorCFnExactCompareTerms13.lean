/- A part of the proof of the law FnExactCompareTerms. -/
import Derived.Test.YtgichahebemmiaaDoorCards
import Derived.WalkKit
import Derived.ProofKit
import Derived.JoinedCond
namespace Go.Proofs.YtgichahebemmiaaDoor.fnExactCompareTerms
open Go.RowKit
set_option maxRecDepth 100000 in
theorem closed : joinedFacts Tryd.pinned.checked.prog 3 Tryd.f3 (OpenSpec.ofChange Rows.fnExactCompareTermsSpec).bare Rows.fnExactCompareTermsRow = true := by kernel_rfl
end Go.Proofs.YtgichahebemmiaaDoor.fnExactCompareTerms
