/- A part of the proof of the law FnStrict. -/
import Derived.Test.YtgichahebemmiaaGreatDoorCards
import Derived.WalkKit
import Derived.ProofKit
import Derived.JoinedCond
namespace Go.Proofs.YtgichahebemmiaaGreatDoor.fnStrict
open Go.RowKit
set_option maxRecDepth 100000 in
theorem closed : joinedFacts Tryz.pinned.checked.prog 4 Tryz.f4 (OpenSpec.ofChange Rows.fnStrictSpec).bare Rows.fnStrictRow = true := by kernel_rfl
end Go.Proofs.YtgichahebemmiaaGreatDoor.fnStrict
