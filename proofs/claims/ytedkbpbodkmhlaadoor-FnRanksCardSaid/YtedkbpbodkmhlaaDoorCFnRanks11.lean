/- A part of the proof of the law FnRanks. -/
import Derived.Test.YtedkbpbodkmhlaaDoorCards
import Derived.WalkKit
import Derived.ProofKit
import Derived.JoinedCond
namespace Go.Proofs.YtedkbpbodkmhlaaDoor.fnRanks
open Go.RowKit
set_option maxRecDepth 100000 in
theorem closed : joinedFacts Tryd.pinned.checked.prog 7 Tryd.f7 (OpenSpec.ofChange Rows.fnRanksSpec).bare Rows.fnRanksRow = true := by kernel_rfl
end Go.Proofs.YtedkbpbodkmhlaaDoor.fnRanks
