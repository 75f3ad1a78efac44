/- A part of the proof of the law FnExactNumberOf: words, functions of the program with what each call answers, plain lemmas; conditions stand in each statement. -/
import Derived.Test.YtedkbpbodkmhlaaDoorCards
import Derived.WalkKit
import Derived.ProofKit
import Derived.JoinedCond
namespace Go.Proofs.YtedkbpbodkmhlaaDoor.fnExactNumberOf
open Go.RowKit
set_option maxRecDepth 100000 in
theorem closed : joinedFacts Tryd.pinned.checked.prog 4 Tryd.f4 (OpenSpec.ofChange Rows.fnExactNumberOfSpec).bare Rows.fnExactNumberOfRow = true := by kernel_rfl
end Go.Proofs.YtedkbpbodkmhlaaDoor.fnExactNumberOf
