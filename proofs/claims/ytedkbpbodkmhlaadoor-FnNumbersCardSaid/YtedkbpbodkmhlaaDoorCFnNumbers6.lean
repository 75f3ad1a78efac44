/- A part of the proof of the law FnNumbers: words, functions of the program with what each call answers, plain lemmas; conditions stand in each statement. -/
import Derived.Test.YtedkbpbodkmhlaaDoorCards
import Derived.WalkKit
import Derived.ProofKit
import Derived.JoinedCond
namespace Go.Proofs.YtedkbpbodkmhlaaDoor.fnNumbers
open Go.RowKit
set_option maxRecDepth 100000 in
theorem closed : joinedFacts Tryd.pinned.checked.prog 6 Tryd.f6 (OpenSpec.ofChange Rows.fnNumbersSpec).bare Rows.fnNumbersRow = true := by kernel_rfl
end Go.Proofs.YtedkbpbodkmhlaaDoor.fnNumbers
