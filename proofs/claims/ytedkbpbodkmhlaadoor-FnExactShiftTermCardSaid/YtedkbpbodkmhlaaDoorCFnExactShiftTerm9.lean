/- A part of the proof of the law FnExactShiftTerm: words, functions of the program with what each call answers, plain lemmas; conditions stand in each statement. -/
import Derived.Test.YtedkbpbodkmhlaaDoorCards
import Derived.WalkKit
import Derived.ProofKit
import Derived.JoinedCond
namespace Go.Proofs.YtedkbpbodkmhlaaDoor.fnExactShiftTerm
open Go.RowKit
set_option maxRecDepth 100000 in
theorem closed : joinedFacts Tryd.pinned.checked.prog 9 Tryd.f9 (OpenSpec.ofChange Rows.fnExactShiftTermSpec).bare Rows.fnExactShiftTermRow = true := by kernel_rfl
end Go.Proofs.YtedkbpbodkmhlaaDoor.fnExactShiftTerm
