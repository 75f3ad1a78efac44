/- A part of the proof of the law FnExactReadTerm: words, functions of the program with what each call answers, plain lemmas; conditions stand in each statement. -/
import Derived.Test.YtnlpbmakdiaaoaaDoorCards
import Derived.WalkKit
import Derived.ProofKit
import Derived.JoinedCond
namespace Go.Proofs.YtnlpbmakdiaaoaaDoor.fnExactReadTerm
open Go.RowKit
set_option maxRecDepth 100000 in
theorem closed : joinedFacts Tryd.pinned.checked.prog 5 Tryd.f5 (OpenSpec.ofChange Rows.fnExactReadTermSpec).bare Rows.fnExactReadTermRow = true := by kernel_rfl
end Go.Proofs.YtnlpbmakdiaaoaaDoor.fnExactReadTerm
