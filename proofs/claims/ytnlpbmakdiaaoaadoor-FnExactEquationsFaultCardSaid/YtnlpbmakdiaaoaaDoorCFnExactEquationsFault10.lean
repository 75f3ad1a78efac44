/- A part of the proof of the law FnExactEquationsFault: words, functions of the program with what each call answers, plain lemmas; conditions stand in each statement. -/
import Derived.Test.YtnlpbmakdiaaoaaDoorCards
import Derived.WalkKit
import Derived.ProofKit
import Derived.JoinedCond
namespace Go.Proofs.YtnlpbmakdiaaoaaDoor.fnExactEquationsFault
open Go.RowKit
set_option maxRecDepth 100000 in
theorem closed : joinedFacts Tryd.pinned.checked.prog 6 Tryd.f6 (OpenSpec.ofChange Rows.fnExactEquationsFaultSpec).bare Rows.fnExactEquationsFaultRow = true := by kernel_rfl
end Go.Proofs.YtnlpbmakdiaaoaaDoor.fnExactEquationsFault
