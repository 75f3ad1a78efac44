/- A part of the proof of the law FnExactEquationText. -/
import Derived.Test.YtnlpbmakdiaaoaaGreatDoorCards
import Derived.WalkKit
import Derived.ProofKit
import Derived.JoinedCond
namespace Go.Proofs.YtnlpbmakdiaaoaaGreatDoor.fnExactEquationText
open Go.RowKit
set_option maxRecDepth 100000 in
theorem closed : joinedFacts Tryz.pinned.checked.prog 5 Tryz.f5 (OpenSpec.ofChange Rows.fnExactEquationTextSpec).bare Rows.fnExactEquationTextRow = true := by kernel_rfl
end Go.Proofs.YtnlpbmakdiaaoaaGreatDoor.fnExactEquationText
