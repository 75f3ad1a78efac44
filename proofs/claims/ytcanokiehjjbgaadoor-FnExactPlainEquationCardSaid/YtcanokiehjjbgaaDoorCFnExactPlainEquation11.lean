/- A part of the proof of the law FnExactPlainEquation. -/
import Derived.Test.YtcanokiehjjbgaaDoorCards
import Derived.WalkKit
import Derived.ProofKit
import Derived.JoinedCond
namespace Go.Proofs.YtcanokiehjjbgaaDoor.fnExactPlainEquation
open Go.RowKit
set_option maxRecDepth 100000 in
theorem closed : joinedFacts Tryd.pinned.checked.prog 4 Tryd.f4 (OpenSpec.ofChange Rows.fnExactPlainEquationSpec).bare Rows.fnExactPlainEquationRow = true := by kernel_rfl
end Go.Proofs.YtcanokiehjjbgaaDoor.fnExactPlainEquation
