/- A part of the proof of the law FnTexts. -/
import Derived.Test.YtbdpnkpienpnaaaGreatDoorCards
import Derived.WalkKit
import Derived.ProofKit
import Derived.JoinedCond
namespace Go.Proofs.YtbdpnkpienpnaaaGreatDoor.fnTexts
open Go.RowKit
set_option maxRecDepth 100000 in
theorem closed : joinedFacts Tryz.pinned.checked.prog 4 Tryz.f4 (OpenSpec.ofChange Rows.fnTextsSpec).bare Rows.fnTextsRow = true := by kernel_rfl
end Go.Proofs.YtbdpnkpienpnaaaGreatDoor.fnTexts
