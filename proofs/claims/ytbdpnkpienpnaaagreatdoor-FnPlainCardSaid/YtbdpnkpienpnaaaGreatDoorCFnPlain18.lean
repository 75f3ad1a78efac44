/- A part of the proof of the law FnPlain. -/
import Derived.Test.YtbdpnkpienpnaaaGreatDoorCards
import Derived.WalkKit
import Derived.ProofKit
import Derived.JoinedCond
namespace Go.Proofs.YtbdpnkpienpnaaaGreatDoor.fnPlain
open Go.RowKit
set_option maxRecDepth 100000 in
theorem closed : joinedFacts Tryz.pinned.checked.prog 3 Tryz.f3 (OpenSpec.ofChange Rows.fnPlainSpec).bare Rows.fnPlainRow = true := by kernel_rfl
end Go.Proofs.YtbdpnkpienpnaaaGreatDoor.fnPlain
