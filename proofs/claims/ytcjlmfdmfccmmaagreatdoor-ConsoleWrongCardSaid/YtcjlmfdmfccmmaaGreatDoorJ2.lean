/- Closed facts of the row. -/
import Derived.Test.YtcjlmfdmfccmmaaGreatDoorRows
import Derived.JoinedOf
namespace Go.Proofs.YtcjlmfdmfccmmaaGreatDoor
open Go
set_option maxRecDepth 1000000
set_option maxHeartbeats 0
theorem wrongJ11 : ((Rows.consoleWrongRow.recurses == Tryz.pinned.checked.prog.recurses 6)) = true := by kernel_rfl
theorem wrongJ12 : ((Rows.consoleWrongRow.named == Tryz.pinned.checked.prog.varsNamed 6)) = true := by kernel_rfl
end Go.Proofs.YtcjlmfdmfccmmaaGreatDoor
