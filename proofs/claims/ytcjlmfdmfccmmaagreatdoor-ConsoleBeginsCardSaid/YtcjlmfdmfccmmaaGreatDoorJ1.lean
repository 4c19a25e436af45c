/- Closed facts of the row. -/
import Derived.Test.YtcjlmfdmfccmmaaGreatDoorRows
import Derived.JoinedOf
namespace Go.Proofs.YtcjlmfdmfccmmaaGreatDoor
open Go
set_option maxRecDepth 1000000
set_option maxHeartbeats 0
theorem beginsJ9 : ((Rows.consoleBeginsRow.inPlace == Tryz.pinned.checked.prog.inPlace 3)) = true := by kernel_rfl
theorem beginsJ10 : ((Rows.consoleBeginsRow.unfollowed == Tryz.pinned.checked.prog.unfollowed 3)) = true := by kernel_rfl
end Go.Proofs.YtcjlmfdmfccmmaaGreatDoor
