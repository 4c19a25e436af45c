/- Closed facts of the row. -/
import Derived.Test.YtcjlmfdmfccmmaaGreatDoorRows
import Derived.JoinedOf
namespace Go.Proofs.YtcjlmfdmfccmmaaGreatDoor
open Go
set_option maxRecDepth 1000000
set_option maxHeartbeats 0
theorem manyJ11 : ((Rows.consoleManyRow.recurses == Tryz.pinned.checked.prog.recurses 7)) = true := by kernel_rfl
theorem manyJ12 : ((Rows.consoleManyRow.named == Tryz.pinned.checked.prog.varsNamed 7)) = true := by kernel_rfl
end Go.Proofs.YtcjlmfdmfccmmaaGreatDoor
