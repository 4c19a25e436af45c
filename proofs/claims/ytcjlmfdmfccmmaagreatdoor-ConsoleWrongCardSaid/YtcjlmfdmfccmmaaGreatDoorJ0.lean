/- Closed facts of the row. -/
import Derived.Test.YtcjlmfdmfccmmaaGreatDoorRows
import Derived.JoinedOf
namespace Go.Proofs.YtcjlmfdmfccmmaaGreatDoor
open Go
set_option maxRecDepth 1000000
set_option maxHeartbeats 0
theorem wrongJ0 : (Rows.consoleWrongRow.wf (OpenSpec.ofChange Rows.consoleWrongSpec)) = true := by kernel_rfl
theorem wrongJ1 : (laidOutB Tryz.pinned.checked.prog) = true := by kernel_rfl
theorem wrongJ2 : (mapsRowed Tryz.pinned.checked.prog) = true := by kernel_rfl
theorem wrongJ3 : (Tryz.f6.params.all (Tryz.pinned.checked.prog.readableRec ·)) = true := by kernel_rfl
theorem wrongJ4 : (namedTie Tryz.pinned.checked.prog Rows.consoleWrongRow.named Rows.consoleWrongSpec.vars) = true := by kernel_rfl
theorem wrongJ5 : ((Rows.consoleWrongRow.stops == [])) = true := by kernel_rfl
theorem wrongJ6 : ((Tryz.pinned.checked.prog.stops == [])) = true := by kernel_rfl
theorem wrongJ7 : ((Rows.consoleWrongRow.knobs == [])) = true := by kernel_rfl
theorem wrongJ8 : ((Tryz.pinned.checked.prog.stopKnobs == [])) = true := by kernel_rfl
end Go.Proofs.YtcjlmfdmfccmmaaGreatDoor
