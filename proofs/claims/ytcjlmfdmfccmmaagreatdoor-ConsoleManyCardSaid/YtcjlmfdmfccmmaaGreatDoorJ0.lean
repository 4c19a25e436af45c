/- Closed facts of the row. -/
import Derived.Test.YtcjlmfdmfccmmaaGreatDoorRows
import Derived.JoinedOf
namespace Go.Proofs.YtcjlmfdmfccmmaaGreatDoor
open Go
set_option maxRecDepth 1000000
set_option maxHeartbeats 0
theorem manyJ0 : (Rows.consoleManyRow.wf (OpenSpec.ofChange Rows.consoleManySpec)) = true := by kernel_rfl
theorem manyJ1 : (laidOutB Tryz.pinned.checked.prog) = true := by kernel_rfl
theorem manyJ2 : (mapsRowed Tryz.pinned.checked.prog) = true := by kernel_rfl
theorem manyJ3 : (Tryz.f7.params.all (Tryz.pinned.checked.prog.readableRec ·)) = true := by kernel_rfl
theorem manyJ4 : (namedTie Tryz.pinned.checked.prog Rows.consoleManyRow.named Rows.consoleManySpec.vars) = true := by kernel_rfl
theorem manyJ5 : ((Rows.consoleManyRow.stops == [])) = true := by kernel_rfl
theorem manyJ6 : ((Tryz.pinned.checked.prog.stops == [])) = true := by kernel_rfl
theorem manyJ7 : ((Rows.consoleManyRow.knobs == [])) = true := by kernel_rfl
theorem manyJ8 : ((Tryz.pinned.checked.prog.stopKnobs == [])) = true := by kernel_rfl
end Go.Proofs.YtcjlmfdmfccmmaaGreatDoor
