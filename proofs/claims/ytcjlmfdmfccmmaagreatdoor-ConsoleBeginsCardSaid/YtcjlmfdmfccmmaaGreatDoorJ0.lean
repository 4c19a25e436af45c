/- Closed facts of the row. -/
import Derived.Test.YtcjlmfdmfccmmaaGreatDoorRows
import Derived.JoinedOf
namespace Go.Proofs.YtcjlmfdmfccmmaaGreatDoor
open Go
set_option maxRecDepth 1000000
set_option maxHeartbeats 0
theorem beginsJ0 : (Rows.consoleBeginsRow.wf (OpenSpec.ofChange Rows.consoleBeginsSpec)) = true := by kernel_rfl
theorem beginsJ1 : (laidOutB Tryz.pinned.checked.prog) = true := by kernel_rfl
theorem beginsJ2 : (mapsRowed Tryz.pinned.checked.prog) = true := by kernel_rfl
theorem beginsJ3 : (Tryz.f3.params.all (Tryz.pinned.checked.prog.readableRec ·)) = true := by kernel_rfl
theorem beginsJ4 : (namedTie Tryz.pinned.checked.prog Rows.consoleBeginsRow.named Rows.consoleBeginsSpec.vars) = true := by kernel_rfl
theorem beginsJ5 : ((Rows.consoleBeginsRow.stops == [])) = true := by kernel_rfl
theorem beginsJ6 : ((Tryz.pinned.checked.prog.stops == [])) = true := by kernel_rfl
theorem beginsJ7 : ((Rows.consoleBeginsRow.knobs == [])) = true := by kernel_rfl
theorem beginsJ8 : ((Tryz.pinned.checked.prog.stopKnobs == [])) = true := by kernel_rfl
end Go.Proofs.YtcjlmfdmfccmmaaGreatDoor
