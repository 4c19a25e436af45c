/- Closed facts of the row. -/
import Derived.Test.YtcjlmfdmfccmmaaGreatDoorRows
import Derived.JoinedOf
namespace Go.Proofs.YtcjlmfdmfccmmaaGreatDoor
open Go
set_option maxRecDepth 1000000
set_option maxHeartbeats 0
theorem blanksJ0 : (Rows.consoleBlanksRow.wf (OpenSpec.ofChange Rows.consoleBlanksSpec)) = true := by kernel_rfl
theorem blanksJ1 : (laidOutB Tryz.pinned.checked.prog) = true := by kernel_rfl
theorem blanksJ2 : (mapsRowed Tryz.pinned.checked.prog) = true := by kernel_rfl
theorem blanksJ3 : (Tryz.f4.params.all (Tryz.pinned.checked.prog.readableRec ·)) = true := by kernel_rfl
theorem blanksJ4 : (namedTie Tryz.pinned.checked.prog Rows.consoleBlanksRow.named Rows.consoleBlanksSpec.vars) = true := by kernel_rfl
theorem blanksJ5 : ((Rows.consoleBlanksRow.stops == [])) = true := by kernel_rfl
theorem blanksJ6 : ((Tryz.pinned.checked.prog.stops == [])) = true := by kernel_rfl
theorem blanksJ7 : ((Rows.consoleBlanksRow.knobs == [])) = true := by kernel_rfl
theorem blanksJ8 : ((Tryz.pinned.checked.prog.stopKnobs == [])) = true := by kernel_rfl
end Go.Proofs.YtcjlmfdmfccmmaaGreatDoor
