/- Closed facts of the row. -/
import Derived.Test.YtcjlmfdmfccmmaaGreatDoorRows
import Derived.JoinedOf
namespace Go.Proofs.YtcjlmfdmfccmmaaGreatDoor
open Go
set_option maxRecDepth 1000000
set_option maxHeartbeats 0
theorem wrongJ13 : ((Rows.consoleWrongRow.maps == (Tryz.f6.params.toList ++ Rows.consoleWrongSpec.plain.varTypes Tryz.pinned.checked.prog).any (Tryz.pinned.checked.prog.mapsRec ·))) = true := by kernel_rfl
theorem wrongJ14 : ((Rows.consoleWrongRow.ifaces == (Tryz.f6.params.toList ++ Rows.consoleWrongSpec.plain.varTypes Tryz.pinned.checked.prog).any (Tryz.pinned.checked.prog.ifacesRec ·))) = true := by kernel_rfl
theorem wrongJ15 : ((Rows.consoleWrongRow.mapsOut == Tryz.pinned.checked.prog.mapsAmong Tryz.f6.resultTypes.toList)) = true := by kernel_rfl
theorem wrongJ16 : ((Rows.consoleWrongRow.loops == (Tryz.f6.params.toList ++ Rows.consoleWrongSpec.plain.varTypes Tryz.pinned.checked.prog).any (Tryz.pinned.checked.prog.loopsFrom ·))) = true := by kernel_rfl
theorem wrongJ17 : ((Rows.consoleWrongRow.wideKeys == (Tryz.f6.params.toList ++ Rows.consoleWrongSpec.plain.varTypes Tryz.pinned.checked.prog ++ Tryz.f6.resultTypes.toList).any (Tryz.pinned.checked.prog.wideKeysFrom ·))) = true := by kernel_rfl
theorem wrongJ18 : (Rows.consoleWrongSpec.vars.all (Tryz.pinned.checked.prog.varReadable ·)) = true := by kernel_rfl
theorem wrongJ19 : (Tryz.f6.resultTypes.all (fun t => Tryz.pinned.checked.prog.readableRec t && decide (t < Tryz.pinned.checked.prog.types.size))) = true := by kernel_rfl
theorem wrongJ20 : ((Rows.consoleWrongRow.ifacesOut == Tryz.f6.resultTypes.toList.any (Tryz.pinned.checked.prog.ifacesRec ·))) = true := by kernel_rfl
theorem wrongJ21 : ((Rows.consoleWrongRow.loopsOut == Tryz.f6.resultTypes.toList.any (Tryz.pinned.checked.prog.loopsFrom ·))) = true := by kernel_rfl
theorem wrongJ22 : ((Rows.consoleWrongRow.plainKeys == Tryz.pinned.checked.prog.plainKeys)) = true := by kernel_rfl
theorem wrongJ23 : (Rows.consoleWrongRow.shortTexts.isNone) = true := by kernel_rfl
theorem wrongJ24 : (Tryz.pinned.checked.prog.stopsHeard) = true := by kernel_rfl
end Go.Proofs.YtcjlmfdmfccmmaaGreatDoor
