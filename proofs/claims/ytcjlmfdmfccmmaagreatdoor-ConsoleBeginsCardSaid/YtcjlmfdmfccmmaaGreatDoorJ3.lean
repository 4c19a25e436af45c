/- Closed facts of the row. -/
import Derived.Test.YtcjlmfdmfccmmaaGreatDoorRows
import Derived.JoinedOf
namespace Go.Proofs.YtcjlmfdmfccmmaaGreatDoor
open Go
set_option maxRecDepth 1000000
set_option maxHeartbeats 0
theorem beginsJ13 : ((Rows.consoleBeginsRow.maps == (Tryz.f3.params.toList ++ Rows.consoleBeginsSpec.plain.varTypes Tryz.pinned.checked.prog).any (Tryz.pinned.checked.prog.mapsRec ·))) = true := by kernel_rfl
theorem beginsJ14 : ((Rows.consoleBeginsRow.ifaces == (Tryz.f3.params.toList ++ Rows.consoleBeginsSpec.plain.varTypes Tryz.pinned.checked.prog).any (Tryz.pinned.checked.prog.ifacesRec ·))) = true := by kernel_rfl
theorem beginsJ15 : ((Rows.consoleBeginsRow.mapsOut == Tryz.pinned.checked.prog.mapsAmong Tryz.f3.resultTypes.toList)) = true := by kernel_rfl
theorem beginsJ16 : ((Rows.consoleBeginsRow.loops == (Tryz.f3.params.toList ++ Rows.consoleBeginsSpec.plain.varTypes Tryz.pinned.checked.prog).any (Tryz.pinned.checked.prog.loopsFrom ·))) = true := by kernel_rfl
theorem beginsJ17 : ((Rows.consoleBeginsRow.wideKeys == (Tryz.f3.params.toList ++ Rows.consoleBeginsSpec.plain.varTypes Tryz.pinned.checked.prog ++ Tryz.f3.resultTypes.toList).any (Tryz.pinned.checked.prog.wideKeysFrom ·))) = true := by kernel_rfl
theorem beginsJ18 : (Rows.consoleBeginsSpec.vars.all (Tryz.pinned.checked.prog.varReadable ·)) = true := by kernel_rfl
theorem beginsJ19 : (Tryz.f3.resultTypes.all (fun t => Tryz.pinned.checked.prog.readableRec t && decide (t < Tryz.pinned.checked.prog.types.size))) = true := by kernel_rfl
theorem beginsJ20 : ((Rows.consoleBeginsRow.ifacesOut == Tryz.f3.resultTypes.toList.any (Tryz.pinned.checked.prog.ifacesRec ·))) = true := by kernel_rfl
theorem beginsJ21 : ((Rows.consoleBeginsRow.loopsOut == Tryz.f3.resultTypes.toList.any (Tryz.pinned.checked.prog.loopsFrom ·))) = true := by kernel_rfl
theorem beginsJ22 : ((Rows.consoleBeginsRow.plainKeys == Tryz.pinned.checked.prog.plainKeys)) = true := by kernel_rfl
theorem beginsJ23 : (Rows.consoleBeginsRow.shortTexts.isNone) = true := by kernel_rfl
theorem beginsJ24 : (Tryz.pinned.checked.prog.stopsHeard) = true := by kernel_rfl
end Go.Proofs.YtcjlmfdmfccmmaaGreatDoor
