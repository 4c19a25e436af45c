/- Closed facts of the row. -/
import Derived.Test.YtcjlmfdmfccmmaaGreatDoorRows
import Derived.JoinedOf
namespace Go.Proofs.YtcjlmfdmfccmmaaGreatDoor
open Go
set_option maxRecDepth 1000000
set_option maxHeartbeats 0
theorem blanksJ13 : ((Rows.consoleBlanksRow.maps == (Tryz.f4.params.toList ++ Rows.consoleBlanksSpec.plain.varTypes Tryz.pinned.checked.prog).any (Tryz.pinned.checked.prog.mapsRec ·))) = true := by kernel_rfl
theorem blanksJ14 : ((Rows.consoleBlanksRow.ifaces == (Tryz.f4.params.toList ++ Rows.consoleBlanksSpec.plain.varTypes Tryz.pinned.checked.prog).any (Tryz.pinned.checked.prog.ifacesRec ·))) = true := by kernel_rfl
theorem blanksJ15 : ((Rows.consoleBlanksRow.mapsOut == Tryz.pinned.checked.prog.mapsAmong Tryz.f4.resultTypes.toList)) = true := by kernel_rfl
theorem blanksJ16 : ((Rows.consoleBlanksRow.loops == (Tryz.f4.params.toList ++ Rows.consoleBlanksSpec.plain.varTypes Tryz.pinned.checked.prog).any (Tryz.pinned.checked.prog.loopsFrom ·))) = true := by kernel_rfl
theorem blanksJ17 : ((Rows.consoleBlanksRow.wideKeys == (Tryz.f4.params.toList ++ Rows.consoleBlanksSpec.plain.varTypes Tryz.pinned.checked.prog ++ Tryz.f4.resultTypes.toList).any (Tryz.pinned.checked.prog.wideKeysFrom ·))) = true := by kernel_rfl
theorem blanksJ18 : (Rows.consoleBlanksSpec.vars.all (Tryz.pinned.checked.prog.varReadable ·)) = true := by kernel_rfl
theorem blanksJ19 : (Tryz.f4.resultTypes.all (fun t => Tryz.pinned.checked.prog.readableRec t && decide (t < Tryz.pinned.checked.prog.types.size))) = true := by kernel_rfl
theorem blanksJ20 : ((Rows.consoleBlanksRow.ifacesOut == Tryz.f4.resultTypes.toList.any (Tryz.pinned.checked.prog.ifacesRec ·))) = true := by kernel_rfl
theorem blanksJ21 : ((Rows.consoleBlanksRow.loopsOut == Tryz.f4.resultTypes.toList.any (Tryz.pinned.checked.prog.loopsFrom ·))) = true := by kernel_rfl
theorem blanksJ22 : ((Rows.consoleBlanksRow.plainKeys == Tryz.pinned.checked.prog.plainKeys)) = true := by kernel_rfl
theorem blanksJ23 : (Rows.consoleBlanksRow.shortTexts.isNone) = true := by kernel_rfl
theorem blanksJ24 : (Tryz.pinned.checked.prog.stopsHeard) = true := by kernel_rfl
end Go.Proofs.YtcjlmfdmfccmmaaGreatDoor
