/- Closed facts of the row. -/
import Derived.Test.YtcjlmfdmfccmmaaGreatDoorRows
import Derived.JoinedOf
namespace Go.Proofs.YtcjlmfdmfccmmaaGreatDoor
open Go
set_option maxRecDepth 1000000
set_option maxHeartbeats 0
theorem beginsJ25 : (Tryz.pinned.checked.prog.mayEnter) = true := by kernel_rfl
theorem beginsJ26 : ((Rows.consoleBeginsRow.lifted == Tryz.pinned.checked.prog.liftsFinal)) = true := by kernel_rfl
theorem beginsJ27 : ((Tryz.pinned.checked.prog.make == some Rows.consoleBeginsRow.make)) = true := by kernel_rfl
theorem beginsJ28 : ((Rows.consoleBeginsRow.kinds == (if Rows.consoleBeginsRow.domain.isEmpty then [] else Tryz.f3.params.toList.map fun t => match Tryz.pinned.checked.prog.underlying t with | some (.int k) => some k | _ => none))) = true := by kernel_rfl
theorem beginsJ29 : ((Rows.consoleBeginsRow.pinned == Rows.consoleBeginsRow.pinnedBy)) = true := by kernel_rfl
theorem beginsJ30 : ((Rows.consoleBeginsRow.veiled == (Tryz.f3.params.toList ++ Rows.consoleBeginsSpec.plain.varTypes Tryz.pinned.checked.prog ++ Tryz.f3.resultTypes.toList).any (Tryz.pinned.checked.prog.veiledRec ·))) = true := by kernel_rfl
theorem beginsJ31 : (Rows.consoleBeginsRow.veiledFits Tryz.pinned.checked.prog Tryz.f3.params.toList (Tryz.f3.params.toList ++ Rows.consoleBeginsSpec.plain.varTypes Tryz.pinned.checked.prog ++ Tryz.f3.resultTypes.toList)) = true := by kernel_rfl
end Go.Proofs.YtcjlmfdmfccmmaaGreatDoor
