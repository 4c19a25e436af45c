/- Closed facts of the row. -/
import Derived.Test.YtcjlmfdmfccmmaaGreatDoorRows
import Derived.JoinedOf
namespace Go.Proofs.YtcjlmfdmfccmmaaGreatDoor
open Go
set_option maxRecDepth 1000000
set_option maxHeartbeats 0
theorem wrongJ25 : (Tryz.pinned.checked.prog.mayEnter) = true := by kernel_rfl
theorem wrongJ26 : ((Rows.consoleWrongRow.lifted == Tryz.pinned.checked.prog.liftsFinal)) = true := by kernel_rfl
theorem wrongJ27 : ((Tryz.pinned.checked.prog.make == some Rows.consoleWrongRow.make)) = true := by kernel_rfl
theorem wrongJ28 : ((Rows.consoleWrongRow.kinds == (if Rows.consoleWrongRow.domain.isEmpty then [] else Tryz.f6.params.toList.map fun t => match Tryz.pinned.checked.prog.underlying t with | some (.int k) => some k | _ => none))) = true := by kernel_rfl
theorem wrongJ29 : ((Rows.consoleWrongRow.pinned == Rows.consoleWrongRow.pinnedBy)) = true := by kernel_rfl
theorem wrongJ30 : ((Rows.consoleWrongRow.veiled == (Tryz.f6.params.toList ++ Rows.consoleWrongSpec.plain.varTypes Tryz.pinned.checked.prog ++ Tryz.f6.resultTypes.toList).any (Tryz.pinned.checked.prog.veiledRec ·))) = true := by kernel_rfl
theorem wrongJ31 : (Rows.consoleWrongRow.veiledFits Tryz.pinned.checked.prog Tryz.f6.params.toList (Tryz.f6.params.toList ++ Rows.consoleWrongSpec.plain.varTypes Tryz.pinned.checked.prog ++ Tryz.f6.resultTypes.toList)) = true := by kernel_rfl
end Go.Proofs.YtcjlmfdmfccmmaaGreatDoor
