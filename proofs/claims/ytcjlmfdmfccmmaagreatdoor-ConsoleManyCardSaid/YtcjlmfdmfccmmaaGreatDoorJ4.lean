/- Closed facts of the row. -/
import Derived.Test.YtcjlmfdmfccmmaaGreatDoorRows
import Derived.JoinedOf
namespace Go.Proofs.YtcjlmfdmfccmmaaGreatDoor
open Go
set_option maxRecDepth 1000000
set_option maxHeartbeats 0
theorem manyJ25 : (Tryz.pinned.checked.prog.mayEnter) = true := by kernel_rfl
theorem manyJ26 : ((Rows.consoleManyRow.lifted == Tryz.pinned.checked.prog.liftsFinal)) = true := by kernel_rfl
theorem manyJ27 : ((Tryz.pinned.checked.prog.make == some Rows.consoleManyRow.make)) = true := by kernel_rfl
theorem manyJ28 : ((Rows.consoleManyRow.kinds == (if Rows.consoleManyRow.domain.isEmpty then [] else Tryz.f7.params.toList.map fun t => match Tryz.pinned.checked.prog.underlying t with | some (.int k) => some k | _ => none))) = true := by kernel_rfl
theorem manyJ29 : ((Rows.consoleManyRow.pinned == Rows.consoleManyRow.pinnedBy)) = true := by kernel_rfl
theorem manyJ30 : ((Rows.consoleManyRow.veiled == (Tryz.f7.params.toList ++ Rows.consoleManySpec.plain.varTypes Tryz.pinned.checked.prog ++ Tryz.f7.resultTypes.toList).any (Tryz.pinned.checked.prog.veiledRec ·))) = true := by kernel_rfl
theorem manyJ31 : (Rows.consoleManyRow.veiledFits Tryz.pinned.checked.prog Tryz.f7.params.toList (Tryz.f7.params.toList ++ Rows.consoleManySpec.plain.varTypes Tryz.pinned.checked.prog ++ Tryz.f7.resultTypes.toList)) = true := by kernel_rfl
end Go.Proofs.YtcjlmfdmfccmmaaGreatDoor
