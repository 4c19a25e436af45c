/- Closed facts of the row. -/
import Derived.Test.YtcjlmfdmfccmmaaGreatDoorRows
import Derived.JoinedOf
namespace Go.Proofs.YtcjlmfdmfccmmaaGreatDoor
open Go
set_option maxRecDepth 1000000
set_option maxHeartbeats 0
theorem blanksJ25 : (Tryz.pinned.checked.prog.mayEnter) = true := by kernel_rfl
theorem blanksJ26 : ((Rows.consoleBlanksRow.lifted == Tryz.pinned.checked.prog.liftsFinal)) = true := by kernel_rfl
theorem blanksJ27 : ((Tryz.pinned.checked.prog.make == some Rows.consoleBlanksRow.make)) = true := by kernel_rfl
theorem blanksJ28 : ((Rows.consoleBlanksRow.kinds == (if Rows.consoleBlanksRow.domain.isEmpty then [] else Tryz.f4.params.toList.map fun t => match Tryz.pinned.checked.prog.underlying t with | some (.int k) => some k | _ => none))) = true := by kernel_rfl
theorem blanksJ29 : ((Rows.consoleBlanksRow.pinned == Rows.consoleBlanksRow.pinnedBy)) = true := by kernel_rfl
theorem blanksJ30 : ((Rows.consoleBlanksRow.veiled == (Tryz.f4.params.toList ++ Rows.consoleBlanksSpec.plain.varTypes Tryz.pinned.checked.prog ++ Tryz.f4.resultTypes.toList).any (Tryz.pinned.checked.prog.veiledRec ·))) = true := by kernel_rfl
theorem blanksJ31 : (Rows.consoleBlanksRow.veiledFits Tryz.pinned.checked.prog Tryz.f4.params.toList (Tryz.f4.params.toList ++ Rows.consoleBlanksSpec.plain.varTypes Tryz.pinned.checked.prog ++ Tryz.f4.resultTypes.toList)) = true := by kernel_rfl
end Go.Proofs.YtcjlmfdmfccmmaaGreatDoor
