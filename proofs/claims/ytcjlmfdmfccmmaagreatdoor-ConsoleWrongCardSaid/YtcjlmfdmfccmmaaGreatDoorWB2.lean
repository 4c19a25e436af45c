/- The kernel runs the analyser on some of the lines. -/
import Derived.Test.YtcjlmfdmfccmmaaGreatDoorWN
namespace Go.Hal
open Go Go.Proofs
set_option maxRecDepth 1000000
set_option maxHeartbeats 0
noncomputable section
theorem run_k46f15 : checkF (envE cN noInv) 100000 15 k46f15 = .ok () := by kernel_rfl
theorem run_k49f15 : checkF (envE cN noInv) 100000 15 k49f15 = .ok () := by kernel_rfl
theorem run_k52f15 : checkF (envE cN noInv) 100000 15 k52f15 = .ok () := by kernel_rfl
theorem run_k54f15 : checkF (envE cN noInv) 100000 15 k54f15 = .ok () := by kernel_rfl
theorem run_k57f15 : checkF (envE cN noInv) 100000 15 k57f15 = .ok () := by kernel_rfl
theorem run_k60f15 : checkF (envE cN noInv) 100000 15 k60f15 = .ok () := by kernel_rfl
theorem run_k63f15 : checkF (envE cN noInv) 100000 15 k63f15 = .ok () := by kernel_rfl
theorem run_k66f15 : checkF (envE cN noInv) 100000 15 k66f15 = .ok () := by kernel_rfl
theorem run_k69f15 : checkF (envE cN noInv) 100000 15 k69f15 = .ok () := by kernel_rfl
end
end Go.Hal
