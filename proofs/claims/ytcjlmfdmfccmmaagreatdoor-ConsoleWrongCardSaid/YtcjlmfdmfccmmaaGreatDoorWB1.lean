/- The kernel runs the analyser on some of the lines. -/
import Derived.Test.YtcjlmfdmfccmmaaGreatDoorWN
namespace Go.Hal
open Go Go.Proofs
set_option maxRecDepth 1000000
set_option maxHeartbeats 0
noncomputable section
theorem run_k29f15 : checkF (envE cN noInv) 100000 15 k29f15 = .ok () := by kernel_rfl
theorem run_k30f15 : checkF (envE cN noInv) 100000 15 k30f15 = .ok () := by kernel_rfl
theorem run_k32f15 : checkF (envE cN noInv) 100000 15 k32f15 = .ok () := by kernel_rfl
theorem run_k33f15 : checkF (envE cN noInv) 100000 15 k33f15 = .ok () := by kernel_rfl
theorem run_k35f15 : checkF (envE cN noInv) 100000 15 k35f15 = .ok () := by kernel_rfl
theorem run_k37f15 : checkF (envE cN noInv) 100000 15 k37f15 = .ok () := by kernel_rfl
theorem run_k38f15 : checkF (envE cN noInv) 100000 15 k38f15 = .ok () := by kernel_rfl
theorem run_k40f15 : checkF (envE cN noInv) 100000 15 k40f15 = .ok () := by kernel_rfl
theorem run_k43f15 : checkF (envE cN noInv) 100000 15 k43f15 = .ok () := by kernel_rfl
end
end Go.Hal
