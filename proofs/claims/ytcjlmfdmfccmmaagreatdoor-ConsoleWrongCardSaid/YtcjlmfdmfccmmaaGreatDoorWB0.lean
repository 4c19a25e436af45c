/- The kernel runs the analyser on some of the lines. -/
import Derived.Test.YtcjlmfdmfccmmaaGreatDoorWN
namespace Go.Hal
open Go Go.Proofs
set_option maxRecDepth 1000000
set_option maxHeartbeats 0
noncomputable section
theorem run_k11f15 : checkF (envE cN noInv) 100000 15 k11f15 = .ok () := by kernel_rfl
theorem run_k13f15 : checkF (envE cN noInv) 100000 15 k13f15 = .ok () := by kernel_rfl
theorem run_k15f15 : checkF (envE cN noInv) 100000 15 k15f15 = .ok () := by kernel_rfl
theorem run_k17f15 : checkF (envE cN noInv) 100000 15 k17f15 = .ok () := by kernel_rfl
theorem run_k19f15 : checkF (envE cN noInv) 100000 15 k19f15 = .ok () := by kernel_rfl
theorem run_k21f15 : checkF (envE cN noInv) 100000 15 k21f15 = .ok () := by kernel_rfl
theorem run_k23f15 : checkF (envE cN noInv) 100000 15 k23f15 = .ok () := by kernel_rfl
theorem run_k25f15 : checkF (envE cN noInv) 100000 15 k25f15 = .ok () := by kernel_rfl
theorem run_k27f15 : checkF (envE cN noInv) 100000 15 k27f15 = .ok () := by kernel_rfl
end
end Go.Hal
