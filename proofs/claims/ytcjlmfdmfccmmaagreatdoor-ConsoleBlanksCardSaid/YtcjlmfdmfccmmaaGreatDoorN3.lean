/- The kernel runs the analyser on the contracts, part 4. -/
import Derived.Test.YtcjlmfdmfccmmaaGreatDoorC
import Derived.Test.YtcjlmfdmfccmmaaGreatDoorKS
namespace Go.Hal
open Go
set_option maxRecDepth 1000000
set_option maxHeartbeats 0
noncomputable section
theorem run_k244f72 : checkF (envE c54 invs) 1000 72 k244f72 = .ok () := by kernel_rfl
theorem run_k257f193 : checkF (envE c55 invs) 1000 193 k257f193 = .ok () := by kernel_rfl
theorem run_k267f194 : checkF (envE c56 invs) 1000 194 k267f194 = .ok () := by kernel_rfl
theorem run_k279f90 : checkF (envE c57 invs) 1000 90 k279f90 = .ok () := by kernel_rfl
theorem run_k287f90 : checkF (envE c57 invs) 1000 90 k287f90 = .ok () := by kernel_rfl
theorem run_k297f140 : checkF (envE c58 invs) 1000 140 k297f140 = .ok () := by kernel_rfl
theorem run_k304f140 : checkF (envE c58 invs) 1000 140 k304f140 = .ok () := by kernel_rfl
theorem run_k305f91 : checkF (envE c59 invs) 1000 91 k305f91 = .ok () := by kernel_rfl
theorem run_k306f91 : checkF (envE c59 invs) 1000 91 k306f91 = .ok () := by kernel_rfl
theorem run_k308f89 : checkF (envE c60 invs) 1000 89 k308f89 = .ok () := by kernel_rfl
theorem run_k309f89 : checkF (envE c60 invs) 1000 89 k309f89 = .ok () := by kernel_rfl
theorem run_k324f89 : checkF (envE c60 invs) 1000 89 k324f89 = .ok () := by kernel_rfl
theorem run_k326f67 : checkF (envE c61 invs) 1000 67 k326f67 = .ok () := by kernel_rfl
theorem run_k328f67 : checkF (envE c61 invs) 1000 67 k328f67 = .ok () := by kernel_rfl
theorem run_k332f67 : checkF (envE c61 invs) 1000 67 k332f67 = .ok () := by kernel_rfl
theorem run_k334f141 : checkF (envE c62 invs) 1000 141 k334f141 = .ok () := by kernel_rfl
theorem run_k336f141 : checkF (envE c62 invs) 1000 141 k336f141 = .ok () := by kernel_rfl
theorem run_k338f94 : checkF (envE c63 invs) 1000 94 k338f94 = .ok () := by kernel_rfl
theorem run_k340f94 : checkF (envE c63 invs) 1000 94 k340f94 = .ok () := by kernel_rfl
theorem run_k344f69 : checkF (envE c64 invs) 1000 69 k344f69 = .ok () := by kernel_rfl
theorem run_k360f162 : checkF (envE c65 invs) 1000 162 k360f162 = .ok () := by kernel_rfl
end
end Go.Hal
