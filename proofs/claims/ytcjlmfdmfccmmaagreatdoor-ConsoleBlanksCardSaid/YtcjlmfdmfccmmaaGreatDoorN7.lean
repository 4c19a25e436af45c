/- The kernel runs the analyser on the contracts, part 8. -/
import Derived.Test.YtcjlmfdmfccmmaaGreatDoorC
import Derived.Test.YtcjlmfdmfccmmaaGreatDoorKS
namespace Go.Hal
open Go
set_option maxRecDepth 1000000
set_option maxHeartbeats 0
noncomputable section
theorem run_k667f42 : checkF (envE c108 invs) 1000 42 k667f42 = .ok () := by kernel_rfl
theorem run_k668f43 : checkF (envE c109 invs) 1000 43 k668f43 = .ok () := by kernel_rfl
theorem run_k669f44 : checkF (envE c110 invs) 1000 44 k669f44 = .ok () := by kernel_rfl
theorem run_k671f45 : checkF (envE c111 invs) 1000 45 k671f45 = .ok () := by kernel_rfl
theorem run_k672f46 : checkF (envE c112 invs) 1000 46 k672f46 = .ok () := by kernel_rfl
theorem run_k676f18 : checkF (envE c113 invs) 1000 18 k676f18 = .ok () := by kernel_rfl
theorem run_k683f23 : checkF (envE c114 invs) 1000 23 k683f23 = .ok () := by kernel_rfl
end
end Go.Hal
