/- The kernel runs the analyser on the contracts, part 6. -/
import Derived.Test.YtcjlmfdmfccmmaaGreatDoorC
import Derived.Test.YtcjlmfdmfccmmaaGreatDoorKS
namespace Go.Hal
open Go
set_option maxRecDepth 1000000
set_option maxHeartbeats 0
noncomputable section
theorem run_k585f169 : checkF (envE c91 invs) 1000 169 k585f169 = .ok () := by kernel_rfl
theorem run_k594f173 : checkF (envE c92 invs) 1000 173 k594f173 = .ok () := by kernel_rfl
theorem run_k603f180 : checkF (envE c93 invs) 1000 180 k603f180 = .ok () := by kernel_rfl
theorem run_k620f124 : checkF (envE c94 invs) 1000 124 k620f124 = .ok () := by kernel_rfl
theorem run_k623f76 : checkF (envE c95 invs) 1000 76 k623f76 = .ok () := by kernel_rfl
theorem run_k634f77 : checkF (envE c96 invs) 1000 77 k634f77 = .ok () := by kernel_rfl
end
end Go.Hal
