/- The kernel runs the analyser on the contracts, part 2. -/
import Derived.Test.YtcjlmfdmfccmmaaGreatDoorC
import Derived.Test.YtcjlmfdmfccmmaaGreatDoorKS
namespace Go.Hal
open Go
set_option maxRecDepth 1000000
set_option maxHeartbeats 0
noncomputable section
theorem run_k104f142 : checkF (envE c29 invs) 1000 142 k104f142 = .ok () := by kernel_rfl
theorem run_k115f95 : checkF (envE c30 invs) 1000 95 k115f95 = .ok () := by kernel_rfl
theorem run_k127f96 : checkF (envE c31 invs) 1000 96 k127f96 = .ok () := by kernel_rfl
theorem run_k129f70 : checkF (envE c32 invs) 1000 70 k129f70 = .ok () := by kernel_rfl
theorem run_k132f204 : checkF (envE c33 invs) 1000 204 k132f204 = .ok () := by kernel_rfl
end
end Go.Hal
