/- The kernel runs the analyser on the contracts, part 7. -/
import Derived.Test.YtcjlmfdmfccmmaaGreatDoorC
import Derived.Test.YtcjlmfdmfccmmaaGreatDoorKS
namespace Go.Hal
open Go
set_option maxRecDepth 1000000
set_option maxHeartbeats 0
noncomputable section
theorem run_k637f190 : checkF (envE c97 invs) 1000 190 k637f190 = .ok () := by kernel_rfl
theorem run_k639f133 : checkF (envE c98 invs) 1000 133 k639f133 = .ok () := by kernel_rfl
theorem run_k640f132 : checkF (envE c99 invs) 1000 132 k640f132 = .ok () := by kernel_rfl
theorem run_k644f134 : checkF (envE c100 invs) 1000 134 k644f134 = .ok () := by kernel_rfl
theorem run_k647f82 : checkF (envE c101 invs) 1000 82 k647f82 = .ok () := by kernel_rfl
theorem run_k650f83 : checkF (envE c102 invs) 1000 83 k650f83 = .ok () := by kernel_rfl
theorem run_k651f68 : checkF (envE c103 invs) 1000 68 k651f68 = .ok () := by kernel_rfl
theorem run_k652f68 : checkF (envE c103 invs) 1000 68 k652f68 = .ok () := by kernel_rfl
theorem run_k653f68 : checkF (envE c103 invs) 1000 68 k653f68 = .ok () := by kernel_rfl
theorem run_k661f38 : checkF (envE c104 invs) 1000 38 k661f38 = .ok () := by kernel_rfl
theorem run_k663f39 : checkF (envE c105 invs) 1000 39 k663f39 = .ok () := by kernel_rfl
theorem run_k664f40 : checkF (envE c106 invs) 1000 40 k664f40 = .ok () := by kernel_rfl
theorem run_k666f41 : checkF (envE c107 invs) 1000 41 k666f41 = .ok () := by kernel_rfl
end
end Go.Hal
