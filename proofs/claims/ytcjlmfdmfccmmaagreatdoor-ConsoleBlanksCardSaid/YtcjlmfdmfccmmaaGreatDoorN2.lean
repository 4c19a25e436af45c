/- The kernel runs the analyser on the contracts, part 3. -/
import Derived.Test.YtcjlmfdmfccmmaaGreatDoorC
import Derived.Test.YtcjlmfdmfccmmaaGreatDoorKS
namespace Go.Hal
open Go
set_option maxRecDepth 1000000
set_option maxHeartbeats 0
noncomputable section
theorem run_k145f209 : checkF (envE c34 invs) 1000 209 k145f209 = .ok () := by kernel_rfl
theorem run_k151f206 : checkF (envE c35 invs) 1000 206 k151f206 = .ok () := by kernel_rfl
theorem run_k153f207 : checkF (envE c36 invs) 1000 207 k153f207 = .ok () := by kernel_rfl
theorem run_k163f148 : checkF (envE c37 invs) 1000 148 k163f148 = .ok () := by kernel_rfl
theorem run_k179f150 : checkF (envE c38 invs) 1000 150 k179f150 = .ok () := by kernel_rfl
theorem run_k185f151 : checkF (envE c39 invs) 1000 151 k185f151 = .ok () := by kernel_rfl
theorem run_k189f99 : checkF (envE c40 invs) 1000 99 k189f99 = .ok () := by kernel_rfl
theorem run_k191f101 : checkF (envE c41 invs) 1000 101 k191f101 = .ok () := by kernel_rfl
theorem run_k196f197 : checkF (envE c42 invs) 1000 197 k196f197 = .ok () := by kernel_rfl
theorem run_k198f198 : checkF (envE c43 invs) 1000 198 k198f198 = .ok () := by kernel_rfl
theorem run_k206f146 : checkF (envE c44 invs) 1000 146 k206f146 = .ok () := by kernel_rfl
theorem run_k210f252 : checkF (envE c45 invs) 1000 252 k210f252 = .ok () := by kernel_rfl
theorem run_k223f253 : checkF (envE c46 invs) 1000 253 k223f253 = .ok () := by kernel_rfl
theorem run_k225f200 : checkF (envE c47 invs) 1000 200 k225f200 = .ok () := by kernel_rfl
theorem run_k227f203 : checkF (envE c48 invs) 1000 203 k227f203 = .ok () := by kernel_rfl
theorem run_k232f199 : checkF (envE c49 invs) 1000 199 k232f199 = .ok () := by kernel_rfl
theorem run_k237f147 : checkF (envE c50 invs) 1000 147 k237f147 = .ok () := by kernel_rfl
theorem run_k238f98 : checkF (envE c51 invs) 1000 98 k238f98 = .ok () := by kernel_rfl
theorem run_k239f100 : checkF (envE c52 invs) 1000 100 k239f100 = .ok () := by kernel_rfl
theorem run_k243f71 : checkF (envE c53 invs) 1000 71 k243f71 = .ok () := by kernel_rfl
end
end Go.Hal
