/- The kernel runs the analyser on awake. -/
import Derived.Test.YtcjlmfdmfccmmaaGreatDoorC
import Derived.Test.YtcjlmfdmfccmmaaGreatDoorK
namespace Go.Hal
open Go
set_option maxRecDepth 1000000
set_option maxHeartbeats 0
noncomputable section
theorem run_awake : checkF (envE w0 noInv) 100000 8 k684f8 = .ok () := by kernel_rfl
theorem awake_ok : CSound Go.Proofs.Tryz.prog 8 k684f8 ∧ k684f8.wf = true := fast_ok none_ok run_awake
end
end Go.Hal
