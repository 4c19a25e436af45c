/- The kernel runs the analyser on awake. -/
import Derived.Test.YtcjlmfdmfccmmaaGreatDoorC
import Derived.Test.YtcjlmfdmfccmmaaGreatDoorW
namespace Go.Hal
open Go Go.Proofs
set_option maxRecDepth 1000000
set_option maxHeartbeats 0
noncomputable section
theorem awake_run : checkF (envE w0 noInv) 100000 8 k70f8 = .ok () := by kernel_rfl
theorem awake_ok : CSound Tryz.prog 8 k70f8 ∧ k70f8.wf = true := fast_ok none_ok awake_run
end
end Go.Hal
