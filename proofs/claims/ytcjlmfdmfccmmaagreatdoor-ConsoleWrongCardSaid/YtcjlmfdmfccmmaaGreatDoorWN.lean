/- The kernel runs the analyser on the making of a modulus. -/
import Derived.Test.YtcjlmfdmfccmmaaGreatDoorWA
import Derived.Test.YtcjlmfdmfccmmaaGreatDoorW
import Derived.Test.YtcjlmfdmfccmmaaGreatDoorA
namespace Go.Hal
open Go Go.Proofs
set_option maxRecDepth 1000000
set_option maxHeartbeats 0
noncomputable section
def n1 : Nat → List Contract := fun g => bif Nat.beq g 211 then [xk12f211] else w0 g
def n2 : Nat → List Contract := fun g => bif Nat.beq g 157 then [xk13f157] else n1 g
def n3 : Nat → List Contract := fun g => bif Nat.beq g 120 then [xk24f120] else n2 g
def cN : Nat → List Contract := fun g => bif Nat.beq g 106 then [xk33f106] else w0 g
theorem run_211 : checkF (envE w0 invs) 1000 211 xk12f211 = .ok () := by kernel_rfl
theorem run_157 : checkF (envE w0 invs) 1000 157 xk13f157 = .ok () := by kernel_rfl
theorem run_120 : checkF (envE n2 invs) 1000 120 xk24f120 = .ok () := by kernel_rfl
theorem run_106 : checkF (envE n3 invs) 1000 106 xk33f106 = .ok () := by kernel_rfl
theorem n2_ok : ConsOk n2 := more1 (more1 none_ok (fast_ok none_ok run_211)) (fast_ok none_ok run_157)
theorem n3_ok : ConsOk n3 := more1 n2_ok (fast_ok n2_ok run_120)
theorem cN_ok : ConsOk cN := more1 none_ok (fast_ok n3_ok run_106)
end
end Go.Hal
