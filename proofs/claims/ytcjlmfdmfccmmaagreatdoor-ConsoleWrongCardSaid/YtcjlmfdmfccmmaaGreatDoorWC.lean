/- The kernel runs the analyser on ConsoleWrong. -/
import Derived.Test.YtcjlmfdmfccmmaaGreatDoorWB0
import Derived.Test.YtcjlmfdmfccmmaaGreatDoorWB1
import Derived.Test.YtcjlmfdmfccmmaaGreatDoorWB2
namespace Go.Hal
open Go Go.Proofs
set_option maxRecDepth 1000000
set_option maxHeartbeats 0
noncomputable section
def wLines : List Contract := [k11f15, k13f15, k15f15, k17f15, k19f15, k21f15, k23f15, k25f15, k27f15, k29f15, k30f15, k32f15, k33f15, k35f15, k37f15, k38f15, k40f15, k43f15, k46f15, k49f15, k52f15, k54f15, k57f15, k60f15, k63f15, k66f15, k69f15]
def wCons : Nat → List Contract := fun g => bif Nat.beq g 8 then [k70f8] else bif Nat.beq g 15 then wLines else w0 g
theorem lines_ok : ∀ c ∈ wLines, CSound Tryz.prog 15 c ∧ c.wf = true := by
  intro c h
  simp only [wLines, List.mem_cons, List.not_mem_nil, or_false] at h
  rcases h with rfl | rfl | rfl | rfl | rfl | rfl | rfl | rfl | rfl | rfl | rfl | rfl | rfl | rfl | rfl | rfl | rfl | rfl | rfl | rfl | rfl | rfl | rfl | rfl | rfl | rfl | rfl
  · exact fast_ok cN_ok run_k11f15
  · exact fast_ok cN_ok run_k13f15
  · exact fast_ok cN_ok run_k15f15
  · exact fast_ok cN_ok run_k17f15
  · exact fast_ok cN_ok run_k19f15
  · exact fast_ok cN_ok run_k21f15
  · exact fast_ok cN_ok run_k23f15
  · exact fast_ok cN_ok run_k25f15
  · exact fast_ok cN_ok run_k27f15
  · exact fast_ok cN_ok run_k29f15
  · exact fast_ok cN_ok run_k30f15
  · exact fast_ok cN_ok run_k32f15
  · exact fast_ok cN_ok run_k33f15
  · exact fast_ok cN_ok run_k35f15
  · exact fast_ok cN_ok run_k37f15
  · exact fast_ok cN_ok run_k38f15
  · exact fast_ok cN_ok run_k40f15
  · exact fast_ok cN_ok run_k43f15
  · exact fast_ok cN_ok run_k46f15
  · exact fast_ok cN_ok run_k49f15
  · exact fast_ok cN_ok run_k52f15
  · exact fast_ok cN_ok run_k54f15
  · exact fast_ok cN_ok run_k57f15
  · exact fast_ok cN_ok run_k60f15
  · exact fast_ok cN_ok run_k63f15
  · exact fast_ok cN_ok run_k66f15
  · exact fast_ok cN_ok run_k69f15
theorem wCons_ok : ConsOk wCons := more1 (more_ok none_ok lines_ok) awake_ok
theorem wrong_run : checkF (envE wCons noInv) 100000 6 k72f6 = .ok () := by kernel_rfl
theorem wrong_ok : CSound Tryz.prog 6 k72f6 := (fast_ok wCons_ok wrong_run).1
end
end Go.Hal
