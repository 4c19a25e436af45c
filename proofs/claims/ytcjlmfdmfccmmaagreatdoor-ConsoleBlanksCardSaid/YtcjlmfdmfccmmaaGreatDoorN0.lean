/- The kernel runs the analyser on the contracts, part 1. -/
import Derived.Test.YtcjlmfdmfccmmaaGreatDoorC
import Derived.Test.YtcjlmfdmfccmmaaGreatDoorKS
namespace Go.Hal
open Go
set_option maxRecDepth 1000000
set_option maxHeartbeats 0
noncomputable section
theorem run_k2f102 : checkF (envE c0 invs) 1000 102 k2f102 = .ok () := by kernel_rfl
theorem run_k5f109 : checkF (envE c1 invs) 1000 109 k5f109 = .ok () := by kernel_rfl
theorem run_k7f108 : checkF (envE c2 invs) 1000 108 k7f108 = .ok () := by kernel_rfl
theorem run_k12f211 : checkF (envE c3 invs) 1000 211 k12f211 = .ok () := by kernel_rfl
theorem run_k13f157 : checkF (envE c4 invs) 1000 157 k13f157 = .ok () := by kernel_rfl
theorem run_k22f156 : checkF (envE c5 invs) 1000 156 k22f156 = .ok () := by kernel_rfl
theorem run_k23f210 : checkF (envE c6 invs) 1000 210 k23f210 = .ok () := by kernel_rfl
theorem run_k24f120 : checkF (envE c7 invs) 1000 120 k24f120 = .ok () := by kernel_rfl
theorem run_k27f107 : checkF (envE c8 invs) 1000 107 k27f107 = .ok () := by kernel_rfl
theorem run_k28f117 : checkF (envE c9 invs) 1000 117 k28f117 = .ok () := by kernel_rfl
theorem run_k33f106 : checkF (envE c10 invs) 1000 106 k33f106 = .ok () := by kernel_rfl
theorem run_k37f158 : checkF (envE c11 invs) 1000 158 k37f158 = .ok () := by kernel_rfl
theorem run_k45f152 : checkF (envE c12 invs) 1000 152 k45f152 = .ok () := by kernel_rfl
theorem run_k46f103 : checkF (envE c13 invs) 1000 103 k46f103 = .ok () := by kernel_rfl
theorem run_k49f105 : checkF (envE c14 invs) 1000 105 k49f105 = .ok () := by kernel_rfl
theorem run_k56f154 : checkF (envE c15 invs) 1000 154 k56f154 = .ok () := by kernel_rfl
theorem run_k59f104 : checkF (envE c16 invs) 1000 104 k59f104 = .ok () := by kernel_rfl
theorem run_k63f73 : checkF (envE c17 invs) 1000 73 k63f73 = .ok () := by kernel_rfl
theorem run_k68f111 : checkF (envE c18 invs) 1000 111 k68f111 = .ok () := by kernel_rfl
theorem run_k73f159 : checkF (envE c19 invs) 1000 159 k73f159 = .ok () := by kernel_rfl
theorem run_k77f160 : checkF (envE c20 invs) 1000 160 k77f160 = .ok () := by kernel_rfl
theorem run_k82f113 : checkF (envE c21 invs) 1000 113 k82f113 = .ok () := by kernel_rfl
theorem run_k84f114 : checkF (envE c22 invs) 1000 114 k84f114 = .ok () := by kernel_rfl
theorem run_k88f164 : checkF (envE c23 invs) 1000 164 k88f164 = .ok () := by kernel_rfl
theorem run_k89f112 : checkF (envE c24 invs) 1000 112 k89f112 = .ok () := by kernel_rfl
theorem run_k92f110 : checkF (envE c25 invs) 1000 110 k92f110 = .ok () := by kernel_rfl
theorem run_k95f74 : checkF (envE c26 invs) 1000 74 k95f74 = .ok () := by kernel_rfl
theorem run_k97f116 : checkF (envE c27 invs) 1000 116 k97f116 = .ok () := by kernel_rfl
theorem run_k101f121 : checkF (envE c28 invs) 1000 121 k101f121 = .ok () := by kernel_rfl
end
end Go.Hal
