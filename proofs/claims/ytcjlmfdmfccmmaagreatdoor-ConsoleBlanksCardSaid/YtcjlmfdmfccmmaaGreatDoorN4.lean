/- The kernel runs the analyser on the contracts, part 5. -/
import Derived.Test.YtcjlmfdmfccmmaaGreatDoorC
import Derived.Test.YtcjlmfdmfccmmaaGreatDoorKS
namespace Go.Hal
open Go
set_option maxRecDepth 1000000
set_option maxHeartbeats 0
noncomputable section
theorem run_k365f163 : checkF (envE c66 invs) 1000 163 k365f163 = .ok () := by kernel_rfl
theorem run_k368f115 : checkF (envE c67 invs) 1000 115 k368f115 = .ok () := by kernel_rfl
theorem run_k370f75 : checkF (envE c68 invs) 1000 75 k370f75 = .ok () := by kernel_rfl
theorem run_k373f264 : checkF (envE c69 invs) 1000 264 k373f264 = .ok () := by kernel_rfl
theorem run_k395f174 : checkF (envE c70 invs) 1000 174 k395f174 = .ok () := by kernel_rfl
theorem run_k398f181 : checkF (envE c71 invs) 1000 181 k398f181 = .ok () := by kernel_rfl
theorem run_k401f232 : checkF (envE c72 invs) 1000 232 k401f232 = .ok () := by kernel_rfl
theorem run_k416f175 : checkF (envE c73 invs) 1000 175 k416f175 = .ok () := by kernel_rfl
theorem run_k431f179 : checkF (envE c74 invs) 1000 179 k431f179 = .ok () := by kernel_rfl
theorem run_k441f170 : checkF (envE c75 invs) 1000 170 k441f170 = .ok () := by kernel_rfl
theorem run_k444f227 : checkF (envE c76 invs) 1000 227 k444f227 = .ok () := by kernel_rfl
theorem run_k449f261 : checkF (envE c77 invs) 1000 261 k449f261 = .ok () := by kernel_rfl
theorem run_k454f278 : checkF (envE c78 invs) 1000 278 k454f278 = .ok () := by kernel_rfl
theorem run_k476f258 : checkF (envE c79 invs) 1000 258 k476f258 = .ok () := by kernel_rfl
theorem run_k480f258 : checkF (envE c79 invs) 1000 258 k480f258 = .ok () := by kernel_rfl
theorem run_k481f258 : checkF (envE c79 invs) 1000 258 k481f258 = .ok () := by kernel_rfl
theorem run_k482f258 : checkF (envE c79 invs) 1000 258 k482f258 = .ok () := by kernel_rfl
theorem run_k483f225 : checkF (envE c80 invs) 1000 225 k483f225 = .ok () := by kernel_rfl
theorem run_k484f225 : checkF (envE c80 invs) 1000 225 k484f225 = .ok () := by kernel_rfl
theorem run_k485f225 : checkF (envE c80 invs) 1000 225 k485f225 = .ok () := by kernel_rfl
theorem run_k486f225 : checkF (envE c80 invs) 1000 225 k486f225 = .ok () := by kernel_rfl
theorem run_k487f276 : checkF (envE c81 invs) 1000 276 k487f276 = .ok () := by kernel_rfl
theorem run_k488f276 : checkF (envE c81 invs) 1000 276 k488f276 = .ok () := by kernel_rfl
theorem run_k489f284 : checkF (envE c82 invs) 1000 284 k489f284 = .ok () := by kernel_rfl
theorem run_k490f284 : checkF (envE c82 invs) 1000 284 k490f284 = .ok () := by kernel_rfl
theorem run_k493f219 : checkF (envE c83 invs) 1000 219 k493f219 = .ok () := by kernel_rfl
theorem run_k494f219 : checkF (envE c83 invs) 1000 219 k494f219 = .ok () := by kernel_rfl
theorem run_k495f260 : checkF (envE c84 invs) 1000 260 k495f260 = .ok () := by kernel_rfl
theorem run_k496f277 : checkF (envE c85 invs) 1000 277 k496f277 = .ok () := by kernel_rfl
theorem run_k499f259 : checkF (envE c86 invs) 1000 259 k499f259 = .ok () := by kernel_rfl
theorem run_k513f262 : checkF (envE c87 invs) 1000 262 k513f262 = .ok () := by kernel_rfl
theorem run_k537f221 : checkF (envE c88 invs) 1000 221 k537f221 = .ok () := by kernel_rfl
theorem run_k560f221 : checkF (envE c88 invs) 1000 221 k560f221 = .ok () := by kernel_rfl
theorem run_k561f223 : checkF (envE c89 invs) 1000 223 k561f223 = .ok () := by kernel_rfl
theorem run_k562f223 : checkF (envE c89 invs) 1000 223 k562f223 = .ok () := by kernel_rfl
theorem run_k576f168 : checkF (envE c90 invs) 1000 168 k576f168 = .ok () := by kernel_rfl
end
end Go.Hal
