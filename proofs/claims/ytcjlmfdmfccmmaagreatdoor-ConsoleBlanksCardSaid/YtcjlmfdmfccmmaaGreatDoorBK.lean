/- Contracts of two digests and two numbers; the kernel runs the analyser on them. -/
import Derived.Test.YtcjlmfdmfccmmaaGreatDoorA
import Derived.Test.YtcjlmfdmfccmmaaGreatDoorNE
namespace Go.Hal.Bk
open Go
def at1 (a : Nat) : Lin := ⟨.ofNat 0, [(a, .ofNat 1)]⟩
def nk (n : Nat) : Lin := ⟨.ofNat n, []⟩
def ai (k : IntKind) (a : Nat) : SV := .int k ⟨.ofNat 0, [(a, .ofNat 1)]⟩
def ki (k : IntKind) (n : Nat) : SV := .int k ⟨.ofNat n, []⟩
def bk0 : ABlk := .cells 190 [ki .u8 240, ki .u8 240, ki .u8 240, ki .u8 240, ki .u8 240, ki .u8 240, ki .u8 240, ki .u8 240, ki .u8 240, ki .u8 240, ki .u8 240, ki .u8 240, ki .u8 240, ki .u8 240, ki .u8 240, ki .u8 240, ki .u8 240, ki .u8 240, ki .u8 240, ki .u8 240, ki .u8 240, ki .u8 240, ki .u8 240, ki .u8 240, ki .u8 240, ki .u8 240, ki .u8 240, ki .u8 240, ki .u8 240, ki .u8 240, ki .u8 240, ki .u8 240, ki .u8 240, ki .u8 240, ki .u8 240, ki .u8 240, ki .u8 240, ki .u8 240, ki .u8 240, ki .u8 240, ki .u8 240, ki .u8 240, ki .u8 240, ki .u8 240, ki .u8 240, ki .u8 240, ki .u8 240, ki .u8 240, ki .u8 240, ki .u8 240, ki .u8 240, ki .u8 240, ki .u8 240, ki .u8 240, ki .u8 240, ki .u8 240, ki .u8 240, ki .u8 240, ki .u8 240, ki .u8 240, ki .u8 240, ki .u8 240, ki .u8 240, ki .u8 240, ki .u8 240, ki .u8 240, ki .u8 240, ki .u8 240, ki .u8 240, ki .u8 240, ki .u8 240, ki .u8 240, ki .u8 240, ki .u8 240, ki .u8 240, ki .u8 240, ki .u8 240, ki .u8 240, ki .u8 240, ki .u8 240, ki .u8 240, ki .u8 240, ki .u8 240, ki .u8 240, ki .u8 240, ki .u8 240, ki .u8 240, ki .u8 240, ki .u8 240, ki .u8 240, ki .u8 240, ki .u8 240, ki .u8 240, ki .u8 240, ki .u8 240, ki .u8 240, ki .u8 240, ki .u8 240, ki .u8 240, ki .u8 240, ki .u8 240, ki .u8 240, ki .u8 240, ki .u8 240, ki .u8 240, ki .u8 240, ki .u8 240, ki .u8 240, ki .u8 240, ki .u8 240, ki .u8 240, ki .u8 240, ki .u8 240, ki .u8 240, ki .u8 240, ki .u8 240, ki .u8 240, ki .u8 240, ki .u8 240, ki .u8 240, ki .u8 240, ki .u8 240, ki .u8 240, ki .u8 240, ki .u8 240, ki .u8 240, ki .u8 240, ki .u8 240, ki .u8 241, ki .u8 241, ki .u8 241, ki .u8 241, ki .u8 241, ki .u8 241, ki .u8 241, ki .u8 241, ki .u8 241, ki .u8 241, ki .u8 241, ki .u8 241, ki .u8 241, ki .u8 241, ki .u8 241, ki .u8 241, ki .u8 241, ki .u8 241, ki .u8 241, ki .u8 241, ki .u8 241, ki .u8 241, ki .u8 241, ki .u8 241, ki .u8 241, ki .u8 241, ki .u8 241, ki .u8 241, ki .u8 241, ki .u8 241, ki .u8 241, ki .u8 241, ki .u8 241, ki .u8 241, ki .u8 241, ki .u8 241, ki .u8 241, ki .u8 241, ki .u8 241, ki .u8 241, ki .u8 241, ki .u8 241, ki .u8 241, ki .u8 241, ki .u8 241, ki .u8 241, ki .u8 241, ki .u8 241, ki .u8 241, ki .u8 241, ki .u8 241, ki .u8 241, ki .u8 241, ki .u8 241, ki .u8 241, ki .u8 241, ki .u8 241, ki .u8 241, ki .u8 241, ki .u8 241, ki .u8 241, ki .u8 241, ki .u8 241, ki .u8 241, ki .u8 241, ki .u8 241, ki .u8 2, ki .u8 2, ki .u8 2, ki .u8 2, ki .u8 2, ki .u8 2, ki .u8 2, ki .u8 2, ki .u8 2, ki .u8 2, ki .u8 2, ki .u8 2, ki .u8 2, ki .u8 2, ki .u8 2, ki .u8 2, ki .u8 2, ki .u8 2, ki .u8 2, ki .u8 2, ki .u8 2, ki .u8 2, ki .u8 2, ki .u8 2, ki .u8 2, ki .u8 2, ki .u8 2, ki .u8 2, ki .u8 2, ki .u8 2, ki .u8 19, ki .u8 3, ki .u8 3, ki .u8 3, ki .u8 3, ki .u8 3, ki .u8 3, ki .u8 3, ki .u8 3, ki .u8 3, ki .u8 3, ki .u8 3, ki .u8 3, ki .u8 35, ki .u8 3, ki .u8 3, ki .u8 52, ki .u8 4, ki .u8 4, ki .u8 4, ki .u8 68, ki .u8 241, ki .u8 241, ki .u8 241, ki .u8 241, ki .u8 241, ki .u8 241, ki .u8 241, ki .u8 241, ki .u8 241, ki .u8 241, ki .u8 241]
def bk1 : ABlk := .cells 319 [ki .u64 1, ki .u64 10, ki .u64 100, ki .u64 1000, ki .u64 10000, ki .u64 100000, ki .u64 1000000, ki .u64 10000000, ki .u64 100000000, ki .u64 1000000000, ki .u64 10000000000, ki .u64 100000000000, ki .u64 1000000000000, ki .u64 10000000000000, ki .u64 100000000000000, ki .u64 1000000000000000, ki .u64 10000000000000000, ki .u64 100000000000000000, ki .u64 1000000000000000000, ki .u64 10000000000000000000]
def bk2 : ABlk := .cells 245 [ki .u8 0, ki .u8 1, ki .u8 56, ki .u8 2, ki .u8 57, ki .u8 49, ki .u8 28, ki .u8 3, ki .u8 61, ki .u8 58, ki .u8 42, ki .u8 50, ki .u8 38, ki .u8 29, ki .u8 17, ki .u8 4, ki .u8 62, ki .u8 47, ki .u8 59, ki .u8 36, ki .u8 45, ki .u8 43, ki .u8 51, ki .u8 22, ki .u8 53, ki .u8 39, ki .u8 33, ki .u8 30, ki .u8 24, ki .u8 18, ki .u8 12, ki .u8 5, ki .u8 63, ki .u8 55, ki .u8 48, ki .u8 27, ki .u8 60, ki .u8 41, ki .u8 37, ki .u8 16, ki .u8 46, ki .u8 35, ki .u8 44, ki .u8 21, ki .u8 52, ki .u8 32, ki .u8 23, ki .u8 11, ki .u8 54, ki .u8 26, ki .u8 40, ki .u8 15, ki .u8 34, ki .u8 20, ki .u8 31, ki .u8 10, ki .u8 25, ki .u8 14, ki .u8 19, ki .u8 9, ki .u8 13, ki .u8 8, ki .u8 7, ki .u8 6]
def tr3 : Tr ABlk := .node (some (bk1)) (.node (some (bk2)) .nil .nil) .nil
def tr4 : Tr ABlk := .node (some (.blob 52 1 (nk 1) .ifc)) .nil .nil
def bk5 : ABlk := .cells 287 [ki .u8 128, ki .u8 191, ki .u8 160, ki .u8 191, ki .u8 128, ki .u8 159, ki .u8 144, ki .u8 191, ki .u8 128, ki .u8 143, ki .u8 0, ki .u8 0, ki .u8 0, ki .u8 0, ki .u8 0, ki .u8 0, ki .u8 0, ki .u8 0, ki .u8 0, ki .u8 0, ki .u8 0, ki .u8 0, ki .u8 0, ki .u8 0, ki .u8 0, ki .u8 0, ki .u8 0, ki .u8 0, ki .u8 0, ki .u8 0, ki .u8 0, ki .u8 0]
def tr6 : Tr ABlk := .node (some (.blob 52 0 (nk 1) .ifc)) .nil .nil
def bk7 : ABlk := .cells 344 [ki .u8 0, ki .u8 1, ki .u8 28, ki .u8 2, ki .u8 29, ki .u8 14, ki .u8 24, ki .u8 3, ki .u8 30, ki .u8 22, ki .u8 20, ki .u8 15, ki .u8 25, ki .u8 17, ki .u8 4, ki .u8 8, ki .u8 31, ki .u8 27, ki .u8 13, ki .u8 23, ki .u8 21, ki .u8 19, ki .u8 16, ki .u8 7, ki .u8 26, ki .u8 12, ki .u8 18, ki .u8 6, ki .u8 11, ki .u8 5, ki .u8 10, ki .u8 9]
def tr8 : Tr ABlk := .node (some (bk5)) tr6 (.node (some (bk7)) .nil .nil)
def tr9 : Tr ABlk := .node none (.node (some (bk0)) tr3 tr4) tr8
def av10 : AV := .tup [(false, [ki .i64 256]), (false, [.bool (.known true)])]
def k11f82 : Contract := ⟨64, 2, [], [], [.sc (.str (.lit [50, 53, 54]))], tr9, 64, [⟨2, [], [], av10, tr9, 64⟩]⟩
def av12 : AV := .tup [(false, [ki .i64 384]), (false, [.bool (.known true)])]
def k13f82 : Contract := ⟨64, 2, [], [], [.sc (.str (.lit [51, 56, 52]))], tr9, 64, [⟨2, [], [], av12, tr9, 64⟩]⟩
def tr14 : Tr ABlk := .node (some (.blob 9 3 (at1 2) (.str 65536))) .nil .nil
def tr15 : Tr ABlk := .node none (.node none (.node none tr14 .nil) .nil) .nil
def tr16 : Tr ABlk := .node (some (.blob 52 0 (nk 1) .ifc)) tr15 .nil
def tr17 : Tr ABlk := .node (some (bk5)) tr16 (.node (some (bk7)) .nil .nil)
def tr18 : Tr ABlk := .node none (.node (some (bk0)) tr3 tr4) tr17
def av19 : AV := .agg [ki .i64 256, .slice 64 (nk 0) (at1 2) 1]
def k20f38 : Contract := ⟨64, 4, [(2, (.ofNat 1), (.ofNat 1))], [], [av19], tr18, 65, [⟨5, [], [], .sc (.str (.atom 4 (nk 64))), tr18, 65⟩]⟩
def av21 : AV := .agg [ki .i64 384, .slice 64 (nk 0) (at1 2) 1]
def k22f38 : Contract := ⟨64, 4, [(2, (.ofNat 1), (.ofNat 1))], [], [av21], tr18, 65, [⟨5, [], [], .sc (.str (.atom 4 (nk 96))), tr18, 65⟩]⟩
end Go.Hal.Bk
namespace Go.Hal
open Go
set_option maxRecDepth 1000000
set_option maxHeartbeats 0
noncomputable section
theorem run_d256 : checkF (envE c104 invs) 1000 38 Bk.k20f38 = .ok () := by kernel_rfl
theorem run_d384 : checkF (envE c104 invs) 1000 38 Bk.k22f38 = .ok () := by kernel_rfl
theorem run_n256 : checkF (envE w0 noInv) 1000 82 Bk.k11f82 = .ok () := by kernel_rfl
theorem run_n384 : checkF (envE w0 noInv) 1000 82 Bk.k13f82 = .ok () := by kernel_rfl
theorem d256_ok : CSound Go.Proofs.Tryz.prog 38 Bk.k20f38 ∧ Bk.k20f38.wf = true := fast_ok cok104 run_d256
theorem d384_ok : CSound Go.Proofs.Tryz.prog 38 Bk.k22f38 ∧ Bk.k22f38.wf = true := fast_ok cok104 run_d384
theorem n256_ok : CSound Go.Proofs.Tryz.prog 82 Bk.k11f82 ∧ Bk.k11f82.wf = true := fast_ok none_ok run_n256
theorem n384_ok : CSound Go.Proofs.Tryz.prog 82 Bk.k13f82 ∧ Bk.k13f82.wf = true := fast_ok none_ok run_n384
end
end Go.Hal
