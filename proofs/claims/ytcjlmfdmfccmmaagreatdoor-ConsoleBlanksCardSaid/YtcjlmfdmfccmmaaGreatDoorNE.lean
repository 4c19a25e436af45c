/- All contracts hold. -/
import Derived.Test.YtcjlmfdmfccmmaaGreatDoorC
import Derived.Test.YtcjlmfdmfccmmaaGreatDoorN0
import Derived.Test.YtcjlmfdmfccmmaaGreatDoorN1
import Derived.Test.YtcjlmfdmfccmmaaGreatDoorN2
import Derived.Test.YtcjlmfdmfccmmaaGreatDoorN3
import Derived.Test.YtcjlmfdmfccmmaaGreatDoorN4
import Derived.Test.YtcjlmfdmfccmmaaGreatDoorN5
import Derived.Test.YtcjlmfdmfccmmaaGreatDoorN6
import Derived.Test.YtcjlmfdmfccmmaaGreatDoorN7
namespace Go.Hal
open Go
set_option maxRecDepth 1000000
set_option maxHeartbeats 0
noncomputable section
theorem cok0 : ConsOk c0 := fun g c h => by cases h
theorem cok1 : ConsOk c1 := more1 cok0 (fast_ok cok0 run_k2f102)
theorem cok2 : ConsOk c2 := more1 cok1 (fast_ok cok1 run_k5f109)
theorem cok3 : ConsOk c3 := more1 cok2 (fast_ok cok2 run_k7f108)
theorem cok4 : ConsOk c4 := more1 cok3 (fast_ok cok3 run_k12f211)
theorem cok5 : ConsOk c5 := more1 cok4 (fast_ok cok4 run_k13f157)
theorem cok6 : ConsOk c6 := more1 cok5 (fast_ok cok5 run_k22f156)
theorem cok7 : ConsOk c7 := more1 cok6 (fast_ok cok6 run_k23f210)
theorem cok8 : ConsOk c8 := more1 cok7 (fast_ok cok7 run_k24f120)
theorem cok9 : ConsOk c9 := more1 cok8 (fast_ok cok8 run_k27f107)
theorem cok10 : ConsOk c10 := more1 cok9 (fast_ok cok9 run_k28f117)
theorem cok11 : ConsOk c11 := more1 cok10 (fast_ok cok10 run_k33f106)
theorem cok12 : ConsOk c12 := more1 cok11 (fast_ok cok11 run_k37f158)
theorem cok13 : ConsOk c13 := more1 cok12 (fast_ok cok12 run_k45f152)
theorem cok14 : ConsOk c14 := more1 cok13 (fast_ok cok13 run_k46f103)
theorem cok15 : ConsOk c15 := more1 cok14 (fast_ok cok14 run_k49f105)
theorem cok16 : ConsOk c16 := more1 cok15 (fast_ok cok15 run_k56f154)
theorem cok17 : ConsOk c17 := more1 cok16 (fast_ok cok16 run_k59f104)
theorem cok18 : ConsOk c18 := more1 cok17 (fast_ok cok17 run_k63f73)
theorem cok19 : ConsOk c19 := more1 cok18 (fast_ok cok18 run_k68f111)
theorem cok20 : ConsOk c20 := more1 cok19 (fast_ok cok19 run_k73f159)
theorem cok21 : ConsOk c21 := more1 cok20 (fast_ok cok20 run_k77f160)
theorem cok22 : ConsOk c22 := more1 cok21 (fast_ok cok21 run_k82f113)
theorem cok23 : ConsOk c23 := more1 cok22 (fast_ok cok22 run_k84f114)
theorem cok24 : ConsOk c24 := more1 cok23 (fast_ok cok23 run_k88f164)
theorem cok25 : ConsOk c25 := more1 cok24 (fast_ok cok24 run_k89f112)
theorem cok26 : ConsOk c26 := more1 cok25 (fast_ok cok25 run_k92f110)
theorem cok27 : ConsOk c27 := more1 cok26 (fast_ok cok26 run_k95f74)
theorem cok28 : ConsOk c28 := more1 cok27 (fast_ok cok27 run_k97f116)
theorem cok29 : ConsOk c29 := more1 cok28 (fast_ok cok28 run_k101f121)
theorem cok30 : ConsOk c30 := more1 cok29 (fast_ok cok29 run_k104f142)
theorem cok31 : ConsOk c31 := more1 cok30 (fast_ok cok30 run_k115f95)
theorem cok32 : ConsOk c32 := more1 cok31 (fast_ok cok31 run_k127f96)
theorem cok33 : ConsOk c33 := more1 cok32 (fast_ok cok32 run_k129f70)
theorem cok34 : ConsOk c34 := more1 cok33 (fast_ok cok33 run_k132f204)
theorem cok35 : ConsOk c35 := more1 cok34 (fast_ok cok34 run_k145f209)
theorem cok36 : ConsOk c36 := more1 cok35 (fast_ok cok35 run_k151f206)
theorem cok37 : ConsOk c37 := more1 cok36 (fast_ok cok36 run_k153f207)
theorem cok38 : ConsOk c38 := more1 cok37 (fast_ok cok37 run_k163f148)
theorem cok39 : ConsOk c39 := more1 cok38 (fast_ok cok38 run_k179f150)
theorem cok40 : ConsOk c40 := more1 cok39 (fast_ok cok39 run_k185f151)
theorem cok41 : ConsOk c41 := more1 cok40 (fast_ok cok40 run_k189f99)
theorem cok42 : ConsOk c42 := more1 cok41 (fast_ok cok41 run_k191f101)
theorem cok43 : ConsOk c43 := more1 cok42 (fast_ok cok42 run_k196f197)
theorem cok44 : ConsOk c44 := more1 cok43 (fast_ok cok43 run_k198f198)
theorem cok45 : ConsOk c45 := more1 cok44 (fast_ok cok44 run_k206f146)
theorem cok46 : ConsOk c46 := more1 cok45 (fast_ok cok45 run_k210f252)
theorem cok47 : ConsOk c47 := more1 cok46 (fast_ok cok46 run_k223f253)
theorem cok48 : ConsOk c48 := more1 cok47 (fast_ok cok47 run_k225f200)
theorem cok49 : ConsOk c49 := more1 cok48 (fast_ok cok48 run_k227f203)
theorem cok50 : ConsOk c50 := more1 cok49 (fast_ok cok49 run_k232f199)
theorem cok51 : ConsOk c51 := more1 cok50 (fast_ok cok50 run_k237f147)
theorem cok52 : ConsOk c52 := more1 cok51 (fast_ok cok51 run_k238f98)
theorem cok53 : ConsOk c53 := more1 cok52 (fast_ok cok52 run_k239f100)
theorem cok54 : ConsOk c54 := more1 cok53 (fast_ok cok53 run_k243f71)
theorem cok55 : ConsOk c55 := more1 cok54 (fast_ok cok54 run_k244f72)
theorem cok56 : ConsOk c56 := more1 cok55 (fast_ok cok55 run_k257f193)
theorem cok57 : ConsOk c57 := more1 cok56 (fast_ok cok56 run_k267f194)
theorem cok58 : ConsOk c58 := more_ok cok57 fun d hd => by
  simp only [List.mem_cons, List.not_mem_nil, or_false] at hd
  rcases hd with rfl | rfl
  · exact fast_ok cok57 run_k279f90
  · exact fast_ok cok57 run_k287f90
theorem cok59 : ConsOk c59 := more_ok cok58 fun d hd => by
  simp only [List.mem_cons, List.not_mem_nil, or_false] at hd
  rcases hd with rfl | rfl
  · exact fast_ok cok58 run_k297f140
  · exact fast_ok cok58 run_k304f140
theorem cok60 : ConsOk c60 := more_ok cok59 fun d hd => by
  simp only [List.mem_cons, List.not_mem_nil, or_false] at hd
  rcases hd with rfl | rfl
  · exact fast_ok cok59 run_k305f91
  · exact fast_ok cok59 run_k306f91
theorem cok61 : ConsOk c61 := more_ok cok60 fun d hd => by
  simp only [List.mem_cons, List.not_mem_nil, or_false] at hd
  rcases hd with rfl | rfl | rfl
  · exact fast_ok cok60 run_k308f89
  · exact fast_ok cok60 run_k309f89
  · exact fast_ok cok60 run_k324f89
theorem cok62 : ConsOk c62 := more_ok cok61 fun d hd => by
  simp only [List.mem_cons, List.not_mem_nil, or_false] at hd
  rcases hd with rfl | rfl | rfl
  · exact fast_ok cok61 run_k326f67
  · exact fast_ok cok61 run_k328f67
  · exact fast_ok cok61 run_k332f67
theorem cok63 : ConsOk c63 := more_ok cok62 fun d hd => by
  simp only [List.mem_cons, List.not_mem_nil, or_false] at hd
  rcases hd with rfl | rfl
  · exact fast_ok cok62 run_k334f141
  · exact fast_ok cok62 run_k336f141
theorem cok64 : ConsOk c64 := more_ok cok63 fun d hd => by
  simp only [List.mem_cons, List.not_mem_nil, or_false] at hd
  rcases hd with rfl | rfl
  · exact fast_ok cok63 run_k338f94
  · exact fast_ok cok63 run_k340f94
theorem cok65 : ConsOk c65 := more1 cok64 (fast_ok cok64 run_k344f69)
theorem cok66 : ConsOk c66 := more1 cok65 (fast_ok cok65 run_k360f162)
theorem cok67 : ConsOk c67 := more1 cok66 (fast_ok cok66 run_k365f163)
theorem cok68 : ConsOk c68 := more1 cok67 (fast_ok cok67 run_k368f115)
theorem cok69 : ConsOk c69 := more1 cok68 (fast_ok cok68 run_k370f75)
theorem cok70 : ConsOk c70 := more1 cok69 (fast_ok cok69 run_k373f264)
theorem cok71 : ConsOk c71 := more1 cok70 (fast_ok cok70 run_k395f174)
theorem cok72 : ConsOk c72 := more1 cok71 (fast_ok cok71 run_k398f181)
theorem cok73 : ConsOk c73 := more1 cok72 (fast_ok cok72 run_k401f232)
theorem cok74 : ConsOk c74 := more1 cok73 (fast_ok cok73 run_k416f175)
theorem cok75 : ConsOk c75 := more1 cok74 (fast_ok cok74 run_k431f179)
theorem cok76 : ConsOk c76 := more1 cok75 (fast_ok cok75 run_k441f170)
theorem cok77 : ConsOk c77 := more1 cok76 (fast_ok cok76 run_k444f227)
theorem cok78 : ConsOk c78 := more1 cok77 (fast_ok cok77 run_k449f261)
theorem cok79 : ConsOk c79 := more1 cok78 (fast_ok cok78 run_k454f278)
theorem cok80 : ConsOk c80 := more_ok cok79 fun d hd => by
  simp only [List.mem_cons, List.not_mem_nil, or_false] at hd
  rcases hd with rfl | rfl | rfl | rfl
  · exact fast_ok cok79 run_k476f258
  · exact fast_ok cok79 run_k480f258
  · exact fast_ok cok79 run_k481f258
  · exact fast_ok cok79 run_k482f258
theorem cok81 : ConsOk c81 := more_ok cok80 fun d hd => by
  simp only [List.mem_cons, List.not_mem_nil, or_false] at hd
  rcases hd with rfl | rfl | rfl | rfl
  · exact fast_ok cok80 run_k483f225
  · exact fast_ok cok80 run_k484f225
  · exact fast_ok cok80 run_k485f225
  · exact fast_ok cok80 run_k486f225
theorem cok82 : ConsOk c82 := more_ok cok81 fun d hd => by
  simp only [List.mem_cons, List.not_mem_nil, or_false] at hd
  rcases hd with rfl | rfl
  · exact fast_ok cok81 run_k487f276
  · exact fast_ok cok81 run_k488f276
theorem cok83 : ConsOk c83 := more_ok cok82 fun d hd => by
  simp only [List.mem_cons, List.not_mem_nil, or_false] at hd
  rcases hd with rfl | rfl
  · exact fast_ok cok82 run_k489f284
  · exact fast_ok cok82 run_k490f284
theorem cok84 : ConsOk c84 := more_ok cok83 fun d hd => by
  simp only [List.mem_cons, List.not_mem_nil, or_false] at hd
  rcases hd with rfl | rfl
  · exact fast_ok cok83 run_k493f219
  · exact fast_ok cok83 run_k494f219
theorem cok85 : ConsOk c85 := more1 cok84 (fast_ok cok84 run_k495f260)
theorem cok86 : ConsOk c86 := more1 cok85 (fast_ok cok85 run_k496f277)
theorem cok87 : ConsOk c87 := more1 cok86 (fast_ok cok86 run_k499f259)
theorem cok88 : ConsOk c88 := more1 cok87 (fast_ok cok87 run_k513f262)
theorem cok89 : ConsOk c89 := more_ok cok88 fun d hd => by
  simp only [List.mem_cons, List.not_mem_nil, or_false] at hd
  rcases hd with rfl | rfl
  · exact fast_ok cok88 run_k537f221
  · exact fast_ok cok88 run_k560f221
theorem cok90 : ConsOk c90 := more_ok cok89 fun d hd => by
  simp only [List.mem_cons, List.not_mem_nil, or_false] at hd
  rcases hd with rfl | rfl
  · exact fast_ok cok89 run_k561f223
  · exact fast_ok cok89 run_k562f223
theorem cok91 : ConsOk c91 := more1 cok90 (fast_ok cok90 run_k576f168)
theorem cok92 : ConsOk c92 := more1 cok91 (fast_ok cok91 run_k585f169)
theorem cok93 : ConsOk c93 := more1 cok92 (fast_ok cok92 run_k594f173)
theorem cok94 : ConsOk c94 := more1 cok93 (fast_ok cok93 run_k603f180)
theorem cok95 : ConsOk c95 := more1 cok94 (fast_ok cok94 run_k620f124)
theorem cok96 : ConsOk c96 := more1 cok95 (fast_ok cok95 run_k623f76)
theorem cok97 : ConsOk c97 := more1 cok96 (fast_ok cok96 run_k634f77)
theorem cok98 : ConsOk c98 := more1 cok97 (fast_ok cok97 run_k637f190)
theorem cok99 : ConsOk c99 := more1 cok98 (fast_ok cok98 run_k639f133)
theorem cok100 : ConsOk c100 := more1 cok99 (fast_ok cok99 run_k640f132)
theorem cok101 : ConsOk c101 := more1 cok100 (fast_ok cok100 run_k644f134)
theorem cok102 : ConsOk c102 := more1 cok101 (fast_ok cok101 run_k647f82)
theorem cok103 : ConsOk c103 := more1 cok102 (fast_ok cok102 run_k650f83)
theorem cok104 : ConsOk c104 := more_ok cok103 fun d hd => by
  simp only [List.mem_cons, List.not_mem_nil, or_false] at hd
  rcases hd with rfl | rfl | rfl
  · exact fast_ok cok103 run_k651f68
  · exact fast_ok cok103 run_k652f68
  · exact fast_ok cok103 run_k653f68
theorem cok105 : ConsOk c105 := more1 cok104 (fast_ok cok104 run_k661f38)
theorem cok106 : ConsOk c106 := more1 cok105 (fast_ok cok105 run_k663f39)
theorem cok107 : ConsOk c107 := more1 cok106 (fast_ok cok106 run_k664f40)
theorem cok108 : ConsOk c108 := more1 cok107 (fast_ok cok107 run_k666f41)
theorem cok109 : ConsOk c109 := more1 cok108 (fast_ok cok108 run_k667f42)
theorem cok110 : ConsOk c110 := more1 cok109 (fast_ok cok109 run_k668f43)
theorem cok111 : ConsOk c111 := more1 cok110 (fast_ok cok110 run_k669f44)
theorem cok112 : ConsOk c112 := more1 cok111 (fast_ok cok111 run_k671f45)
theorem cok113 : ConsOk c113 := more1 cok112 (fast_ok cok112 run_k672f46)
theorem cok114 : ConsOk c114 := more1 cok113 (fast_ok cok113 run_k676f18)
theorem cok115 : ConsOk c115 := more1 cok114 (fast_ok cok114 run_k683f23)
end
end Go.Hal
