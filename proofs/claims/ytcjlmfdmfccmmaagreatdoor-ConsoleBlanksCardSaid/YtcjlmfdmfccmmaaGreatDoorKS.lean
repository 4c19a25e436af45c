/- The contracts that stand before each function. -/
import Derived.Test.YtcjlmfdmfccmmaaGreatDoorK
import Derived.Test.YtcjlmfdmfccmmaaGreatDoorA
namespace Go.Hal
open Go
def c0 : Nat → List Contract := fun _ => []
def c1 : Nat → List Contract := fun g => bif Nat.beq g 102 then [k2f102] else c0 g
def c2 : Nat → List Contract := fun g => bif Nat.beq g 109 then [k5f109] else c1 g
def c3 : Nat → List Contract := fun g => bif Nat.beq g 108 then [k7f108] else c2 g
def c4 : Nat → List Contract := fun g => bif Nat.beq g 211 then [k12f211] else c3 g
def c5 : Nat → List Contract := fun g => bif Nat.beq g 157 then [k13f157] else c4 g
def c6 : Nat → List Contract := fun g => bif Nat.beq g 156 then [k22f156] else c5 g
def c7 : Nat → List Contract := fun g => bif Nat.beq g 210 then [k23f210] else c6 g
def c8 : Nat → List Contract := fun g => bif Nat.beq g 120 then [k24f120] else c7 g
def c9 : Nat → List Contract := fun g => bif Nat.beq g 107 then [k27f107] else c8 g
def c10 : Nat → List Contract := fun g => bif Nat.beq g 117 then [k28f117] else c9 g
def c11 : Nat → List Contract := fun g => bif Nat.beq g 106 then [k33f106] else c10 g
def c12 : Nat → List Contract := fun g => bif Nat.beq g 158 then [k37f158] else c11 g
def c13 : Nat → List Contract := fun g => bif Nat.beq g 152 then [k45f152] else c12 g
def c14 : Nat → List Contract := fun g => bif Nat.beq g 103 then [k46f103] else c13 g
def c15 : Nat → List Contract := fun g => bif Nat.beq g 105 then [k49f105] else c14 g
def c16 : Nat → List Contract := fun g => bif Nat.beq g 154 then [k56f154] else c15 g
def c17 : Nat → List Contract := fun g => bif Nat.beq g 104 then [k59f104] else c16 g
def c18 : Nat → List Contract := fun g => bif Nat.beq g 73 then [k63f73] else c17 g
def c19 : Nat → List Contract := fun g => bif Nat.beq g 111 then [k68f111] else c18 g
def c20 : Nat → List Contract := fun g => bif Nat.beq g 159 then [k73f159] else c19 g
def c21 : Nat → List Contract := fun g => bif Nat.beq g 160 then [k77f160] else c20 g
def c22 : Nat → List Contract := fun g => bif Nat.beq g 113 then [k82f113] else c21 g
def c23 : Nat → List Contract := fun g => bif Nat.beq g 114 then [k84f114] else c22 g
def c24 : Nat → List Contract := fun g => bif Nat.beq g 164 then [k88f164] else c23 g
def c25 : Nat → List Contract := fun g => bif Nat.beq g 112 then [k89f112] else c24 g
def c26 : Nat → List Contract := fun g => bif Nat.beq g 110 then [k92f110] else c25 g
def c27 : Nat → List Contract := fun g => bif Nat.beq g 74 then [k95f74] else c26 g
def c28 : Nat → List Contract := fun g => bif Nat.beq g 116 then [k97f116] else c27 g
def c29 : Nat → List Contract := fun g => bif Nat.beq g 121 then [k101f121] else c28 g
def c30 : Nat → List Contract := fun g => bif Nat.beq g 142 then [k104f142] else c29 g
def c31 : Nat → List Contract := fun g => bif Nat.beq g 95 then [k115f95] else c30 g
def c32 : Nat → List Contract := fun g => bif Nat.beq g 96 then [k127f96] else c31 g
def c33 : Nat → List Contract := fun g => bif Nat.beq g 70 then [k129f70] else c32 g
def c34 : Nat → List Contract := fun g => bif Nat.beq g 204 then [k132f204] else c33 g
def c35 : Nat → List Contract := fun g => bif Nat.beq g 209 then [k145f209] else c34 g
def c36 : Nat → List Contract := fun g => bif Nat.beq g 206 then [k151f206] else c35 g
def c37 : Nat → List Contract := fun g => bif Nat.beq g 207 then [k153f207] else c36 g
def c38 : Nat → List Contract := fun g => bif Nat.beq g 148 then [k163f148] else c37 g
def c39 : Nat → List Contract := fun g => bif Nat.beq g 150 then [k179f150] else c38 g
def c40 : Nat → List Contract := fun g => bif Nat.beq g 151 then [k185f151] else c39 g
def c41 : Nat → List Contract := fun g => bif Nat.beq g 99 then [k189f99] else c40 g
def c42 : Nat → List Contract := fun g => bif Nat.beq g 101 then [k191f101] else c41 g
def c43 : Nat → List Contract := fun g => bif Nat.beq g 197 then [k196f197] else c42 g
def c44 : Nat → List Contract := fun g => bif Nat.beq g 198 then [k198f198] else c43 g
def c45 : Nat → List Contract := fun g => bif Nat.beq g 146 then [k206f146] else c44 g
def c46 : Nat → List Contract := fun g => bif Nat.beq g 252 then [k210f252] else c45 g
def c47 : Nat → List Contract := fun g => bif Nat.beq g 253 then [k223f253] else c46 g
def c48 : Nat → List Contract := fun g => bif Nat.beq g 200 then [k225f200] else c47 g
def c49 : Nat → List Contract := fun g => bif Nat.beq g 203 then [k227f203] else c48 g
def c50 : Nat → List Contract := fun g => bif Nat.beq g 199 then [k232f199] else c49 g
def c51 : Nat → List Contract := fun g => bif Nat.beq g 147 then [k237f147] else c50 g
def c52 : Nat → List Contract := fun g => bif Nat.beq g 98 then [k238f98] else c51 g
def c53 : Nat → List Contract := fun g => bif Nat.beq g 100 then [k239f100] else c52 g
def c54 : Nat → List Contract := fun g => bif Nat.beq g 71 then [k243f71] else c53 g
def c55 : Nat → List Contract := fun g => bif Nat.beq g 72 then [k244f72] else c54 g
def c56 : Nat → List Contract := fun g => bif Nat.beq g 193 then [k257f193] else c55 g
def c57 : Nat → List Contract := fun g => bif Nat.beq g 194 then [k267f194] else c56 g
def c58 : Nat → List Contract := fun g => bif Nat.beq g 90 then [k279f90, k287f90] else c57 g
def c59 : Nat → List Contract := fun g => bif Nat.beq g 140 then [k297f140, k304f140] else c58 g
def c60 : Nat → List Contract := fun g => bif Nat.beq g 91 then [k305f91, k306f91] else c59 g
def c61 : Nat → List Contract := fun g => bif Nat.beq g 89 then [k308f89, k309f89, k324f89] else c60 g
def c62 : Nat → List Contract := fun g => bif Nat.beq g 67 then [k326f67, k328f67, k332f67] else c61 g
def c63 : Nat → List Contract := fun g => bif Nat.beq g 141 then [k334f141, k336f141] else c62 g
def c64 : Nat → List Contract := fun g => bif Nat.beq g 94 then [k338f94, k340f94] else c63 g
def c65 : Nat → List Contract := fun g => bif Nat.beq g 69 then [k344f69] else c64 g
def c66 : Nat → List Contract := fun g => bif Nat.beq g 162 then [k360f162] else c65 g
def c67 : Nat → List Contract := fun g => bif Nat.beq g 163 then [k365f163] else c66 g
def c68 : Nat → List Contract := fun g => bif Nat.beq g 115 then [k368f115] else c67 g
def c69 : Nat → List Contract := fun g => bif Nat.beq g 75 then [k370f75] else c68 g
def c70 : Nat → List Contract := fun g => bif Nat.beq g 264 then [k373f264] else c69 g
def c71 : Nat → List Contract := fun g => bif Nat.beq g 174 then [k395f174] else c70 g
def c72 : Nat → List Contract := fun g => bif Nat.beq g 181 then [k398f181] else c71 g
def c73 : Nat → List Contract := fun g => bif Nat.beq g 232 then [k401f232] else c72 g
def c74 : Nat → List Contract := fun g => bif Nat.beq g 175 then [k416f175] else c73 g
def c75 : Nat → List Contract := fun g => bif Nat.beq g 179 then [k431f179] else c74 g
def c76 : Nat → List Contract := fun g => bif Nat.beq g 170 then [k441f170] else c75 g
def c77 : Nat → List Contract := fun g => bif Nat.beq g 227 then [k444f227] else c76 g
def c78 : Nat → List Contract := fun g => bif Nat.beq g 261 then [k449f261] else c77 g
def c79 : Nat → List Contract := fun g => bif Nat.beq g 278 then [k454f278] else c78 g
def c80 : Nat → List Contract := fun g => bif Nat.beq g 258 then [k476f258, k480f258, k481f258, k482f258] else c79 g
def c81 : Nat → List Contract := fun g => bif Nat.beq g 225 then [k483f225, k484f225, k485f225, k486f225] else c80 g
def c82 : Nat → List Contract := fun g => bif Nat.beq g 276 then [k487f276, k488f276] else c81 g
def c83 : Nat → List Contract := fun g => bif Nat.beq g 284 then [k489f284, k490f284] else c82 g
def c84 : Nat → List Contract := fun g => bif Nat.beq g 219 then [k493f219, k494f219] else c83 g
def c85 : Nat → List Contract := fun g => bif Nat.beq g 260 then [k495f260] else c84 g
def c86 : Nat → List Contract := fun g => bif Nat.beq g 277 then [k496f277] else c85 g
def c87 : Nat → List Contract := fun g => bif Nat.beq g 259 then [k499f259] else c86 g
def c88 : Nat → List Contract := fun g => bif Nat.beq g 262 then [k513f262] else c87 g
def c89 : Nat → List Contract := fun g => bif Nat.beq g 221 then [k537f221, k560f221] else c88 g
def c90 : Nat → List Contract := fun g => bif Nat.beq g 223 then [k561f223, k562f223] else c89 g
def c91 : Nat → List Contract := fun g => bif Nat.beq g 168 then [k576f168] else c90 g
def c92 : Nat → List Contract := fun g => bif Nat.beq g 169 then [k585f169] else c91 g
def c93 : Nat → List Contract := fun g => bif Nat.beq g 173 then [k594f173] else c92 g
def c94 : Nat → List Contract := fun g => bif Nat.beq g 180 then [k603f180] else c93 g
def c95 : Nat → List Contract := fun g => bif Nat.beq g 124 then [k620f124] else c94 g
def c96 : Nat → List Contract := fun g => bif Nat.beq g 76 then [k623f76] else c95 g
def c97 : Nat → List Contract := fun g => bif Nat.beq g 77 then [k634f77] else c96 g
def c98 : Nat → List Contract := fun g => bif Nat.beq g 190 then [k637f190] else c97 g
def c99 : Nat → List Contract := fun g => bif Nat.beq g 133 then [k639f133] else c98 g
def c100 : Nat → List Contract := fun g => bif Nat.beq g 132 then [k640f132] else c99 g
def c101 : Nat → List Contract := fun g => bif Nat.beq g 134 then [k644f134] else c100 g
def c102 : Nat → List Contract := fun g => bif Nat.beq g 82 then [k647f82] else c101 g
def c103 : Nat → List Contract := fun g => bif Nat.beq g 83 then [k650f83] else c102 g
def c104 : Nat → List Contract := fun g => bif Nat.beq g 68 then [k651f68, k652f68, k653f68] else c103 g
def c105 : Nat → List Contract := fun g => bif Nat.beq g 38 then [k661f38] else c104 g
def c106 : Nat → List Contract := fun g => bif Nat.beq g 39 then [k663f39] else c105 g
def c107 : Nat → List Contract := fun g => bif Nat.beq g 40 then [k664f40] else c106 g
def c108 : Nat → List Contract := fun g => bif Nat.beq g 41 then [k666f41] else c107 g
def c109 : Nat → List Contract := fun g => bif Nat.beq g 42 then [k667f42] else c108 g
def c110 : Nat → List Contract := fun g => bif Nat.beq g 43 then [k668f43] else c109 g
def c111 : Nat → List Contract := fun g => bif Nat.beq g 44 then [k669f44] else c110 g
def c112 : Nat → List Contract := fun g => bif Nat.beq g 45 then [k671f45] else c111 g
def c113 : Nat → List Contract := fun g => bif Nat.beq g 46 then [k672f46] else c112 g
def c114 : Nat → List Contract := fun g => bif Nat.beq g 18 then [k676f18] else c113 g
def c115 : Nat → List Contract := fun g => bif Nat.beq g 23 then [k683f23] else c114 g
def c116 : Nat → List Contract := fun g => bif Nat.beq g 8 then [k684f8] else c115 g
end Go.Hal
