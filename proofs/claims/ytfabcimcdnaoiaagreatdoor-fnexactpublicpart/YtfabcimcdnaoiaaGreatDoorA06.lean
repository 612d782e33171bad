/- A part of the proof of publicPart_holds: Gt. No condition of its own. -/
import Derived.Test.YtfabcimcdnaoiaaGreatDoorA05
set_option autoImplicit false
set_option maxRecDepth 1000000
set_option maxHeartbeats 0
set_option linter.unusedVariables false
set_option linter.unusedSimpArgs false
namespace Go.Vi
open Go
abbrev tI : Ty := .int .i64
abbrev tU8 : Ty := .int .u8
abbrev tU32 : Ty := .int .u32
abbrev tU64 : Ty := .int .u64
abbrev tI32 : Ty := .int .i32
abbrev tS : Ty := .str
abbrev tB : Ty := .bool

def TT : TTab := [(3, ⟨tI, 0, 0⟩),
  (4, ⟨tB, 0, 0⟩),
  (5, ⟨tU8, 0, 0⟩),
  (9, ⟨tS, 0, 0⟩),
  (23, ⟨(.pair tI (.pair tI (.pair tB (.pair tB (.pair tB (.pair tB (.pair tS (.pair tI .unit)))))))), 0, 0⟩),
  (26, ⟨(.pair tI (.pair tI (.pair tB (.pair tB (.pair tB (.pair tB (.pair tS (.pair tI .unit)))))))), 0, 0⟩),
  (29, ⟨(.list tU8), 1, 5⟩),
  (39, ⟨(.pair tS (.pair tS .unit)), 0, 0⟩),
  (50, ⟨(.pair tS (.pair tI (.pair tB .unit))), 0, 0⟩),
  (57, ⟨(.pair tS (.pair tI (.pair tB .unit))), 0, 0⟩),
  (60, ⟨(.list (.list tI)), 24, 62⟩),
  (62, ⟨(.list tI), 8, 3⟩),
  (75, ⟨(.pair (.list tU8) (.pair tI (.pair tI .unit))), 0, 0⟩),
  (76, ⟨(.list tB), 1, 4⟩),
  (86, ⟨(.pair tS (.pair tS (.pair tI .unit))), 0, 0⟩),
  (96, ⟨(.list tS), 16, 9⟩),
  (98, ⟨tU32, 0, 0⟩),
  (99, ⟨(.arr 8 tU32), 0, 0⟩),
  (110, ⟨(.list tU32), 4, 98⟩),
  (116, ⟨(.pair tS (.pair tI .unit)), 0, 0⟩),
  (125, ⟨tU64, 0, 0⟩),
  (131, ⟨(.arr 64 tU32), 0, 0⟩),
  (136, ⟨(.list tU64), 8, 138⟩),
  (138, ⟨tU64, 0, 0⟩),
  (142, ⟨(.arr 25 tU64), 0, 0⟩),
  (151, ⟨(.arr 5 tU64), 0, 0⟩)]
def keysData : List Int := [1116352408, 1899447441, 3049323471, 3921009573, 961987163, 1508970993, 2453635748, 2870763221, 3624381080, 310598401, 607225278, 1426881987, 1925078388, 2162078206, 2614888103, 3248222580, 3835390401, 4022224774, 264347078, 604807628, 770255983, 1249150122, 1555081692, 1996064986, 2554220882, 2821834349, 2952996808, 3210313671, 3336571891, 3584528711, 113926993, 338241895, 666307205, 773529912, 1294757372, 1396182291, 1695183700, 1986661051, 2177026350, 2456956037, 2730485921, 2820302411, 3259730800, 3345764771, 3516065817, 3600352804, 4094571909, 275423344, 430227734, 506948616, 659060556, 883997877, 958139571, 1322822218, 1537002063, 1747873779, 1955562222, 2024104815, 2227730452, 2361852424, 2428436474, 2756734187, 3204031479, 3329325298]
def GL : List (Nat × GV) := [(0, ⟨.arr 64 tU32, keysData⟩)]
abbrev laws_szThing.s : Sig := ⟨[.ro (.pair tI (.pair tI (.pair tB (.pair tB (.pair tB (.pair tB (.pair tS (.pair tI .unit)))))))), .ro tI], [.v tI]⟩
abbrev spec_l01In.s : Sig := ⟨[.ro tI, .ro tI, .ro tI], [.v tB]⟩
abbrev spec_ThingOk.s : Sig := ⟨[.ro (.pair tI (.pair tI (.pair tB (.pair tB (.pair tB (.pair tB (.pair tS (.pair tI .unit))))))))], [.v tB]⟩
abbrev spec_HasherOk.s : Sig := ⟨[.ro (.pair tS (.pair tS (.pair tI .unit)))], [.v tB]⟩
abbrev spec_l05Word.s : Sig := ⟨[.ro tS, .ro tI], [.v tU32]⟩
abbrev spec_l05Words.s : Sig := ⟨[.ro tS], [.row tU32]⟩
abbrev spec_l05K.s : Sig := ⟨[], [.v (.list tU32)]⟩
abbrev spec_l05Right.s : Sig := ⟨[.ro tU32, .ro tU32, .ro tU32], [.v tU32]⟩
abbrev spec_l05S.s : Sig := ⟨[.ro tU32, .ro tU32, .ro tU32, .ro tU32, .ro tB], [.v tU32]⟩
abbrev spec_l05Round.s : Sig := ⟨[.ro (.list tU32), .ro (.list tU32), .ro tS], [.v (.list tU32)]⟩
abbrev spec_l05Bytes.s : Sig := ⟨[.ro (.list tU32)], [.v tS]⟩
abbrev spec_HashEnd.s : Sig := ⟨[.ro (.pair tS (.pair tS (.pair tI .unit)))], [.v tS]⟩
abbrev spec_HashMore.s : Sig := ⟨[.ro (.pair tS (.pair tS (.pair tI .unit))), .ro tS], [.v (.pair tS (.pair tS (.pair tI .unit)))]⟩
abbrev spec_l05First.s : Sig := ⟨[], [.v (.list tU32)]⟩
abbrev spec_HasherNew.s : Sig := ⟨[], [.v (.pair tS (.pair tS (.pair tI .unit)))]⟩
abbrev spec_DigestOf.s : Sig := ⟨[.ro tS], [.v tS]⟩
abbrev spec_l06Byte.s : Sig := ⟨[.ro tI], [.v tS]⟩
abbrev spec_l07Lanes.s : Sig := ⟨[.ro tS], [.row tU64]⟩
abbrev spec_l07Turns.s : Sig := ⟨[], [.v (.list tI)]⟩
abbrev spec_l07Rounds.s : Sig := ⟨[], [.v (.list tU64)]⟩
abbrev spec_l07Left.s : Sig := ⟨[.ro tU64, .ro tI], [.v tU64]⟩
abbrev spec_l07Round.s : Sig := ⟨[.ro (.list tU64), .ro (.list tI), .ro tU64], [.row tU64]⟩
abbrev spec_l07Permute.s : Sig := ⟨[.mv (.row tU64)], [.row tU64]⟩
abbrev spec_l07Bytes.s : Sig := ⟨[.ro (.list tU64)], [.v tS]⟩
abbrev spec_l07Absorb.s : Sig := ⟨[.ro tS, .ro tI, .ro tU8], [.v tS]⟩
abbrev spec_StreamNew.s : Sig := ⟨[.ro tS], [.v (.pair tS (.pair tI .unit))]⟩
abbrev spec_Permute.s : Sig := ⟨[.ro tS], [.v tS]⟩
abbrev spec_StreamTake.s : Sig := ⟨[.ro (.pair tS (.pair tI .unit)), .ro tI], [.v (.pair tS (.pair tI .unit)), .v tS]⟩
abbrev spec_Uniform.s : Sig := ⟨[.ro tS, .ro tI, .ro tI], [.v (.list tI)]⟩
abbrev spec_l13Matrix.s : Sig := ⟨[.ro tS], [.v (.list (.list tI))]⟩
abbrev spec_PolyOk.s : Sig := ⟨[.ro (.list tI)], [.v tB]⟩
abbrev spec_PowQ.s : Sig := ⟨[.ro tI, .ro tI], [.v tI]⟩
abbrev spec_Turn7.s : Sig := ⟨[.ro tI], [.v tI]⟩
abbrev spec_Ntt.s : Sig := ⟨[.ro (.list tI)], [.v (.list tI)]⟩
abbrev spec_ShakeOf.s : Sig := ⟨[.ro tS, .ro tI], [.v tS, .v tB]⟩
abbrev spec_Small.s : Sig := ⟨[.ro tS, .ro tI], [.v (.list tI)]⟩
abbrev spec_l11Two.s : Sig := ⟨[.ro tI], [.v tI]⟩
abbrev spec_Pack.s : Sig := ⟨[.ro (.list tI), .ro tI], [.v tS, .v tB]⟩
abbrev spec_PolyBytes.s : Sig := ⟨[.ro (.list tI)], [.v tS]⟩
abbrev spec_PolyAdd.s : Sig := ⟨[.ro (.list tI), .ro (.list tI)], [.v (.list tI)]⟩
abbrev spec_MulNtt.s : Sig := ⟨[.ro (.list tI), .ro (.list tI)], [.v (.list tI)]⟩
abbrev spec_l13Sum.s : Sig := ⟨[.ro (.list (.list tI)), .ro (.list (.list tI))], [.v (.list tI)]⟩
abbrev spec_PairOf.s : Sig := ⟨[.ro tS], [.v (.pair tS (.pair tS .unit)), .v tB]⟩
abbrev spec_Chop.s : Sig := ⟨[.ro tS], [.v tS]⟩
abbrev spec_Node.s : Sig := ⟨[.ro tI, .ro tI, .ro tS, .ro tS], [.v tS]⟩
abbrev spec_LevelUp.s : Sig := ⟨[.ro tI, .ro (.list tS)], [.v (.list tS)]⟩
abbrev spec_RootOf.s : Sig := ⟨[.ro (.list tS)], [.v tS]⟩
abbrev spec_ChainOf.s : Sig := ⟨[.ro tS, .ro tI, .ro tI, .ro tI, .ro tI], [.v tS]⟩
abbrev spec_OncePublic.s : Sig := ⟨[.ro (.list tS), .ro tI], [.v tS]⟩
abbrev spec_OnceKey.s : Sig := ⟨[.ro tS, .ro tI], [.v (.list tS)]⟩
abbrev spec_l16Leaves.s : Sig := ⟨[.ro tS], [.v (.list tS)]⟩
abbrev spec_PublicOf.s : Sig := ⟨[.ro tS], [.v tS]⟩
abbrev spec_HyperPublic.s : Sig := ⟨[.ro tS], [.v tS]⟩
abbrev spec_PublicPart.s : Sig := ⟨[.ro (.pair tI (.pair tI (.pair tB (.pair tB (.pair tB (.pair tB (.pair tS (.pair tI .unit))))))))], [.v tS]⟩
abbrev laws_toThing.s : Sig := ⟨[.ro (.pair tI (.pair tI (.pair tB (.pair tB (.pair tB (.pair tB (.pair tS (.pair tI .unit))))))))], [.v (.pair tI (.pair tI (.pair tB (.pair tB (.pair tB (.pair tB (.pair tS (.pair tI .unit))))))))]⟩
abbrev impl_in.s : Sig := ⟨[.ro tI, .ro tI, .ro tI], [.v tB]⟩
abbrev impl_ThingOk.s : Sig := ⟨[.ro (.pair tI (.pair tI (.pair tB (.pair tB (.pair tB (.pair tB (.pair tS (.pair tI .unit))))))))], [.v tB]⟩
abbrev math_bits_RotateLeft32.s : Sig := ⟨[.ro tU32, .ro tI], [.v tU32]⟩
abbrev impl_right.s : Sig := ⟨[.ro tU32, .ro tI], [.v tU32]⟩
abbrev impl_wordsOf.s : Sig := ⟨[.ro tS], [.v (.arr 64 tU32)]⟩
abbrev impl_oneBlock.s : Sig := ⟨[.ro (.arr 8 tU32), .ro tS], [.v (.arr 8 tU32)]⟩
abbrev impl_blocks.s : Sig := ⟨[.ro (.arr 8 tU32), .ro tS], [.v (.arr 8 tU32), .v tS]⟩
abbrev impl_firstState.s : Sig := ⟨[], [.v (.arr 8 tU32)]⟩
abbrev impl_zeros.s : Sig := ⟨[.ro tI], [.v tS]⟩
abbrev impl_fourBytes.s : Sig := ⟨[.ro tU32], [.v tS]⟩
abbrev impl_eightBytes.s : Sig := ⟨[.ro tI], [.v tS]⟩
abbrev impl_ending.s : Sig := ⟨[.ro tI], [.v tS]⟩
abbrev impl_stateText.s : Sig := ⟨[.ro (.arr 8 tU32)], [.v tS]⟩
abbrev impl_DigestOf.s : Sig := ⟨[.ro tS], [.v tS]⟩
abbrev impl_PolyOk.s : Sig := ⟨[.ro (.list tI)], [.v tB]⟩
abbrev impl_copyInts.s : Sig := ⟨[.ro (.list tI)], [.row tI]⟩
abbrev impl_modQ.s : Sig := ⟨[.ro tI], [.v tI]⟩
abbrev impl_PowQ.s : Sig := ⟨[.ro tI, .ro tI], [.v tI]⟩
abbrev impl_Turn7.s : Sig := ⟨[.ro tI], [.v tI]⟩
abbrev impl_Ntt.s : Sig := ⟨[.ro (.list tI)], [.v (.list tI)]⟩
abbrev impl_ntts.s : Sig := ⟨[.ro (.list (.list tI))], [.v (.list (.list tI))]⟩
abbrev impl_oneByte.s : Sig := ⟨[.ro tI], [.v tS]⟩
abbrev math_bits_RotateLeft64.s : Sig := ⟨[.ro tU64, .ro tI], [.v tU64]⟩
abbrev impl_lanes_theta.s : Sig := ⟨[.ro (.arr 25 tU64)], [.v (.arr 25 tU64)]⟩
abbrev impl_lanes_rhoPi.s : Sig := ⟨[.ro (.arr 25 tU64)], [.v (.arr 25 tU64)]⟩
abbrev impl_lanes_chi.s : Sig := ⟨[.ro (.arr 25 tU64)], [.v (.arr 25 tU64)]⟩
abbrev impl_roundBit.s : Sig := ⟨[.ro tI], [.v tU64]⟩
abbrev impl_roundLane.s : Sig := ⟨[.ro tI], [.v tU64]⟩
abbrev impl_permuted.s : Sig := ⟨[.ro (.arr 25 tU64)], [.v (.arr 25 tU64)]⟩
abbrev impl_lanesOf.s : Sig := ⟨[.ro tS], [.v (.arr 25 tU64)]⟩
abbrev impl_lanes_text.s : Sig := ⟨[.ro (.arr 25 tU64)], [.v tS]⟩
abbrev impl_Permute.s : Sig := ⟨[.ro tS], [.v tS]⟩
abbrev impl_absorbed.s : Sig := ⟨[.ro tS, .ro tI, .ro tU8], [.v tS]⟩
abbrev impl_StreamNew.s : Sig := ⟨[.ro tS], [.v (.pair tS (.pair tI .unit))]⟩
abbrev impl_StreamTake.s : Sig := ⟨[.ro (.pair tS (.pair tI .unit)), .ro tI], [.v (.pair tS (.pair tI .unit)), .v tS]⟩
abbrev impl_ShakeOf.s : Sig := ⟨[.ro tS, .ro tI], [.v tS, .v tB]⟩
abbrev impl_Small.s : Sig := ⟨[.ro tS, .ro tI], [.v (.list tI)]⟩
abbrev impl_smalls.s : Sig := ⟨[.ro tS, .ro tI], [.v (.list (.list tI))]⟩
abbrev impl_packed.s : Sig := ⟨[.ro (.list tI), .ro tI], [.v tS]⟩
abbrev impl_PolyBytes.s : Sig := ⟨[.ro (.list tI)], [.v tS]⟩
abbrev impl_PolyAdd_1.s : Sig := ⟨[.ro tI, .ro tI], [.v tI]⟩
abbrev impl_each.s : Sig := ⟨[.ro (.list tI), .ro (.list tI), .fn 86], [.v (.list tI)]⟩
abbrev impl_PolyAdd.s : Sig := ⟨[.ro (.list tI), .ro (.list tI)], [.v (.list tI)]⟩
abbrev impl_MulNtt.s : Sig := ⟨[.ro (.list tI), .ro (.list tI)], [.v (.list tI)]⟩
abbrev impl_dot.s : Sig := ⟨[.ro (.list (.list tI)), .ro (.list (.list tI))], [.v (.list tI)]⟩
abbrev impl_Uniform.s : Sig := ⟨[.ro tS, .ro tI, .ro tI], [.v (.list tI)]⟩
abbrev impl_row.s : Sig := ⟨[.ro tS, .ro tI, .ro tB], [.v (.list (.list tI))]⟩
abbrev impl_PairOf.s : Sig := ⟨[.ro tS], [.v (.pair tS (.pair tS .unit)), .v tB]⟩
abbrev impl_Chop.s : Sig := ⟨[.ro tS], [.v tS]⟩
abbrev impl_Node.s : Sig := ⟨[.ro tI, .ro tI, .ro tS, .ro tS], [.v tS]⟩
abbrev impl_LevelUp.s : Sig := ⟨[.ro tI, .ro (.list tS)], [.v (.list tS)]⟩
abbrev impl_RootOf.s : Sig := ⟨[.ro (.list tS)], [.v tS]⟩
abbrev impl_OncePublic_1.s : Sig := ⟨[.ro tI], [.v tI]⟩
abbrev impl_OncePublic_2.s : Sig := ⟨[.ro tI], [.v tI]⟩
abbrev impl_ChainOf.s : Sig := ⟨[.ro tS, .ro tI, .ro tI, .ro tI, .ro tI], [.v tS]⟩
abbrev impl_chopped.s : Sig := ⟨[.ro (.list tS), .ro tI, .fn 133, .fn 134], [.v tS]⟩
abbrev impl_OncePublic.s : Sig := ⟨[.ro (.list tS), .ro tI], [.v tS]⟩
abbrev impl_OnceKey.s : Sig := ⟨[.ro tS, .ro tI], [.v (.list tS)]⟩
abbrev impl_leavesOf.s : Sig := ⟨[.ro tS], [.v (.list tS)]⟩
abbrev impl_PublicOf.s : Sig := ⟨[.ro tS], [.v tS]⟩
abbrev impl_HyperPublic.s : Sig := ⟨[.ro tS], [.v tS]⟩
abbrev impl_PublicPart.s : Sig := ⟨[.ro (.pair tI (.pair tI (.pair tB (.pair tB (.pair tB (.pair tB (.pair tS (.pair tI .unit))))))))], [.v tS]⟩
abbrev laws_FnExactPublicPart.s : Sig := ⟨[.ro (.pair tI (.pair tI (.pair tB (.pair tB (.pair tB (.pair tB (.pair tS (.pair tI .unit))))))))], [.v tB]⟩
abbrev laws_big.s : Sig := ⟨[.ro (.list tU8)], [.v tB]⟩
abbrev spec_l01Byte.s : Sig := ⟨[.ptr (.v (.pair (.list tU8) (.pair tI (.pair tI .unit))))], [.v tI]⟩
abbrev spec_l01Below.s : Sig := ⟨[.ptr (.v (.pair (.list tU8) (.pair tI (.pair tI .unit)))), .ro tI], [.v tI]⟩
abbrev spec_l01Text.s : Sig := ⟨[.ptr (.v (.pair (.list tU8) (.pair tI (.pair tI .unit)))), .ro tI], [.v tS]⟩
abbrev spec_l01Once.s : Sig := ⟨[.ptr (.v (.pair (.list tU8) (.pair tI (.pair tI .unit)))), .ro tI], [.v tB]⟩
abbrev spec_l01Pick.s : Sig := ⟨[.ptr (.v (.pair (.list tU8) (.pair tI (.pair tI .unit)))), .ro (.list tS)], [.v tS]⟩
abbrev spec_l19Thing.s : Sig := ⟨[.ptr (.v (.pair (.list tU8) (.pair tI (.pair tI .unit))))], [.v (.pair tI (.pair tI (.pair tB (.pair tB (.pair tB (.pair tB (.pair tS (.pair tI .unit))))))))]⟩
abbrev spec_l01PickInt.s : Sig := ⟨[.ptr (.v (.pair (.list tU8) (.pair tI (.pair tI .unit)))), .ro (.list tI)], [.v tI]⟩
abbrev spec_l01Long.s : Sig := ⟨[.ro tI, .ro tU8], [.v tS]⟩
abbrev spec_l19Any.s : Sig := ⟨[.ptr (.v (.pair (.list tU8) (.pair tI (.pair tI .unit))))], [.v (.pair tI (.pair tI (.pair tB (.pair tB (.pair tB (.pair tB (.pair tS (.pair tI .unit))))))))]⟩
abbrev spec_l01New.s : Sig := ⟨[.ro (.list tU8)], [.ref (.v (.pair (.list tU8) (.pair tI (.pair tI .unit))))]⟩
abbrev spec_DrawThingText.s : Sig := ⟨[.ro (.list tU8)], [.v (.pair tI (.pair tI (.pair tB (.pair tB (.pair tB (.pair tB (.pair tS (.pair tI .unit))))))))]⟩
abbrev impl_varText.s : Sig := ⟨[.ro tI], [.v tS]⟩
abbrev impl_flags.s : Sig := ⟨[.ro (.pair tI (.pair tI (.pair tB (.pair tB (.pair tB (.pair tB (.pair tS (.pair tI .unit))))))))], [.v tI]⟩
abbrev impl_shortText.s : Sig := ⟨[.ro tS], [.v tS]⟩
abbrev impl_ThingText.s : Sig := ⟨[.ro (.pair tI (.pair tI (.pair tB (.pair tB (.pair tB (.pair tB (.pair tS (.pair tI .unit))))))))], [.v tS, .v tB]⟩
abbrev impl_ReadVar.s : Sig := ⟨[.ro tS, .ro tI], [.v tI, .v tI, .v tB]⟩
abbrev impl_fields_num.s : Sig := ⟨[.ptr (.v (.pair tS (.pair tI (.pair tB .unit))))], [.v tI]⟩
abbrev impl_ReadShort.s : Sig := ⟨[.ro tS, .ro tI], [.v tS, .v tI, .v tB]⟩
abbrev impl_fields_short.s : Sig := ⟨[.ptr (.v (.pair tS (.pair tI (.pair tB .unit))))], [.v tS]⟩
abbrev impl_ReadThing.s : Sig := ⟨[.ro tS], [.v (.pair tI (.pair tI (.pair tB (.pair tB (.pair tB (.pair tB (.pair tS (.pair tI .unit)))))))), .v tB]⟩
abbrev spec_l19Flag.s : Sig := ⟨[.ro tB, .ro tI], [.v tI]⟩
abbrev spec_l01Var.s : Sig := ⟨[.ro tI], [.v tS]⟩
abbrev spec_l19Short.s : Sig := ⟨[.ro tS], [.v tS]⟩
abbrev spec_ThingText.s : Sig := ⟨[.ro (.pair tI (.pair tI (.pair tB (.pair tB (.pair tB (.pair tB (.pair tS (.pair tI .unit))))))))], [.v tS, .v tB]⟩
abbrev spec_l02Spoilt.s : Sig := ⟨[.ptr (.v (.pair (.list tU8) (.pair tI (.pair tI .unit)))), .ro tS], [.v tS]⟩
abbrev spec_DrawReadThing.s : Sig := ⟨[.ro (.list tU8)], [.v tS]⟩
abbrev spec_ReadVar.s : Sig := ⟨[.ro tS, .ro tI], [.v tI, .v tI, .v tB]⟩
abbrev spec_l19Var.s : Sig := ⟨[.ptr (.v (.pair tS (.pair tI (.pair tB .unit))))], [.v tI]⟩
abbrev spec_l19Take.s : Sig := ⟨[.ptr (.v (.pair tS (.pair tI (.pair tB .unit)))), .ro tI], [.v tS]⟩
abbrev spec_l19One.s : Sig := ⟨[.ptr (.v (.pair tS (.pair tI (.pair tB .unit))))], [.v tI]⟩
abbrev spec_l19ReadShort.s : Sig := ⟨[.ptr (.v (.pair tS (.pair tI (.pair tB .unit))))], [.v tS]⟩
abbrev spec_ReadThing.s : Sig := ⟨[.ro tS], [.v (.pair tI (.pair tI (.pair tB (.pair tB (.pair tB (.pair tB (.pair tS (.pair tI .unit)))))))), .v tB]⟩
abbrev laws_FnThings.s : Sig := ⟨[.ro (.list tU8)], [.v tB]⟩
end Go.Vi

