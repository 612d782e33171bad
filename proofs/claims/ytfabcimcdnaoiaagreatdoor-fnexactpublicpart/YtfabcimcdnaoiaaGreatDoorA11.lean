/- A part of the proof of publicPart_holds: Ge3. No condition of its own. -/
import Derived.Test.YtfabcimcdnaoiaaGreatDoorA07
import Derived.Test.YtfabcimcdnaoiaaGreatDoorProg
import Derived.KernelRfl
set_option autoImplicit false
set_option maxRecDepth 1000000
set_option maxHeartbeats 0
set_option linter.unusedVariables false
set_option linter.unusedSimpArgs false
namespace Go.Vi
open Go
noncomputable def impl_PublicOf.c : Cx := { E := ⟨TT, [(89, ⟨impl_RootOf.s, impl_RootOf.f⟩), (90, ⟨impl_leavesOf.s, impl_leavesOf.f⟩)], GL⟩, sig := impl_PublicOf.s, results := [.tmp 2], L := [], J := [] }
noncomputable def impl_PublicOf.b : Code := match Go.Proofs.Tryz.f51.body with | some c => c | none => .skip
theorem impl_PublicOf.eq (x : impl_PublicOf.s.inDen) : runFn impl_PublicOf.c 6 impl_PublicOf.b x = impl_PublicOf.f x := by kernel_rfl
noncomputable def impl_HyperPublic.c : Cx := { E := ⟨TT, [(51, ⟨impl_PublicOf.s, impl_PublicOf.f⟩)], GL⟩, sig := impl_HyperPublic.s, results := [.tmp 2], L := [], J := [] }
noncomputable def impl_HyperPublic.b : Code := match Go.Proofs.Tryz.f20.body with | some c => c | none => .skip
theorem impl_HyperPublic.eq (x : impl_HyperPublic.s.inDen) : runFn impl_HyperPublic.c 6 impl_HyperPublic.b x = impl_HyperPublic.f x := by kernel_rfl
noncomputable def impl_PublicPart.c : Cx := { E := ⟨TT, [(14, ⟨impl_ThingOk.s, impl_ThingOk.f⟩), (19, ⟨impl_PairOf.s, impl_PairOf.f⟩), (20, ⟨impl_HyperPublic.s, impl_HyperPublic.f⟩)], GL⟩, sig := impl_PublicPart.s, results := [.tmp 2], L := [], J := [] }
noncomputable def impl_PublicPart.b : Code := match Go.Proofs.Tryz.f8.body with | some c => c | none => .skip
theorem impl_PublicPart.eq (x : impl_PublicPart.s.inDen) : runFn impl_PublicPart.c 25 impl_PublicPart.b x = impl_PublicPart.f x := by kernel_rfl
noncomputable def laws_FnExactPublicPart.c : Cx := { E := ⟨TT, [(5, ⟨laws_szThing.s, laws_szThing.f⟩), (6, ⟨spec_PublicPart.s, spec_PublicPart.f⟩), (7, ⟨laws_toThing.s, laws_toThing.f⟩), (8, ⟨impl_PublicPart.s, impl_PublicPart.f⟩)], GL⟩, sig := laws_FnExactPublicPart.s, results := [.tmp 2], L := [], J := [] }
noncomputable def laws_FnExactPublicPart.b : Code := match Go.Proofs.Tryz.f3.body with | some c => c | none => .skip
theorem laws_FnExactPublicPart.eq (x : laws_FnExactPublicPart.s.inDen) : runFn laws_FnExactPublicPart.c 20 laws_FnExactPublicPart.b x = laws_FnExactPublicPart.f x := by kernel_rfl
noncomputable def laws_big.c : Cx := { E := ⟨TT, [], GL⟩, sig := laws_big.s, results := [.tmp 2], L := [], J := [] }
noncomputable def laws_big.b : Code := match Go.Proofs.Tryz.f9.body with | some c => c | none => .skip
theorem laws_big.eq (x : laws_big.s.inDen) : runFn laws_big.c 6 laws_big.b x = laws_big.f x := by kernel_rfl
noncomputable def spec_l01Byte.c : Cx := { E := ⟨TT, [], GL⟩, sig := spec_l01Byte.s, results := [.tmp 2], L := [], J := [] }
noncomputable def spec_l01Byte.b : Code := match Go.Proofs.Tryz.f93.body with | some c => c | none => .skip
theorem spec_l01Byte.eq (x : spec_l01Byte.s.inDen) : runFn spec_l01Byte.c 58 spec_l01Byte.b x = spec_l01Byte.f x := by kernel_rfl
noncomputable def spec_l01Below.c : Cx := { E := ⟨TT, [(93, ⟨spec_l01Byte.s, spec_l01Byte.f⟩)], GL⟩, sig := spec_l01Below.s, results := [.tmp 4], L := [], J := [] }
noncomputable def spec_l01Below.b : Code := match Go.Proofs.Tryz.f53.body with | some c => c | none => .skip
theorem spec_l01Below.eq (x : spec_l01Below.s.inDen) : runFn spec_l01Below.c 37 spec_l01Below.b x = spec_l01Below.f x := by kernel_rfl
noncomputable def spec_l01Text.c : Cx := { E := ⟨TT, [(93, ⟨spec_l01Byte.s, spec_l01Byte.f⟩)], GL⟩, sig := spec_l01Text.s, results := [.tmp 4], L := [(0, ⟨⟨23, [(0, .ptr 5000 [] (.pair (.list tU8) (.pair tI (.pair tI .unit)))), (1, .v tI), (5, .row 500500 tU8), (6, .v tI)], [(5000, (.pair (.list tU8) (.pair tI (.pair tI .unit))), .v (.pair (.list tU8) (.pair tI (.pair tI .unit))))], [.ptr 5000 0 [] (.pair (.list tU8) (.pair tI (.pair tI .unit)))]⟩, [(0, ⟨23, [(5, .row 500500 tU8)], [(5000, (.pair (.list tU8) (.pair tI (.pair tI .unit))), .v (.pair (.list tU8) (.pair tI (.pair tI .unit))))], [.ptr 5000 0 [] (.pair (.list tU8) (.pair tI (.pair tI .unit)))]⟩)]⟩)], J := [(1, ⟨⟨23, [(0, .ptr 5000 [] (.pair (.list tU8) (.pair tI (.pair tI .unit)))), (1, .v tI)], [(5000, (.pair (.list tU8) (.pair tI (.pair tI .unit))), .v (.pair (.list tU8) (.pair tI (.pair tI .unit))))], [.ptr 5000 0 [] (.pair (.list tU8) (.pair tI (.pair tI .unit)))]⟩, []⟩)] }
noncomputable def spec_l01Text.b : Code := match Go.Proofs.Tryz.f62.body with | some c => c | none => .skip
theorem spec_l01Text.eq (x : spec_l01Text.s.inDen) : runFn spec_l01Text.c 23 spec_l01Text.b x = spec_l01Text.f x := by kernel_rfl
noncomputable def spec_l01Once.c : Cx := { E := ⟨TT, [(53, ⟨spec_l01Below.s, spec_l01Below.f⟩)], GL⟩, sig := spec_l01Once.s, results := [.tmp 4], L := [], J := [] }
noncomputable def spec_l01Once.b : Code := match Go.Proofs.Tryz.f91.body with | some c => c | none => .skip
theorem spec_l01Once.eq (x : spec_l01Once.s.inDen) : runFn spec_l01Once.c 9 spec_l01Once.b x = spec_l01Once.f x := by kernel_rfl
noncomputable def spec_l01Pick.c : Cx := { E := ⟨TT, [(53, ⟨spec_l01Below.s, spec_l01Below.f⟩)], GL⟩, sig := spec_l01Pick.s, results := [.tmp 4], L := [], J := [] }
noncomputable def spec_l01Pick.b : Code := match Go.Proofs.Tryz.f92.body with | some c => c | none => .skip
theorem spec_l01Pick.eq (x : spec_l01Pick.s.inDen) : runFn spec_l01Pick.c 12 spec_l01Pick.b x = spec_l01Pick.f x := by kernel_rfl
noncomputable def spec_l19Thing.c : Cx := { E := ⟨TT, [(36, ⟨spec_DigestOf.s, spec_DigestOf.f⟩), (53, ⟨spec_l01Below.s, spec_l01Below.f⟩), (62, ⟨spec_l01Text.s, spec_l01Text.f⟩), (91, ⟨spec_l01Once.s, spec_l01Once.f⟩), (92, ⟨spec_l01Pick.s, spec_l01Pick.f⟩)], GL⟩, sig := spec_l19Thing.s, results := [.cell 2 26], L := [], J := [] }
noncomputable def spec_l19Thing.b : Code := match Go.Proofs.Tryz.f52.body with | some c => c | none => .skip
theorem spec_l19Thing.eq (x : spec_l19Thing.s.inDen) : runFn spec_l19Thing.c 44 spec_l19Thing.b x = spec_l19Thing.f x := by kernel_rfl
noncomputable def spec_l01PickInt.c : Cx := { E := ⟨TT, [(53, ⟨spec_l01Below.s, spec_l01Below.f⟩)], GL⟩, sig := spec_l01PickInt.s, results := [.tmp 4], L := [], J := [] }
noncomputable def spec_l01PickInt.b : Code := match Go.Proofs.Tryz.f54.body with | some c => c | none => .skip
theorem spec_l01PickInt.eq (x : spec_l01PickInt.s.inDen) : runFn spec_l01PickInt.c 12 spec_l01PickInt.b x = spec_l01PickInt.f x := by kernel_rfl
noncomputable def spec_l01Long.c : Cx := { E := ⟨TT, [], GL⟩, sig := spec_l01Long.s, results := [.tmp 4], L := [(0, ⟨⟨20, [(0, .v tI), (1, .v tU8), (5, .row 500500 tU8), (6, .v tI)], [], []⟩, [(0, ⟨20, [(5, .row 500500 tU8)], [], []⟩)]⟩)], J := [] }
noncomputable def spec_l01Long.b : Code := match Go.Proofs.Tryz.f55.body with | some c => c | none => .skip
theorem spec_l01Long.eq (x : spec_l01Long.s.inDen) : runFn spec_l01Long.c 20 spec_l01Long.b x = spec_l01Long.f x := by kernel_rfl
noncomputable def spec_l19Any.c : Cx := { E := ⟨TT, [(52, ⟨spec_l19Thing.s, spec_l19Thing.f⟩), (53, ⟨spec_l01Below.s, spec_l01Below.f⟩), (54, ⟨spec_l01PickInt.s, spec_l01PickInt.f⟩), (55, ⟨spec_l01Long.s, spec_l01Long.f⟩)], GL⟩, sig := spec_l19Any.s, results := [.cell 2 26], L := [], J := [] }
noncomputable def spec_l19Any.b : Code := match Go.Proofs.Tryz.f21.body with | some c => c | none => .skip
theorem spec_l19Any.eq (x : spec_l19Any.s.inDen) : runFn spec_l19Any.c 45 spec_l19Any.b x = spec_l19Any.f x := by kernel_rfl
noncomputable def spec_l01New.c : Cx := { E := ⟨TT, [], GL⟩, sig := spec_l01New.s, results := [.tmp 2], L := [(0, ⟨⟨32, [(0, .v (.list tU8)), (3, .v tI), (4, .v tI)], [], []⟩, [(0, ⟨32, [(0, .v (.list tU8)), (3, .v tI)], [], []⟩)]⟩)], J := [(100003, ⟨⟨32, [(0, .v (.list tU8)), (3, .v tI), (4, .v tI), (15, .v tB)], [], []⟩, []⟩)] }
noncomputable def spec_l01New.b : Code := match Go.Proofs.Tryz.f22.body with | some c => c | none => .skip
theorem spec_l01New.eq (x : spec_l01New.s.inDen) : runFn spec_l01New.c 32 spec_l01New.b x = spec_l01New.f x := by kernel_rfl
noncomputable def spec_DrawThingText.c : Cx := { E := ⟨TT, [(21, ⟨spec_l19Any.s, spec_l19Any.f⟩), (22, ⟨spec_l01New.s, spec_l01New.f⟩)], GL⟩, sig := spec_DrawThingText.s, results := [.cell 2 26], L := [], J := [] }
noncomputable def spec_DrawThingText.b : Code := match Go.Proofs.Tryz.f10.body with | some c => c | none => .skip
theorem spec_DrawThingText.eq (x : spec_DrawThingText.s.inDen) : runFn spec_DrawThingText.c 6 spec_DrawThingText.b x = spec_DrawThingText.f x := by kernel_rfl
noncomputable def impl_varText.c : Cx := { E := ⟨TT, [], GL⟩, sig := impl_varText.s, results := [.tmp 2], L := [(0, ⟨⟨21, [(0, .v tI), (3, .row 500300 tU8)], [], []⟩, [(0, ⟨21, [(0, .v tI), (3, .row 500300 tU8)], [], []⟩)]⟩)], J := [] }
noncomputable def impl_varText.b : Code := match Go.Proofs.Tryz.f23.body with | some c => c | none => .skip
theorem impl_varText.eq (x : impl_varText.s.inDen) : runFn impl_varText.c 21 impl_varText.b x = impl_varText.f x := by kernel_rfl
noncomputable def impl_flags.c : Cx := { E := ⟨TT, [], GL⟩, sig := impl_flags.s, results := [.tmp 2], L := [(0, ⟨⟨28, [(3, .v tI), (14, .row 501400 tB), (15, .v tI), (16, .v tI)], [], []⟩, [(0, ⟨28, [(3, .v tI)], [], []⟩)]⟩)], J := [] }
noncomputable def impl_flags.b : Code := match Go.Proofs.Tryz.f25.body with | some c => c | none => .skip
theorem impl_flags.eq (x : impl_flags.s.inDen) : runFn impl_flags.c 28 impl_flags.b x = impl_flags.f x := by kernel_rfl
noncomputable def impl_shortText.c : Cx := { E := ⟨TT, [(23, ⟨impl_varText.s, impl_varText.f⟩)], GL⟩, sig := impl_shortText.s, results := [.tmp 2], L := [], J := [] }
noncomputable def impl_shortText.b : Code := match Go.Proofs.Tryz.f26.body with | some c => c | none => .skip
theorem impl_shortText.eq (x : impl_shortText.s.inDen) : runFn impl_shortText.c 8 impl_shortText.b x = impl_shortText.f x := by kernel_rfl
noncomputable def impl_ThingText.c : Cx := { E := ⟨TT, [(14, ⟨impl_ThingOk.s, impl_ThingOk.f⟩), (23, ⟨impl_varText.s, impl_varText.f⟩), (24, ⟨impl_oneByte.s, impl_oneByte.f⟩), (25, ⟨impl_flags.s, impl_flags.f⟩), (26, ⟨impl_shortText.s, impl_shortText.f⟩)], GL⟩, sig := impl_ThingText.s, results := [.tmp 2, .tmp 3], L := [], J := [] }
noncomputable def impl_ThingText.b : Code := match Go.Proofs.Tryz.f11.body with | some c => c | none => .skip
theorem impl_ThingText.eq (x : impl_ThingText.s.inDen) : runFn impl_ThingText.c 26 impl_ThingText.b x = impl_ThingText.f x := by kernel_rfl
noncomputable def impl_ReadVar.c : Cx := { E := ⟨TT, [(30, ⟨impl_in.s, impl_in.f⟩)], GL⟩, sig := impl_ReadVar.s, results := [.tmp 4, .tmp 5, .tmp 6], L := [(0, ⟨⟨57, [(0, .v tS), (1, .v tI), (7, .v tI), (8, .v tI)], [], []⟩, [(0, ⟨57, [], [], []⟩)]⟩)], J := [(100005, ⟨⟨57, [(0, .v tS), (1, .v tI), (7, .v tI), (8, .v tI), (24, .v tB)], [], []⟩, []⟩), (100010, ⟨⟨57, [(1, .v tI), (7, .v tI), (8, .v tI), (51, .v tB)], [], []⟩, []⟩)] }
noncomputable def impl_ReadVar.b : Code := match Go.Proofs.Tryz.f56.body with | some c => c | none => .skip
theorem impl_ReadVar.eq (x : impl_ReadVar.s.inDen) : runFn impl_ReadVar.c 57 impl_ReadVar.b x = impl_ReadVar.f x := by kernel_rfl
noncomputable def impl_fields_num.c : Cx := { E := ⟨TT, [(56, ⟨impl_ReadVar.s, impl_ReadVar.f⟩)], GL⟩, sig := impl_fields_num.s, results := [.tmp 2], L := [], J := [] }
noncomputable def impl_fields_num.b : Code := match Go.Proofs.Tryz.f27.body with | some c => c | none => .skip
theorem impl_fields_num.eq (x : impl_fields_num.s.inDen) : runFn impl_fields_num.c 29 impl_fields_num.b x = impl_fields_num.f x := by kernel_rfl
noncomputable def impl_ReadShort.c : Cx := { E := ⟨TT, [(56, ⟨impl_ReadVar.s, impl_ReadVar.f⟩)], GL⟩, sig := impl_ReadShort.s, results := [.tmp 4, .tmp 5, .tmp 6], L := [], J := [(100002, ⟨⟨40, [(0, .v tS), (7, .v tI), (8, .v tI), (30, .v tB)], [], []⟩, []⟩)] }
noncomputable def impl_ReadShort.b : Code := match Go.Proofs.Tryz.f57.body with | some c => c | none => .skip
theorem impl_ReadShort.eq (x : impl_ReadShort.s.inDen) : runFn impl_ReadShort.c 40 impl_ReadShort.b x = impl_ReadShort.f x := by kernel_rfl
noncomputable def impl_fields_short.c : Cx := { E := ⟨TT, [(57, ⟨impl_ReadShort.s, impl_ReadShort.f⟩)], GL⟩, sig := impl_fields_short.s, results := [.tmp 2], L := [], J := [] }
noncomputable def impl_fields_short.b : Code := match Go.Proofs.Tryz.f28.body with | some c => c | none => .skip
theorem impl_fields_short.eq (x : impl_fields_short.s.inDen) : runFn impl_fields_short.c 29 impl_fields_short.b x = impl_fields_short.f x := by kernel_rfl
noncomputable def impl_ReadThing.c : Cx := { E := ⟨TT, [(11, ⟨impl_ThingText.s, impl_ThingText.f⟩), (27, ⟨impl_fields_num.s, impl_fields_num.f⟩), (28, ⟨impl_fields_short.s, impl_fields_short.f⟩)], GL⟩, sig := impl_ReadThing.s, results := [.cell 2 26, .tmp 3], L := [], J := [] }
noncomputable def impl_ReadThing.b : Code := match Go.Proofs.Tryz.f12.body with | some c => c | none => .skip
theorem impl_ReadThing.eq (x : impl_ReadThing.s.inDen) : runFn impl_ReadThing.c 62 impl_ReadThing.b x = impl_ReadThing.f x := by kernel_rfl
noncomputable def spec_l19Flag.c : Cx := { E := ⟨TT, [], GL⟩, sig := spec_l19Flag.s, results := [.tmp 4], L := [], J := [] }
noncomputable def spec_l19Flag.b : Code := match Go.Proofs.Tryz.f58.body with | some c => c | none => .skip
theorem spec_l19Flag.eq (x : spec_l19Flag.s.inDen) : runFn spec_l19Flag.c 7 spec_l19Flag.b x = spec_l19Flag.f x := by kernel_rfl
noncomputable def spec_l01Var.c : Cx := { E := ⟨TT, [], GL⟩, sig := spec_l01Var.s, results := [.tmp 2], L := [(0, ⟨⟨22, [(0, .v tI), (3, .row 500300 tU8)], [], []⟩, [(0, ⟨22, [(0, .v tI), (3, .row 500300 tU8)], [], []⟩)]⟩)], J := [] }
noncomputable def spec_l01Var.b : Code := match Go.Proofs.Tryz.f59.body with | some c => c | none => .skip
theorem spec_l01Var.eq (x : spec_l01Var.s.inDen) : runFn spec_l01Var.c 22 spec_l01Var.b x = spec_l01Var.f x := by kernel_rfl
noncomputable def spec_l19Short.c : Cx := { E := ⟨TT, [(59, ⟨spec_l01Var.s, spec_l01Var.f⟩)], GL⟩, sig := spec_l19Short.s, results := [.tmp 2], L := [], J := [] }
noncomputable def spec_l19Short.b : Code := match Go.Proofs.Tryz.f61.body with | some c => c | none => .skip
theorem spec_l19Short.eq (x : spec_l19Short.s.inDen) : runFn spec_l19Short.c 8 spec_l19Short.b x = spec_l19Short.f x := by kernel_rfl
noncomputable def spec_ThingText.c : Cx := { E := ⟨TT, [(13, ⟨spec_ThingOk.s, spec_ThingOk.f⟩), (58, ⟨spec_l19Flag.s, spec_l19Flag.f⟩), (59, ⟨spec_l01Var.s, spec_l01Var.f⟩), (60, ⟨spec_l06Byte.s, spec_l06Byte.f⟩), (61, ⟨spec_l19Short.s, spec_l19Short.f⟩)], GL⟩, sig := spec_ThingText.s, results := [.tmp 2, .tmp 3], L := [], J := [] }
noncomputable def spec_ThingText.b : Code := match Go.Proofs.Tryz.f31.body with | some c => c | none => .skip
theorem spec_ThingText.eq (x : spec_ThingText.s.inDen) : runFn spec_ThingText.c 41 spec_ThingText.b x = spec_ThingText.f x := by kernel_rfl
noncomputable def spec_l02Spoilt.c : Cx := { E := ⟨TT, [(53, ⟨spec_l01Below.s, spec_l01Below.f⟩), (62, ⟨spec_l01Text.s, spec_l01Text.f⟩)], GL⟩, sig := spec_l02Spoilt.s, results := [.tmp 4], L := [], J := [(6, ⟨⟨45, [(0, .ptr 5000 [] (.pair (.list tU8) (.pair tI (.pair tI .unit)))), (1, .v tS), (23, .v tB)], [(5000, (.pair (.list tU8) (.pair tI (.pair tI .unit))), .v (.pair (.list tU8) (.pair tI (.pair tI .unit))))], [.ptr 5000 0 [] (.pair (.list tU8) (.pair tI (.pair tI .unit)))]⟩, []⟩)] }
noncomputable def spec_l02Spoilt.b : Code := match Go.Proofs.Tryz.f32.body with | some c => c | none => .skip
theorem spec_l02Spoilt.eq (x : spec_l02Spoilt.s.inDen) : runFn spec_l02Spoilt.c 45 spec_l02Spoilt.b x = spec_l02Spoilt.f x := by kernel_rfl
noncomputable def spec_DrawReadThing.c : Cx := { E := ⟨TT, [(21, ⟨spec_l19Any.s, spec_l19Any.f⟩), (22, ⟨spec_l01New.s, spec_l01New.f⟩), (31, ⟨spec_ThingText.s, spec_ThingText.f⟩), (32, ⟨spec_l02Spoilt.s, spec_l02Spoilt.f⟩)], GL⟩, sig := spec_DrawReadThing.s, results := [.tmp 2], L := [], J := [] }
noncomputable def spec_DrawReadThing.b : Code := match Go.Proofs.Tryz.f15.body with | some c => c | none => .skip
theorem spec_DrawReadThing.eq (x : spec_DrawReadThing.s.inDen) : runFn spec_DrawReadThing.c 17 spec_DrawReadThing.b x = spec_DrawReadThing.f x := by kernel_rfl
noncomputable def spec_ReadVar.c : Cx := { E := ⟨TT, [(29, ⟨spec_l01In.s, spec_l01In.f⟩), (59, ⟨spec_l01Var.s, spec_l01Var.f⟩)], GL⟩, sig := spec_ReadVar.s, results := [.tmp 4, .tmp 5, .tmp 6], L := [(0, ⟨⟨58, [(0, .v tS), (1, .v tI), (7, .v tI), (8, .v tI), (9, .v tI)], [], []⟩, [(0, ⟨58, [], [], []⟩)]⟩)], J := [(100006, ⟨⟨58, [(0, .v tS), (1, .v tI), (7, .v tI), (8, .v tI), (9, .v tI), (25, .v tB)], [], []⟩, []⟩)] }
noncomputable def spec_ReadVar.b : Code := match Go.Proofs.Tryz.f63.body with | some c => c | none => .skip
theorem spec_ReadVar.eq (x : spec_ReadVar.s.inDen) : runFn spec_ReadVar.c 58 spec_ReadVar.b x = spec_ReadVar.f x := by kernel_rfl
noncomputable def spec_l19Var.c : Cx := { E := ⟨TT, [(63, ⟨spec_ReadVar.s, spec_ReadVar.f⟩)], GL⟩, sig := spec_l19Var.s, results := [.tmp 2], L := [], J := [] }
noncomputable def spec_l19Var.b : Code := match Go.Proofs.Tryz.f33.body with | some c => c | none => .skip
theorem spec_l19Var.eq (x : spec_l19Var.s.inDen) : runFn spec_l19Var.c 35 spec_l19Var.b x = spec_l19Var.f x := by kernel_rfl
noncomputable def spec_l19Take.c : Cx := { E := ⟨TT, [], GL⟩, sig := spec_l19Take.s, results := [.tmp 4], L := [], J := [(100001, ⟨⟨50, [(0, .ptr 5000 [] (.pair tS (.pair tI (.pair tB .unit)))), (1, .v tI), (22, .v tB)], [(5000, (.pair tS (.pair tI (.pair tB .unit))), .v (.pair tS (.pair tI (.pair tB .unit))))], [.ptr 5000 0 [] (.pair tS (.pair tI (.pair tB .unit)))]⟩, []⟩)] }
noncomputable def spec_l19Take.b : Code := match Go.Proofs.Tryz.f64.body with | some c => c | none => .skip
theorem spec_l19Take.eq (x : spec_l19Take.s.inDen) : runFn spec_l19Take.c 50 spec_l19Take.b x = spec_l19Take.f x := by kernel_rfl
noncomputable def spec_l19One.c : Cx := { E := ⟨TT, [(64, ⟨spec_l19Take.s, spec_l19Take.f⟩)], GL⟩, sig := spec_l19One.s, results := [.tmp 2], L := [], J := [] }
noncomputable def spec_l19One.b : Code := match Go.Proofs.Tryz.f34.body with | some c => c | none => .skip
theorem spec_l19One.eq (x : spec_l19One.s.inDen) : runFn spec_l19One.c 13 spec_l19One.b x = spec_l19One.f x := by kernel_rfl
noncomputable def spec_l19ReadShort.c : Cx := { E := ⟨TT, [(33, ⟨spec_l19Var.s, spec_l19Var.f⟩), (64, ⟨spec_l19Take.s, spec_l19Take.f⟩)], GL⟩, sig := spec_l19ReadShort.s, results := [.tmp 2], L := [], J := [] }
noncomputable def spec_l19ReadShort.b : Code := match Go.Proofs.Tryz.f35.body with | some c => c | none => .skip
theorem spec_l19ReadShort.eq (x : spec_l19ReadShort.s.inDen) : runFn spec_l19ReadShort.c 9 spec_l19ReadShort.b x = spec_l19ReadShort.f x := by kernel_rfl
noncomputable def spec_ReadThing.c : Cx := { E := ⟨TT, [(31, ⟨spec_ThingText.s, spec_ThingText.f⟩), (33, ⟨spec_l19Var.s, spec_l19Var.f⟩), (34, ⟨spec_l19One.s, spec_l19One.f⟩), (35, ⟨spec_l19ReadShort.s, spec_l19ReadShort.f⟩)], GL⟩, sig := spec_ReadThing.s, results := [.cell 2 26, .tmp 3], L := [], J := [] }
noncomputable def spec_ReadThing.b : Code := match Go.Proofs.Tryz.f16.body with | some c => c | none => .skip
theorem spec_ReadThing.eq (x : spec_ReadThing.s.inDen) : runFn spec_ReadThing.c 65 spec_ReadThing.b x = spec_ReadThing.f x := by kernel_rfl
noncomputable def laws_FnThings.c : Cx := { E := ⟨TT, [(6, ⟨spec_PublicPart.s, spec_PublicPart.f⟩), (8, ⟨impl_PublicPart.s, impl_PublicPart.f⟩), (9, ⟨laws_big.s, laws_big.f⟩), (10, ⟨spec_DrawThingText.s, spec_DrawThingText.f⟩), (11, ⟨impl_ThingText.s, impl_ThingText.f⟩), (12, ⟨impl_ReadThing.s, impl_ReadThing.f⟩), (13, ⟨spec_ThingOk.s, spec_ThingOk.f⟩), (14, ⟨impl_ThingOk.s, impl_ThingOk.f⟩), (15, ⟨spec_DrawReadThing.s, spec_DrawReadThing.f⟩), (16, ⟨spec_ReadThing.s, spec_ReadThing.f⟩)], GL⟩, sig := laws_FnThings.s, results := [.tmp 2], L := [], J := [(100006, ⟨⟨87, [(0, .v (.list tU8)), (3, .ptr 3 [] (.pair tI (.pair tI (.pair tB (.pair tB (.pair tB (.pair tB (.pair tS (.pair tI .unit))))))))), (50, .v tB)], [(3, (.pair tI (.pair tI (.pair tB (.pair tB (.pair tB (.pair tB (.pair tS (.pair tI .unit)))))))), .v (.pair tI (.pair tI (.pair tB (.pair tB (.pair tB (.pair tB (.pair tS (.pair tI .unit)))))))))], []⟩, []⟩)] }
noncomputable def laws_FnThings.b : Code := match Go.Proofs.Tryz.f4.body with | some c => c | none => .skip
theorem laws_FnThings.eq (x : laws_FnThings.s.inDen) : runFn laws_FnThings.c 87 laws_FnThings.b x = laws_FnThings.f x := by kernel_rfl
end Go.Vi

