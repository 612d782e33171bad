/- A part of the proof of publicPart_holds: Ge1. No condition of its own. -/
import Derived.Test.YtfabcimcdnaoiaaGreatDoorA07
import Derived.Test.YtfabcimcdnaoiaaGreatDoorProg
import Derived.KernelRfl
set_option autoImplicit false
set_option maxRecDepth 1000000
set_option maxHeartbeats 0
set_option linter.unusedVariables false
set_option linter.unusedSimpArgs false
namespace Go.Vi
open Go
noncomputable def spec_PolyBytes.c : Cx := { E := ⟨TT, [(69, ⟨spec_PolyOk.s, spec_PolyOk.f⟩), (73, ⟨spec_Pack.s, spec_Pack.f⟩)], GL⟩, sig := spec_PolyBytes.s, results := [.tmp 2], L := [], J := [] }
noncomputable def spec_PolyBytes.b : Code := match Go.Proofs.Tryz.f40.body with | some c => c | none => .skip
theorem spec_PolyBytes.eq (x : spec_PolyBytes.s.inDen) : runFn spec_PolyBytes.c 14 spec_PolyBytes.b x = spec_PolyBytes.f x := by kernel_rfl
noncomputable def spec_PolyAdd.c : Cx := { E := ⟨TT, [(69, ⟨spec_PolyOk.s, spec_PolyOk.f⟩)], GL⟩, sig := spec_PolyAdd.s, results := [.tmp 4], L := [(0, ⟨⟨34, [(0, .v (.list tI)), (1, .v (.list tI)), (5, .row 500500 tI), (6, .v tI)], [], []⟩, [(0, ⟨34, [(5, .row 500500 tI)], [], []⟩)]⟩)], J := [(100003, ⟨⟨34, [(0, .v (.list tI)), (1, .v (.list tI)), (5, .row 500500 tI), (6, .v tI), (17, .v tB)], [], []⟩, []⟩)] }
noncomputable def spec_PolyAdd.b : Code := match Go.Proofs.Tryz.f41.body with | some c => c | none => .skip
theorem spec_PolyAdd.eq (x : spec_PolyAdd.s.inDen) : runFn spec_PolyAdd.c 34 spec_PolyAdd.b x = spec_PolyAdd.f x := by kernel_rfl
noncomputable def spec_MulNtt.c : Cx := { E := ⟨TT, [(69, ⟨spec_PolyOk.s, spec_PolyOk.f⟩), (70, ⟨spec_PowQ.s, spec_PowQ.f⟩), (71, ⟨spec_Turn7.s, spec_Turn7.f⟩)], GL⟩, sig := spec_MulNtt.s, results := [.tmp 4], L := [(0, ⟨⟨88, [(0, .v (.list tI)), (1, .v (.list tI)), (5, .row 500500 tI), (6, .v tI)], [], []⟩, [(0, ⟨88, [(5, .row 500500 tI)], [], []⟩)]⟩)], J := [(100002, ⟨⟨88, [(0, .v (.list tI)), (1, .v (.list tI)), (5, .row 500500 tI), (17, .v tB)], [], []⟩, []⟩)] }
noncomputable def spec_MulNtt.b : Code := match Go.Proofs.Tryz.f74.body with | some c => c | none => .skip
theorem spec_MulNtt.eq (x : spec_MulNtt.s.inDen) : runFn spec_MulNtt.c 88 spec_MulNtt.b x = spec_MulNtt.f x := by kernel_rfl
noncomputable def spec_l13Sum.c : Cx := { E := ⟨TT, [(41, ⟨spec_PolyAdd.s, spec_PolyAdd.f⟩), (74, ⟨spec_MulNtt.s, spec_MulNtt.f⟩)], GL⟩, sig := spec_l13Sum.s, results := [.tmp 4], L := [(0, ⟨⟨26, [(0, .v (.list (.list tI))), (1, .v (.list (.list tI))), (5, .v (.list tI)), (6, .v tI)], [], []⟩, [(0, ⟨26, [(5, .v (.list tI))], [], []⟩)]⟩)], J := [] }
noncomputable def spec_l13Sum.b : Code := match Go.Proofs.Tryz.f42.body with | some c => c | none => .skip
theorem spec_l13Sum.eq (x : spec_l13Sum.s.inDen) : runFn spec_l13Sum.c 26 spec_l13Sum.b x = spec_l13Sum.f x := by kernel_rfl
noncomputable def spec_PairOf.c : Cx := { E := ⟨TT, [(36, ⟨spec_DigestOf.s, spec_DigestOf.f⟩), (37, ⟨spec_l13Matrix.s, spec_l13Matrix.f⟩), (38, ⟨spec_Ntt.s, spec_Ntt.f⟩), (39, ⟨spec_Small.s, spec_Small.f⟩), (40, ⟨spec_PolyBytes.s, spec_PolyBytes.f⟩), (41, ⟨spec_PolyAdd.s, spec_PolyAdd.f⟩), (42, ⟨spec_l13Sum.s, spec_l13Sum.f⟩)], GL⟩, sig := spec_PairOf.s, results := [.cell 2 39, .tmp 3], L := [(0, ⟨⟨84, [(2, .ptr 2 [] (.pair tS (.pair tS .unit))), (4, .v tS), (5, .v tS), (6, .v tS), (7, .v (.list (.list tI))), (8, .row 500800 (.list tI)), (9, .v tS), (10, .v tS), (11, .v tI)], [(2, (.pair tS (.pair tS .unit)), .v (.pair tS (.pair tS .unit)))], []⟩, [(0, ⟨84, [(2, .ptr 2 [] (.pair tS (.pair tS .unit))), (4, .v tS), (5, .v tS), (6, .v tS), (7, .v (.list (.list tI))), (8, .row 500800 (.list tI)), (9, .v tS), (10, .v tS)], [(2, (.pair tS (.pair tS .unit)), .v (.pair tS (.pair tS .unit)))], []⟩)]⟩), (2, ⟨⟨84, [(2, .ptr 2 [] (.pair tS (.pair tS .unit))), (4, .v tS), (5, .v tS), (6, .v tS), (7, .v (.list (.list tI))), (8, .v (.list (.list tI))), (9, .v tS), (10, .v tS), (13, .v tI)], [(2, (.pair tS (.pair tS .unit)), .v (.pair tS (.pair tS .unit)))], []⟩, [(2, ⟨84, [(2, .ptr 2 [] (.pair tS (.pair tS .unit))), (4, .v tS), (5, .v tS), (9, .v tS), (10, .v tS)], [(2, (.pair tS (.pair tS .unit)), .v (.pair tS (.pair tS .unit)))], []⟩)]⟩)], J := [] }
noncomputable def spec_PairOf.b : Code := match Go.Proofs.Tryz.f17.body with | some c => c | none => .skip
theorem spec_PairOf.eq (x : spec_PairOf.s.inDen) : runFn spec_PairOf.c 84 spec_PairOf.b x = spec_PairOf.f x := by kernel_rfl
noncomputable def spec_Chop.c : Cx := { E := ⟨TT, [(36, ⟨spec_DigestOf.s, spec_DigestOf.f⟩)], GL⟩, sig := spec_Chop.s, results := [.tmp 2], L := [], J := [] }
noncomputable def spec_Chop.b : Code := match Go.Proofs.Tryz.f126.body with | some c => c | none => .skip
theorem spec_Chop.eq (x : spec_Chop.s.inDen) : runFn spec_Chop.c 6 spec_Chop.b x = spec_Chop.f x := by kernel_rfl
noncomputable def spec_Node.c : Cx := { E := ⟨TT, [(60, ⟨spec_l06Byte.s, spec_l06Byte.f⟩), (126, ⟨spec_Chop.s, spec_Chop.f⟩)], GL⟩, sig := spec_Node.s, results := [.tmp 8], L := [], J := [] }
noncomputable def spec_Node.b : Code := match Go.Proofs.Tryz.f124.body with | some c => c | none => .skip
theorem spec_Node.eq (x : spec_Node.s.inDen) : runFn spec_Node.c 20 spec_Node.b x = spec_Node.f x := by kernel_rfl
noncomputable def spec_LevelUp.c : Cx := { E := ⟨TT, [(124, ⟨spec_Node.s, spec_Node.f⟩)], GL⟩, sig := spec_LevelUp.s, results := [.tmp 4], L := [(0, ⟨⟨34, [(0, .v tI), (1, .v (.list tS)), (5, .row 500500 tS), (6, .v tI)], [], []⟩, [(0, ⟨34, [(5, .row 500500 tS)], [], []⟩)]⟩)], J := [] }
noncomputable def spec_LevelUp.b : Code := match Go.Proofs.Tryz.f103.body with | some c => c | none => .skip
theorem spec_LevelUp.eq (x : spec_LevelUp.s.inDen) : runFn spec_LevelUp.c 34 spec_LevelUp.b x = spec_LevelUp.f x := by kernel_rfl
noncomputable def spec_RootOf.c : Cx := { E := ⟨TT, [(103, ⟨spec_LevelUp.s, spec_LevelUp.f⟩)], GL⟩, sig := spec_RootOf.s, results := [.tmp 2], L := [(0, ⟨⟨17, [(0, .v (.list tS)), (3, .v tI)], [], []⟩, [(0, ⟨17, [(0, .v (.list tS))], [], []⟩)]⟩)], J := [] }
noncomputable def spec_RootOf.b : Code := match Go.Proofs.Tryz.f75.body with | some c => c | none => .skip
theorem spec_RootOf.eq (x : spec_RootOf.s.inDen) : runFn spec_RootOf.c 17 spec_RootOf.b x = spec_RootOf.f x := by kernel_rfl
noncomputable def spec_ChainOf.c : Cx := { E := ⟨TT, [(60, ⟨spec_l06Byte.s, spec_l06Byte.f⟩), (126, ⟨spec_Chop.s, spec_Chop.f⟩)], GL⟩, sig := spec_ChainOf.s, results := [.tmp 10], L := [(0, ⟨⟨36, [(0, .v tS), (1, .v tI), (2, .v tI), (3, .v tI), (4, .v tI), (11, .v tI)], [], []⟩, [(0, ⟨36, [(0, .v tS)], [], []⟩)]⟩)], J := [(100002, ⟨⟨36, [(0, .v tS), (1, .v tI), (2, .v tI), (3, .v tI), (4, .v tI), (11, .v tI), (18, .v tB)], [], []⟩, []⟩)] }
noncomputable def spec_ChainOf.b : Code := match Go.Proofs.Tryz.f125.body with | some c => c | none => .skip
theorem spec_ChainOf.eq (x : spec_ChainOf.s.inDen) : runFn spec_ChainOf.c 36 spec_ChainOf.b x = spec_ChainOf.f x := by kernel_rfl
noncomputable def spec_OncePublic.c : Cx := { E := ⟨TT, [(125, ⟨spec_ChainOf.s, spec_ChainOf.f⟩), (126, ⟨spec_Chop.s, spec_Chop.f⟩)], GL⟩, sig := spec_OncePublic.s, results := [.tmp 4], L := [(0, ⟨⟨25, [(0, .v (.list tS)), (1, .v tI), (5, .v tS), (6, .v tI)], [], []⟩, [(0, ⟨25, [(5, .v tS)], [], []⟩)]⟩)], J := [] }
noncomputable def spec_OncePublic.b : Code := match Go.Proofs.Tryz.f104.body with | some c => c | none => .skip
theorem spec_OncePublic.eq (x : spec_OncePublic.s.inDen) : runFn spec_OncePublic.c 25 spec_OncePublic.b x = spec_OncePublic.f x := by kernel_rfl
noncomputable def spec_OnceKey.c : Cx := { E := ⟨TT, [(60, ⟨spec_l06Byte.s, spec_l06Byte.f⟩), (126, ⟨spec_Chop.s, spec_Chop.f⟩)], GL⟩, sig := spec_OnceKey.s, results := [.tmp 4], L := [(0, ⟨⟨25, [(0, .v tS), (1, .v tI), (5, .row 500500 tS), (6, .v tI)], [], []⟩, [(0, ⟨25, [(5, .row 500500 tS)], [], []⟩)]⟩)], J := [] }
noncomputable def spec_OnceKey.b : Code := match Go.Proofs.Tryz.f105.body with | some c => c | none => .skip
theorem spec_OnceKey.eq (x : spec_OnceKey.s.inDen) : runFn spec_OnceKey.c 25 spec_OnceKey.b x = spec_OnceKey.f x := by kernel_rfl
noncomputable def spec_l16Leaves.c : Cx := { E := ⟨TT, [(104, ⟨spec_OncePublic.s, spec_OncePublic.f⟩), (105, ⟨spec_OnceKey.s, spec_OnceKey.f⟩)], GL⟩, sig := spec_l16Leaves.s, results := [.tmp 2], L := [(0, ⟨⟨19, [(0, .v tS), (3, .row 500300 tS), (4, .v tI)], [], []⟩, [(0, ⟨19, [(3, .row 500300 tS)], [], []⟩)]⟩)], J := [] }
noncomputable def spec_l16Leaves.b : Code := match Go.Proofs.Tryz.f76.body with | some c => c | none => .skip
theorem spec_l16Leaves.eq (x : spec_l16Leaves.s.inDen) : runFn spec_l16Leaves.c 19 spec_l16Leaves.b x = spec_l16Leaves.f x := by kernel_rfl
noncomputable def spec_PublicOf.c : Cx := { E := ⟨TT, [(75, ⟨spec_RootOf.s, spec_RootOf.f⟩), (76, ⟨spec_l16Leaves.s, spec_l16Leaves.f⟩)], GL⟩, sig := spec_PublicOf.s, results := [.tmp 2], L := [], J := [] }
noncomputable def spec_PublicOf.b : Code := match Go.Proofs.Tryz.f43.body with | some c => c | none => .skip
theorem spec_PublicOf.eq (x : spec_PublicOf.s.inDen) : runFn spec_PublicOf.c 6 spec_PublicOf.b x = spec_PublicOf.f x := by kernel_rfl
noncomputable def spec_HyperPublic.c : Cx := { E := ⟨TT, [(43, ⟨spec_PublicOf.s, spec_PublicOf.f⟩)], GL⟩, sig := spec_HyperPublic.s, results := [.tmp 2], L := [], J := [] }
noncomputable def spec_HyperPublic.b : Code := match Go.Proofs.Tryz.f18.body with | some c => c | none => .skip
theorem spec_HyperPublic.eq (x : spec_HyperPublic.s.inDen) : runFn spec_HyperPublic.c 6 spec_HyperPublic.b x = spec_HyperPublic.f x := by kernel_rfl
noncomputable def spec_PublicPart.c : Cx := { E := ⟨TT, [(13, ⟨spec_ThingOk.s, spec_ThingOk.f⟩), (17, ⟨spec_PairOf.s, spec_PairOf.f⟩), (18, ⟨spec_HyperPublic.s, spec_HyperPublic.f⟩)], GL⟩, sig := spec_PublicPart.s, results := [.tmp 2], L := [], J := [] }
noncomputable def spec_PublicPart.b : Code := match Go.Proofs.Tryz.f6.body with | some c => c | none => .skip
theorem spec_PublicPart.eq (x : spec_PublicPart.s.inDen) : runFn spec_PublicPart.c 25 spec_PublicPart.b x = spec_PublicPart.f x := by kernel_rfl
noncomputable def laws_toThing.c : Cx := { E := ⟨TT, [], GL⟩, sig := laws_toThing.s, results := [.cell 2 26], L := [], J := [] }
noncomputable def laws_toThing.b : Code := match Go.Proofs.Tryz.f7.body with | some c => c | none => .skip
theorem laws_toThing.eq (x : laws_toThing.s.inDen) : runFn laws_toThing.c 29 laws_toThing.b x = laws_toThing.f x := by kernel_rfl
noncomputable def impl_in.c : Cx := { E := ⟨TT, [], GL⟩, sig := impl_in.s, results := [.tmp 6], L := [], J := [] }
noncomputable def impl_in.b : Code := match Go.Proofs.Tryz.f30.body with | some c => c | none => .skip
theorem impl_in.eq (x : impl_in.s.inDen) : runFn impl_in.c 15 impl_in.b x = impl_in.f x := by kernel_rfl
noncomputable def impl_ThingOk.c : Cx := { E := ⟨TT, [(30, ⟨impl_in.s, impl_in.f⟩)], GL⟩, sig := impl_ThingOk.s, results := [.tmp 2], L := [], J := [(4, ⟨⟨51, [(1, .ptr 1 [] (.pair tI (.pair tI (.pair tB (.pair tB (.pair tB (.pair tB (.pair tS (.pair tI .unit))))))))), (37, .v tI), (38, .v tB)], [(1, (.pair tI (.pair tI (.pair tB (.pair tB (.pair tB (.pair tB (.pair tS (.pair tI .unit)))))))), .v (.pair tI (.pair tI (.pair tB (.pair tB (.pair tB (.pair tB (.pair tS (.pair tI .unit)))))))))], []⟩, []⟩), (100001, ⟨⟨51, [(1, .ptr 1 [] (.pair tI (.pair tI (.pair tB (.pair tB (.pair tB (.pair tB (.pair tS (.pair tI .unit))))))))), (35, .v tB)], [(1, (.pair tI (.pair tI (.pair tB (.pair tB (.pair tB (.pair tB (.pair tS (.pair tI .unit)))))))), .v (.pair tI (.pair tI (.pair tB (.pair tB (.pair tB (.pair tB (.pair tS (.pair tI .unit)))))))))], []⟩, []⟩)] }
noncomputable def impl_ThingOk.b : Code := match Go.Proofs.Tryz.f14.body with | some c => c | none => .skip
theorem impl_ThingOk.eq (x : impl_ThingOk.s.inDen) : runFn impl_ThingOk.c 51 impl_ThingOk.b x = impl_ThingOk.f x := by kernel_rfl
noncomputable def math_bits_RotateLeft32.c : Cx := { E := ⟨TT, [], GL⟩, sig := math_bits_RotateLeft32.s, results := [.tmp 4], L := [], J := [] }
noncomputable def math_bits_RotateLeft32.b : Code := match Go.Proofs.Tryz.f140.body with | some c => c | none => .skip
theorem math_bits_RotateLeft32.eq (x : math_bits_RotateLeft32.s.inDen) : runFn math_bits_RotateLeft32.c 17 math_bits_RotateLeft32.b x = math_bits_RotateLeft32.f x := by kernel_rfl
noncomputable def impl_right.c : Cx := { E := ⟨TT, [(140, ⟨math_bits_RotateLeft32.s, math_bits_RotateLeft32.f⟩)], GL⟩, sig := impl_right.s, results := [.tmp 4], L := [], J := [] }
noncomputable def impl_right.b : Code := match Go.Proofs.Tryz.f128.body with | some c => c | none => .skip
theorem impl_right.eq (x : impl_right.s.inDen) : runFn impl_right.c 9 impl_right.b x = impl_right.f x := by kernel_rfl
noncomputable def impl_wordsOf.c : Cx := { E := ⟨TT, [(128, ⟨impl_right.s, impl_right.f⟩)], GL⟩, sig := impl_wordsOf.s, results := [.cell 2 131], L := [(0, ⟨⟨77, [(0, .v tS), (2, .ptr 2 [] (.arr 64 tU32)), (3, .ptr 3 [] (.arr 64 tU32)), (11, .v tI)], [(2, (.arr 64 tU32), .v (.arr 64 tU32)), (3, (.arr 64 tU32), .v (.arr 64 tU32))], []⟩, [(0, ⟨77, [(2, .ptr 2 [] (.arr 64 tU32)), (3, .ptr 3 [] (.arr 64 tU32))], [(2, (.arr 64 tU32), .v (.arr 64 tU32)), (3, (.arr 64 tU32), .v (.arr 64 tU32))], []⟩)]⟩), (2, ⟨⟨77, [(0, .v tS), (2, .ptr 2 [] (.arr 64 tU32)), (3, .ptr 3 [] (.arr 64 tU32)), (4, .v tI), (11, .v tI), (14, .v tI)], [(2, (.arr 64 tU32), .v (.arr 64 tU32)), (3, (.arr 64 tU32), .v (.arr 64 tU32))], []⟩, [(2, ⟨77, [(0, .v tS), (2, .ptr 2 [] (.arr 64 tU32)), (3, .ptr 3 [] (.arr 64 tU32)), (11, .v tI)], [(2, (.arr 64 tU32), .v (.arr 64 tU32)), (3, (.arr 64 tU32), .v (.arr 64 tU32))], []⟩)]⟩), (4, ⟨⟨77, [(2, .ptr 2 [] (.arr 64 tU32)), (3, .ptr 3 [] (.arr 64 tU32)), (6, .v tI)], [(2, (.arr 64 tU32), .v (.arr 64 tU32)), (3, (.arr 64 tU32), .v (.arr 64 tU32))], []⟩, [(4, ⟨77, [(2, .ptr 2 [] (.arr 64 tU32)), (3, .ptr 3 [] (.arr 64 tU32))], [(2, (.arr 64 tU32), .v (.arr 64 tU32)), (3, (.arr 64 tU32), .v (.arr 64 tU32))], []⟩)]⟩)], J := [] }
noncomputable def impl_wordsOf.b : Code := match Go.Proofs.Tryz.f127.body with | some c => c | none => .skip
theorem impl_wordsOf.eq (x : impl_wordsOf.s.inDen) : runFn impl_wordsOf.c 77 impl_wordsOf.b x = impl_wordsOf.f x := by kernel_rfl
noncomputable def impl_oneBlock.c : Cx := { E := ⟨TT, [(127, ⟨impl_wordsOf.s, impl_wordsOf.f⟩), (128, ⟨impl_right.s, impl_right.f⟩)], GL⟩, sig := impl_oneBlock.s, results := [.cell 4 99], L := [(0, ⟨⟨122, [(2, .ptr 2 [] (.arr 8 tU32)), (4, .ptr 4 [] (.arr 8 tU32)), (5, .ptr 5 [] (.arr 64 tU32)), (6, .v tU32), (7, .v tU32), (8, .v tU32), (9, .v tU32), (10, .v tU32), (11, .v tU32), (12, .v tU32), (13, .v tU32), (37, .v tI)], [(2, (.arr 8 tU32), .v (.arr 8 tU32)), (4, (.arr 8 tU32), .v (.arr 8 tU32)), (5, (.arr 64 tU32), .v (.arr 64 tU32))], []⟩, [(0, ⟨122, [(2, .ptr 2 [] (.arr 8 tU32)), (4, .ptr 4 [] (.arr 8 tU32)), (6, .v tU32), (7, .v tU32), (8, .v tU32), (9, .v tU32), (10, .v tU32), (11, .v tU32), (12, .v tU32), (13, .v tU32)], [(2, (.arr 8 tU32), .v (.arr 8 tU32)), (4, (.arr 8 tU32), .v (.arr 8 tU32))], []⟩)]⟩), (2, ⟨⟨122, [(2, .ptr 2 [] (.arr 8 tU32)), (4, .ptr 4 [] (.arr 8 tU32)), (17, .ptr 17 [] (.arr 8 tU32)), (109, .v tI)], [(2, (.arr 8 tU32), .v (.arr 8 tU32)), (4, (.arr 8 tU32), .v (.arr 8 tU32)), (17, (.arr 8 tU32), .v (.arr 8 tU32))], []⟩, [(2, ⟨122, [(4, .ptr 4 [] (.arr 8 tU32)), (17, .ptr 17 [] (.arr 8 tU32))], [(4, (.arr 8 tU32), .v (.arr 8 tU32)), (17, (.arr 8 tU32), .v (.arr 8 tU32))], []⟩)]⟩)], J := [] }
noncomputable def impl_oneBlock.b : Code := match Go.Proofs.Tryz.f106.body with | some c => c | none => .skip
theorem impl_oneBlock.eq (x : impl_oneBlock.s.inDen) : runFn impl_oneBlock.c 122 impl_oneBlock.b x = impl_oneBlock.f x := by kernel_rfl
noncomputable def impl_blocks.c : Cx := { E := ⟨TT, [(106, ⟨impl_oneBlock.s, impl_oneBlock.f⟩)], GL⟩, sig := impl_blocks.s, results := [.cell 4 99, .tmp 5], L := [(0, ⟨⟨17, [(1, .v tS), (2, .ptr 2 [] (.arr 8 tU32)), (4, .ptr 4 [] (.arr 8 tU32))], [(2, (.arr 8 tU32), .v (.arr 8 tU32)), (4, (.arr 8 tU32), .v (.arr 8 tU32))], []⟩, [(0, ⟨17, [(1, .v tS), (2, .ptr 2 [] (.arr 8 tU32)), (4, .ptr 4 [] (.arr 8 tU32))], [(2, (.arr 8 tU32), .v (.arr 8 tU32)), (4, (.arr 8 tU32), .v (.arr 8 tU32))], []⟩)]⟩)], J := [] }
noncomputable def impl_blocks.b : Code := match Go.Proofs.Tryz.f77.body with | some c => c | none => .skip
theorem impl_blocks.eq (x : impl_blocks.s.inDen) : runFn impl_blocks.c 17 impl_blocks.b x = impl_blocks.f x := by kernel_rfl
noncomputable def impl_firstState.c : Cx := { E := ⟨TT, [], GL⟩, sig := impl_firstState.s, results := [.cell 0 99], L := [], J := [] }
noncomputable def impl_firstState.b : Code := match Go.Proofs.Tryz.f78.body with | some c => c | none => .skip
theorem impl_firstState.eq (x : impl_firstState.s.inDen) : runFn impl_firstState.c 2 impl_firstState.b x = impl_firstState.f x := by kernel_rfl
noncomputable def impl_zeros.c : Cx := { E := ⟨TT, [], GL⟩, sig := impl_zeros.s, results := [.tmp 2], L := [], J := [] }
noncomputable def impl_zeros.b : Code := match Go.Proofs.Tryz.f107.body with | some c => c | none => .skip
theorem impl_zeros.eq (x : impl_zeros.s.inDen) : runFn impl_zeros.c 6 impl_zeros.b x = impl_zeros.f x := by kernel_rfl
noncomputable def impl_fourBytes.c : Cx := { E := ⟨TT, [], GL⟩, sig := impl_fourBytes.s, results := [.tmp 2], L := [], J := [] }
noncomputable def impl_fourBytes.b : Code := match Go.Proofs.Tryz.f109.body with | some c => c | none => .skip
theorem impl_fourBytes.eq (x : impl_fourBytes.s.inDen) : runFn impl_fourBytes.c 16 impl_fourBytes.b x = impl_fourBytes.f x := by kernel_rfl
noncomputable def impl_eightBytes.c : Cx := { E := ⟨TT, [(109, ⟨impl_fourBytes.s, impl_fourBytes.f⟩)], GL⟩, sig := impl_eightBytes.s, results := [.tmp 2], L := [], J := [] }
noncomputable def impl_eightBytes.b : Code := match Go.Proofs.Tryz.f108.body with | some c => c | none => .skip
theorem impl_eightBytes.eq (x : impl_eightBytes.s.inDen) : runFn impl_eightBytes.c 11 impl_eightBytes.b x = impl_eightBytes.f x := by kernel_rfl
noncomputable def impl_ending.c : Cx := { E := ⟨TT, [(107, ⟨impl_zeros.s, impl_zeros.f⟩), (108, ⟨impl_eightBytes.s, impl_eightBytes.f⟩)], GL⟩, sig := impl_ending.s, results := [.tmp 2], L := [], J := [] }
noncomputable def impl_ending.b : Code := match Go.Proofs.Tryz.f79.body with | some c => c | none => .skip
theorem impl_ending.eq (x : impl_ending.s.inDen) : runFn impl_ending.c 13 impl_ending.b x = impl_ending.f x := by kernel_rfl
noncomputable def impl_stateText.c : Cx := { E := ⟨TT, [(109, ⟨impl_fourBytes.s, impl_fourBytes.f⟩)], GL⟩, sig := impl_stateText.s, results := [.tmp 2], L := [(0, ⟨⟨16, [(3, .v tS), (6, .v (.arr 8 tU32)), (7, .v tI)], [], []⟩, [(0, ⟨16, [(3, .v tS)], [], []⟩)]⟩)], J := [] }
noncomputable def impl_stateText.b : Code := match Go.Proofs.Tryz.f80.body with | some c => c | none => .skip
theorem impl_stateText.eq (x : impl_stateText.s.inDen) : runFn impl_stateText.c 16 impl_stateText.b x = impl_stateText.f x := by kernel_rfl
noncomputable def impl_DigestOf.c : Cx := { E := ⟨TT, [(77, ⟨impl_blocks.s, impl_blocks.f⟩), (78, ⟨impl_firstState.s, impl_firstState.f⟩), (79, ⟨impl_ending.s, impl_ending.f⟩), (80, ⟨impl_stateText.s, impl_stateText.f⟩)], GL⟩, sig := impl_DigestOf.s, results := [.tmp 2], L := [], J := [] }
noncomputable def impl_DigestOf.b : Code := match Go.Proofs.Tryz.f44.body with | some c => c | none => .skip
theorem impl_DigestOf.eq (x : impl_DigestOf.s.inDen) : runFn impl_DigestOf.c 17 impl_DigestOf.b x = impl_DigestOf.f x := by kernel_rfl
noncomputable def impl_PolyOk.c : Cx := { E := ⟨TT, [(30, ⟨impl_in.s, impl_in.f⟩)], GL⟩, sig := impl_PolyOk.s, results := [.tmp 2], L := [(0, ⟨⟨18, [(0, .v (.list tI)), (5, .v (.list tI)), (6, .v tI), (7, .v tI)], [], []⟩, [(0, ⟨18, [(0, .v (.list tI))], [], []⟩)]⟩)], J := [] }
noncomputable def impl_PolyOk.b : Code := match Go.Proofs.Tryz.f83.body with | some c => c | none => .skip
theorem impl_PolyOk.eq (x : impl_PolyOk.s.inDen) : runFn impl_PolyOk.c 18 impl_PolyOk.b x = impl_PolyOk.f x := by kernel_rfl
noncomputable def impl_copyInts.c : Cx := { E := ⟨TT, [], GL⟩, sig := impl_copyInts.s, results := [.tmp 2], L := [], J := [] }
noncomputable def impl_copyInts.b : Code := match Go.Proofs.Tryz.f110.body with | some c => c | none => .skip
theorem impl_copyInts.eq (x : impl_copyInts.s.inDen) : runFn impl_copyInts.c 5 impl_copyInts.b x = impl_copyInts.f x := by kernel_rfl
noncomputable def impl_modQ.c : Cx := { E := ⟨TT, [], GL⟩, sig := impl_modQ.s, results := [.tmp 2], L := [], J := [] }
noncomputable def impl_modQ.b : Code := match Go.Proofs.Tryz.f113.body with | some c => c | none => .skip
theorem impl_modQ.eq (x : impl_modQ.s.inDen) : runFn impl_modQ.c 7 impl_modQ.b x = impl_modQ.f x := by kernel_rfl
noncomputable def impl_PowQ.c : Cx := { E := ⟨TT, [(30, ⟨impl_in.s, impl_in.f⟩), (113, ⟨impl_modQ.s, impl_modQ.f⟩)], GL⟩, sig := impl_PowQ.s, results := [.tmp 4], L := [(0, ⟨⟨27, [(0, .v tI), (1, .v tI), (5, .v tI)], [], []⟩, [(0, ⟨27, [(5, .v tI)], [], []⟩)]⟩)], J := [] }
noncomputable def impl_PowQ.b : Code := match Go.Proofs.Tryz.f111.body with | some c => c | none => .skip
theorem impl_PowQ.eq (x : impl_PowQ.s.inDen) : runFn impl_PowQ.c 27 impl_PowQ.b x = impl_PowQ.f x := by kernel_rfl
noncomputable def impl_Turn7.c : Cx := { E := ⟨TT, [], GL⟩, sig := impl_Turn7.s, results := [.tmp 2], L := [(0, ⟨⟨17, [(0, .v tI), (3, .v tI), (5, .v tI)], [], []⟩, [(0, ⟨17, [(3, .v tI)], [], []⟩)]⟩)], J := [] }
noncomputable def impl_Turn7.b : Code := match Go.Proofs.Tryz.f112.body with | some c => c | none => .skip
theorem impl_Turn7.eq (x : impl_Turn7.s.inDen) : runFn impl_Turn7.c 17 impl_Turn7.b x = impl_Turn7.f x := by kernel_rfl
noncomputable def impl_Ntt.c : Cx := { E := ⟨TT, [(83, ⟨impl_PolyOk.s, impl_PolyOk.f⟩), (110, ⟨impl_copyInts.s, impl_copyInts.f⟩), (111, ⟨impl_PowQ.s, impl_PowQ.f⟩), (112, ⟨impl_Turn7.s, impl_Turn7.f⟩), (113, ⟨impl_modQ.s, impl_modQ.f⟩)], GL⟩, sig := impl_Ntt.s, results := [.tmp 2], L := [(0, ⟨⟨69, [(3, .row 500300 tI), (4, .v tI), (5, .v tI)], [], []⟩, [(0, ⟨69, [(3, .row 500300 tI)], [], []⟩)]⟩), (2, ⟨⟨69, [(3, .row 500300 tI), (4, .v tI), (5, .v tI), (6, .v tI)], [], []⟩, [(2, ⟨69, [(3, .row 500300 tI), (4, .v tI), (5, .v tI)], [], []⟩)]⟩), (4, ⟨⟨69, [(3, .row 500300 tI), (4, .v tI), (5, .v tI), (6, .v tI), (7, .v tI), (8, .v tI)], [], []⟩, [(4, ⟨69, [(3, .row 500300 tI), (4, .v tI), (5, .v tI), (6, .v tI)], [], []⟩)]⟩)], J := [] }
noncomputable def impl_Ntt.b : Code := match Go.Proofs.Tryz.f81.body with | some c => c | none => .skip
theorem impl_Ntt.eq (x : impl_Ntt.s.inDen) : runFn impl_Ntt.c 69 impl_Ntt.b x = impl_Ntt.f x := by kernel_rfl
noncomputable def impl_ntts.c : Cx := { E := ⟨TT, [(81, ⟨impl_Ntt.s, impl_Ntt.f⟩)], GL⟩, sig := impl_ntts.s, results := [.tmp 2], L := [(0, ⟨⟨19, [(3, .row 500300 (.list tI)), (6, .v (.list (.list tI))), (7, .v tI), (8, .v tI)], [], []⟩, [(0, ⟨19, [(3, .row 500300 (.list tI))], [], []⟩)]⟩)], J := [] }
noncomputable def impl_ntts.b : Code := match Go.Proofs.Tryz.f45.body with | some c => c | none => .skip
theorem impl_ntts.eq (x : impl_ntts.s.inDen) : runFn impl_ntts.c 19 impl_ntts.b x = impl_ntts.f x := by kernel_rfl
end Go.Vi

