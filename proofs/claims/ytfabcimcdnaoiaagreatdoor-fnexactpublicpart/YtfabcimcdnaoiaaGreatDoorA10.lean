/- A part of the proof of publicPart_holds: Ge2. No condition of its own. -/
import Derived.Test.YtfabcimcdnaoiaaGreatDoorA07
import Derived.Test.YtfabcimcdnaoiaaGreatDoorProg
import Derived.KernelRfl
set_option autoImplicit false
set_option maxRecDepth 1000000
set_option maxHeartbeats 0
set_option linter.unusedVariables false
set_option linter.unusedSimpArgs false
namespace Go.Vi
open Go
noncomputable def impl_oneByte.c : Cx := { E := ⟨TT, [], GL⟩, sig := impl_oneByte.s, results := [.tmp 2], L := [], J := [] }
noncomputable def impl_oneByte.b : Code := match Go.Proofs.Tryz.f24.body with | some c => c | none => .skip
theorem impl_oneByte.eq (x : impl_oneByte.s.inDen) : runFn impl_oneByte.c 7 impl_oneByte.b x = impl_oneByte.f x := by kernel_rfl
noncomputable def math_bits_RotateLeft64.c : Cx := { E := ⟨TT, [], GL⟩, sig := math_bits_RotateLeft64.s, results := [.tmp 4], L := [], J := [] }
noncomputable def math_bits_RotateLeft64.b : Code := match Go.Proofs.Tryz.f153.body with | some c => c | none => .skip
theorem math_bits_RotateLeft64.eq (x : math_bits_RotateLeft64.s.inDen) : runFn math_bits_RotateLeft64.c 17 math_bits_RotateLeft64.b x = math_bits_RotateLeft64.f x := by kernel_rfl
noncomputable def impl_lanes_theta.c : Cx := { E := ⟨TT, [(153, ⟨math_bits_RotateLeft64.s, math_bits_RotateLeft64.f⟩)], GL⟩, sig := impl_lanes_theta.s, results := [.cell 2 142], L := [(0, ⟨⟨45, [(1, .ptr 1 [] (.arr 25 tU64)), (2, .ptr 2 [] (.arr 25 tU64)), (3, .ptr 3 [] (.arr 5 tU64)), (8, .v (.arr 25 tU64)), (9, .v tI)], [(1, (.arr 25 tU64), .v (.arr 25 tU64)), (2, (.arr 25 tU64), .v (.arr 25 tU64)), (3, (.arr 5 tU64), .v (.arr 5 tU64))], []⟩, [(0, ⟨45, [(1, .ptr 1 [] (.arr 25 tU64)), (2, .ptr 2 [] (.arr 25 tU64)), (3, .ptr 3 [] (.arr 5 tU64))], [(1, (.arr 25 tU64), .v (.arr 25 tU64)), (2, (.arr 25 tU64), .v (.arr 25 tU64)), (3, (.arr 5 tU64), .v (.arr 5 tU64))], []⟩)]⟩), (2, ⟨⟨45, [(1, .ptr 1 [] (.arr 25 tU64)), (2, .ptr 2 [] (.arr 25 tU64)), (3, .ptr 3 [] (.arr 5 tU64)), (21, .v tI)], [(1, (.arr 25 tU64), .v (.arr 25 tU64)), (2, (.arr 25 tU64), .v (.arr 25 tU64)), (3, (.arr 5 tU64), .v (.arr 5 tU64))], []⟩, [(2, ⟨45, [(1, .ptr 1 [] (.arr 25 tU64)), (2, .ptr 2 [] (.arr 25 tU64))], [(1, (.arr 25 tU64), .v (.arr 25 tU64)), (2, (.arr 25 tU64), .v (.arr 25 tU64))], []⟩)]⟩)], J := [] }
noncomputable def impl_lanes_theta.b : Code := match Go.Proofs.Tryz.f148.body with | some c => c | none => .skip
theorem impl_lanes_theta.eq (x : impl_lanes_theta.s.inDen) : runFn impl_lanes_theta.c 45 impl_lanes_theta.b x = impl_lanes_theta.f x := by kernel_rfl
noncomputable def impl_lanes_rhoPi.c : Cx := { E := ⟨TT, [(153, ⟨math_bits_RotateLeft64.s, math_bits_RotateLeft64.f⟩)], GL⟩, sig := impl_lanes_rhoPi.s, results := [.cell 2 142], L := [(0, ⟨⟨47, [(1, .ptr 1 [] (.arr 25 tU64)), (2, .ptr 2 [] (.arr 25 tU64)), (3, .ptr 3 [] (.arr 25 tU64)), (4, .v tI), (5, .v tI), (13, .v tI)], [(1, (.arr 25 tU64), .v (.arr 25 tU64)), (2, (.arr 25 tU64), .v (.arr 25 tU64)), (3, (.arr 25 tU64), .v (.arr 25 tU64))], []⟩, [(0, ⟨47, [(2, .ptr 2 [] (.arr 25 tU64)), (3, .ptr 3 [] (.arr 25 tU64))], [(2, (.arr 25 tU64), .v (.arr 25 tU64)), (3, (.arr 25 tU64), .v (.arr 25 tU64))], []⟩)]⟩)], J := [] }
noncomputable def impl_lanes_rhoPi.b : Code := match Go.Proofs.Tryz.f149.body with | some c => c | none => .skip
theorem impl_lanes_rhoPi.eq (x : impl_lanes_rhoPi.s.inDen) : runFn impl_lanes_rhoPi.c 47 impl_lanes_rhoPi.b x = impl_lanes_rhoPi.f x := by kernel_rfl
noncomputable def impl_lanes_chi.c : Cx := { E := ⟨TT, [], GL⟩, sig := impl_lanes_chi.s, results := [.cell 2 142], L := [(0, ⟨⟨45, [(1, .ptr 1 [] (.arr 25 tU64)), (2, .ptr 2 [] (.arr 25 tU64)), (3, .ptr 3 [] (.arr 25 tU64)), (6, .v tI)], [(1, (.arr 25 tU64), .v (.arr 25 tU64)), (2, (.arr 25 tU64), .v (.arr 25 tU64)), (3, (.arr 25 tU64), .v (.arr 25 tU64))], []⟩, [(0, ⟨45, [(2, .ptr 2 [] (.arr 25 tU64)), (3, .ptr 3 [] (.arr 25 tU64))], [(2, (.arr 25 tU64), .v (.arr 25 tU64)), (3, (.arr 25 tU64), .v (.arr 25 tU64))], []⟩)]⟩), (2, ⟨⟨45, [(1, .ptr 1 [] (.arr 25 tU64)), (2, .ptr 2 [] (.arr 25 tU64)), (3, .ptr 3 [] (.arr 25 tU64)), (4, .v tI), (6, .v tI), (9, .v tI)], [(1, (.arr 25 tU64), .v (.arr 25 tU64)), (2, (.arr 25 tU64), .v (.arr 25 tU64)), (3, (.arr 25 tU64), .v (.arr 25 tU64))], []⟩, [(2, ⟨45, [(1, .ptr 1 [] (.arr 25 tU64)), (2, .ptr 2 [] (.arr 25 tU64)), (3, .ptr 3 [] (.arr 25 tU64)), (6, .v tI)], [(1, (.arr 25 tU64), .v (.arr 25 tU64)), (2, (.arr 25 tU64), .v (.arr 25 tU64)), (3, (.arr 25 tU64), .v (.arr 25 tU64))], []⟩)]⟩)], J := [] }
noncomputable def impl_lanes_chi.b : Code := match Go.Proofs.Tryz.f150.body with | some c => c | none => .skip
theorem impl_lanes_chi.eq (x : impl_lanes_chi.s.inDen) : runFn impl_lanes_chi.c 45 impl_lanes_chi.b x = impl_lanes_chi.f x := by kernel_rfl
noncomputable def impl_roundBit.c : Cx := { E := ⟨TT, [], GL⟩, sig := impl_roundBit.s, results := [.tmp 2], L := [(0, ⟨⟨18, [(3, .v tI), (4, .v tI), (5, .v tI)], [], []⟩, [(0, ⟨18, [(3, .v tI)], [], []⟩)]⟩)], J := [] }
noncomputable def impl_roundBit.b : Code := match Go.Proofs.Tryz.f154.body with | some c => c | none => .skip
theorem impl_roundBit.eq (x : impl_roundBit.s.inDen) : runFn impl_roundBit.c 18 impl_roundBit.b x = impl_roundBit.f x := by kernel_rfl
noncomputable def impl_roundLane.c : Cx := { E := ⟨TT, [(154, ⟨impl_roundBit.s, impl_roundBit.f⟩)], GL⟩, sig := impl_roundLane.s, results := [.tmp 2], L := [(0, ⟨⟨21, [(0, .v tI), (3, .v tU64), (5, .v tI)], [], []⟩, [(0, ⟨21, [(3, .v tU64)], [], []⟩)]⟩)], J := [] }
noncomputable def impl_roundLane.b : Code := match Go.Proofs.Tryz.f151.body with | some c => c | none => .skip
theorem impl_roundLane.eq (x : impl_roundLane.s.inDen) : runFn impl_roundLane.c 21 impl_roundLane.b x = impl_roundLane.f x := by kernel_rfl
noncomputable def impl_permuted.c : Cx := { E := ⟨TT, [(148, ⟨impl_lanes_theta.s, impl_lanes_theta.f⟩), (149, ⟨impl_lanes_rhoPi.s, impl_lanes_rhoPi.f⟩), (150, ⟨impl_lanes_chi.s, impl_lanes_chi.f⟩), (151, ⟨impl_roundLane.s, impl_roundLane.f⟩)], GL⟩, sig := impl_permuted.s, results := [.cell 2 142], L := [(0, ⟨⟨19, [(1, .ptr 1 [] (.arr 25 tU64)), (2, .ptr 2 [] (.arr 25 tU64)), (4, .v tI)], [(1, (.arr 25 tU64), .v (.arr 25 tU64)), (2, (.arr 25 tU64), .v (.arr 25 tU64))], []⟩, [(0, ⟨19, [(1, .ptr 1 [] (.arr 25 tU64)), (2, .ptr 2 [] (.arr 25 tU64))], [(1, (.arr 25 tU64), .v (.arr 25 tU64)), (2, (.arr 25 tU64), .v (.arr 25 tU64))], []⟩)]⟩)], J := [] }
noncomputable def impl_permuted.b : Code := match Go.Proofs.Tryz.f141.body with | some c => c | none => .skip
theorem impl_permuted.eq (x : impl_permuted.s.inDen) : runFn impl_permuted.c 19 impl_permuted.b x = impl_permuted.f x := by kernel_rfl
noncomputable def impl_lanesOf.c : Cx := { E := ⟨TT, [], GL⟩, sig := impl_lanesOf.s, results := [.cell 2 142], L := [(0, ⟨⟨24, [(0, .v tS), (2, .ptr 2 [] (.arr 25 tU64)), (3, .ptr 3 [] (.arr 25 tU64)), (5, .v tI)], [(2, (.arr 25 tU64), .v (.arr 25 tU64)), (3, (.arr 25 tU64), .v (.arr 25 tU64))], []⟩, [(0, ⟨24, [(2, .ptr 2 [] (.arr 25 tU64)), (3, .ptr 3 [] (.arr 25 tU64))], [(2, (.arr 25 tU64), .v (.arr 25 tU64)), (3, (.arr 25 tU64), .v (.arr 25 tU64))], []⟩)]⟩)], J := [] }
noncomputable def impl_lanesOf.b : Code := match Go.Proofs.Tryz.f142.body with | some c => c | none => .skip
theorem impl_lanesOf.eq (x : impl_lanesOf.s.inDen) : runFn impl_lanesOf.c 24 impl_lanesOf.b x = impl_lanesOf.f x := by kernel_rfl
noncomputable def impl_lanes_text.c : Cx := { E := ⟨TT, [], GL⟩, sig := impl_lanes_text.s, results := [.tmp 2], L := [(0, ⟨⟨26, [(1, .ptr 1 [] (.arr 25 tU64)), (3, .row 500300 tU8), (7, .v tI), (8, .v tI)], [(1, (.arr 25 tU64), .v (.arr 25 tU64))], []⟩, [(0, ⟨26, [(3, .row 500300 tU8)], [], []⟩)]⟩)], J := [] }
noncomputable def impl_lanes_text.b : Code := match Go.Proofs.Tryz.f143.body with | some c => c | none => .skip
theorem impl_lanes_text.eq (x : impl_lanes_text.s.inDen) : runFn impl_lanes_text.c 26 impl_lanes_text.b x = impl_lanes_text.f x := by kernel_rfl
noncomputable def impl_Permute.c : Cx := { E := ⟨TT, [(141, ⟨impl_permuted.s, impl_permuted.f⟩), (142, ⟨impl_lanesOf.s, impl_lanesOf.f⟩), (143, ⟨impl_lanes_text.s, impl_lanes_text.f⟩)], GL⟩, sig := impl_Permute.s, results := [.tmp 2], L := [], J := [] }
noncomputable def impl_Permute.b : Code := match Go.Proofs.Tryz.f130.body with | some c => c | none => .skip
theorem impl_Permute.eq (x : impl_Permute.s.inDen) : runFn impl_Permute.c 11 impl_Permute.b x = impl_Permute.f x := by kernel_rfl
noncomputable def impl_absorbed.c : Cx := { E := ⟨TT, [(130, ⟨impl_Permute.s, impl_Permute.f⟩)], GL⟩, sig := impl_absorbed.s, results := [.tmp 6], L := [(0, ⟨⟨63, [(1, .v tI), (7, .row 500700 tU8)], [], []⟩, [(0, ⟨63, [(1, .v tI), (7, .row 500700 tU8)], [], []⟩)]⟩), (2, ⟨⟨63, [(1, .v tI), (7, .row 500700 tU8), (8, .row 500800 tU8), (9, .v tI)], [], []⟩, [(2, ⟨63, [(8, .row 500800 tU8)], [], []⟩)]⟩), (4, ⟨⟨63, [(1, .v tI), (7, .row 500700 tU8), (8, .row 500800 tU8), (9, .v tI), (40, .v tI), (41, .v tI)], [], []⟩, [(4, ⟨63, [(1, .v tI), (7, .row 500700 tU8), (8, .row 500800 tU8), (9, .v tI)], [], []⟩)]⟩)], J := [] }
noncomputable def impl_absorbed.b : Code := match Go.Proofs.Tryz.f129.body with | some c => c | none => .skip
theorem impl_absorbed.eq (x : impl_absorbed.s.inDen) : runFn impl_absorbed.c 63 impl_absorbed.b x = impl_absorbed.f x := by kernel_rfl
noncomputable def impl_StreamNew.c : Cx := { E := ⟨TT, [(129, ⟨impl_absorbed.s, impl_absorbed.f⟩)], GL⟩, sig := impl_StreamNew.s, results := [.cell 2 116], L := [], J := [] }
noncomputable def impl_StreamNew.b : Code := match Go.Proofs.Tryz.f115.body with | some c => c | none => .skip
theorem impl_StreamNew.eq (x : impl_StreamNew.s.inDen) : runFn impl_StreamNew.c 6 impl_StreamNew.b x = impl_StreamNew.f x := by kernel_rfl
noncomputable def impl_StreamTake.c : Cx := { E := ⟨TT, [(30, ⟨impl_in.s, impl_in.f⟩), (130, ⟨impl_Permute.s, impl_Permute.f⟩)], GL⟩, sig := impl_StreamTake.s, results := [.cell 4 116, .tmp 5], L := [(0, ⟨⟨61, [(1, .v tI), (2, .ptr 2 [] (.pair tS (.pair tI .unit))), (4, .ptr 4 [] (.pair tS (.pair tI .unit))), (6, .v tS)], [(2, (.pair tS (.pair tI .unit)), .v (.pair tS (.pair tI .unit))), (4, (.pair tS (.pair tI .unit)), .v (.pair tS (.pair tI .unit)))], []⟩, [(0, ⟨61, [(2, .ptr 2 [] (.pair tS (.pair tI .unit))), (4, .ptr 4 [] (.pair tS (.pair tI .unit))), (6, .v tS)], [(2, (.pair tS (.pair tI .unit)), .v (.pair tS (.pair tI .unit))), (4, (.pair tS (.pair tI .unit)), .v (.pair tS (.pair tI .unit)))], []⟩)]⟩)], J := [(5, ⟨⟨61, [(1, .v tI), (2, .ptr 2 [] (.pair tS (.pair tI .unit))), (4, .ptr 4 [] (.pair tS (.pair tI .unit))), (6, .v tS)], [(2, (.pair tS (.pair tI .unit)), .v (.pair tS (.pair tI .unit))), (4, (.pair tS (.pair tI .unit)), .v (.pair tS (.pair tI .unit)))], []⟩, []⟩), (100001, ⟨⟨61, [(1, .v tI), (2, .ptr 2 [] (.pair tS (.pair tI .unit))), (4, .ptr 4 [] (.pair tS (.pair tI .unit))), (22, .v tB)], [(2, (.pair tS (.pair tI .unit)), .v (.pair tS (.pair tI .unit))), (4, (.pair tS (.pair tI .unit)), .v (.pair tS (.pair tI .unit)))], []⟩, []⟩)] }
noncomputable def impl_StreamTake.b : Code := match Go.Proofs.Tryz.f116.body with | some c => c | none => .skip
theorem impl_StreamTake.eq (x : impl_StreamTake.s.inDen) : runFn impl_StreamTake.c 61 impl_StreamTake.b x = impl_StreamTake.f x := by kernel_rfl
noncomputable def impl_ShakeOf.c : Cx := { E := ⟨TT, [(30, ⟨impl_in.s, impl_in.f⟩), (115, ⟨impl_StreamNew.s, impl_StreamNew.f⟩), (116, ⟨impl_StreamTake.s, impl_StreamTake.f⟩)], GL⟩, sig := impl_ShakeOf.s, results := [.tmp 4, .tmp 5], L := [], J := [] }
noncomputable def impl_ShakeOf.b : Code := match Go.Proofs.Tryz.f114.body with | some c => c | none => .skip
theorem impl_ShakeOf.eq (x : impl_ShakeOf.s.inDen) : runFn impl_ShakeOf.c 19 impl_ShakeOf.b x = impl_ShakeOf.f x := by kernel_rfl
noncomputable def impl_Small.c : Cx := { E := ⟨TT, [(24, ⟨impl_oneByte.s, impl_oneByte.f⟩), (113, ⟨impl_modQ.s, impl_modQ.f⟩), (114, ⟨impl_ShakeOf.s, impl_ShakeOf.f⟩)], GL⟩, sig := impl_Small.s, results := [.tmp 4], L := [(0, ⟨⟨53, [(5, .v tS), (7, .row 500700 tI), (20, .v tI), (21, .v tI)], [], []⟩, [(0, ⟨53, [(7, .row 500700 tI)], [], []⟩)]⟩)], J := [] }
noncomputable def impl_Small.b : Code := match Go.Proofs.Tryz.f82.body with | some c => c | none => .skip
theorem impl_Small.eq (x : impl_Small.s.inDen) : runFn impl_Small.c 53 impl_Small.b x = impl_Small.f x := by kernel_rfl
noncomputable def impl_smalls.c : Cx := { E := ⟨TT, [(82, ⟨impl_Small.s, impl_Small.f⟩)], GL⟩, sig := impl_smalls.s, results := [.tmp 4], L := [(0, ⟨⟨20, [(0, .v tS), (1, .v tI), (5, .row 500500 (.list tI)), (7, .v tI)], [], []⟩, [(0, ⟨20, [(5, .row 500500 (.list tI))], [], []⟩)]⟩)], J := [] }
noncomputable def impl_smalls.b : Code := match Go.Proofs.Tryz.f46.body with | some c => c | none => .skip
theorem impl_smalls.eq (x : impl_smalls.s.inDen) : runFn impl_smalls.c 20 impl_smalls.b x = impl_smalls.f x := by kernel_rfl
noncomputable def impl_packed.c : Cx := { E := ⟨TT, [], GL⟩, sig := impl_packed.s, results := [.tmp 4], L := [(0, ⟨⟨52, [(1, .v tI), (5, .row 500500 tU8), (17, .v (.list tI)), (18, .v tI), (19, .v tI)], [], []⟩, [(0, ⟨52, [(5, .row 500500 tU8)], [], []⟩)]⟩), (2, ⟨⟨52, [(1, .v tI), (5, .row 500500 tU8), (6, .v tI), (7, .v tI), (17, .v (.list tI)), (18, .v tI), (19, .v tI), (24, .v tI), (25, .v tI)], [], []⟩, [(2, ⟨52, [(1, .v tI), (5, .row 500500 tU8), (17, .v (.list tI)), (18, .v tI), (19, .v tI)], [], []⟩)]⟩)], J := [] }
noncomputable def impl_packed.b : Code := match Go.Proofs.Tryz.f84.body with | some c => c | none => .skip
theorem impl_packed.eq (x : impl_packed.s.inDen) : runFn impl_packed.c 52 impl_packed.b x = impl_packed.f x := by kernel_rfl
noncomputable def impl_PolyBytes.c : Cx := { E := ⟨TT, [(83, ⟨impl_PolyOk.s, impl_PolyOk.f⟩), (84, ⟨impl_packed.s, impl_packed.f⟩)], GL⟩, sig := impl_PolyBytes.s, results := [.tmp 2], L := [], J := [] }
noncomputable def impl_PolyBytes.b : Code := match Go.Proofs.Tryz.f47.body with | some c => c | none => .skip
theorem impl_PolyBytes.eq (x : impl_PolyBytes.s.inDen) : runFn impl_PolyBytes.c 8 impl_PolyBytes.b x = impl_PolyBytes.f x := by kernel_rfl
noncomputable def impl_PolyAdd_1.c : Cx := { E := ⟨TT, [], GL⟩, sig := impl_PolyAdd_1.s, results := [.tmp 4], L := [], J := [] }
noncomputable def impl_PolyAdd_1.b : Code := match Go.Proofs.Tryz.f86.body with | some c => c | none => .skip
theorem impl_PolyAdd_1.eq (x : impl_PolyAdd_1.s.inDen) : runFn impl_PolyAdd_1.c 8 impl_PolyAdd_1.b x = impl_PolyAdd_1.f x := by kernel_rfl
noncomputable def impl_each.c : Cx := { E := ⟨TT, [(83, ⟨impl_PolyOk.s, impl_PolyOk.f⟩), (86, ⟨impl_PolyAdd_1.s, impl_PolyAdd_1.f⟩), (113, ⟨impl_modQ.s, impl_modQ.f⟩)], GL⟩, sig := impl_each.s, results := [.tmp 6], L := [(0, ⟨⟨39, [(0, .v (.list tI)), (1, .v (.list tI)), (2, .fn 86), (7, .row 500700 tI), (19, .v tI), (20, .v tI)], [], []⟩, [(0, ⟨39, [(7, .row 500700 tI)], [], []⟩)]⟩)], J := [(100001, ⟨⟨39, [(0, .v (.list tI)), (1, .v (.list tI)), (2, .fn 86), (16, .v tB)], [], []⟩, []⟩)] }
noncomputable def impl_each.b : Code := match Go.Proofs.Tryz.f85.body with | some c => c | none => .skip
theorem impl_each.eq (x : impl_each.s.inDen) : runFn impl_each.c 39 impl_each.b x = impl_each.f x := by kernel_rfl
noncomputable def impl_PolyAdd.c : Cx := { E := ⟨TT, [(85, ⟨impl_each.s, impl_each.f⟩)], GL⟩, sig := impl_PolyAdd.s, results := [.tmp 4], L := [], J := [] }
noncomputable def impl_PolyAdd.b : Code := match Go.Proofs.Tryz.f48.body with | some c => c | none => .skip
theorem impl_PolyAdd.eq (x : impl_PolyAdd.s.inDen) : runFn impl_PolyAdd.c 8 impl_PolyAdd.b x = impl_PolyAdd.f x := by kernel_rfl
noncomputable def impl_MulNtt.c : Cx := { E := ⟨TT, [(83, ⟨impl_PolyOk.s, impl_PolyOk.f⟩), (111, ⟨impl_PowQ.s, impl_PowQ.f⟩), (112, ⟨impl_Turn7.s, impl_Turn7.f⟩), (113, ⟨impl_modQ.s, impl_modQ.f⟩)], GL⟩, sig := impl_MulNtt.s, results := [.tmp 4], L := [(0, ⟨⟨81, [(0, .v (.list tI)), (1, .v (.list tI)), (5, .row 500500 tI), (21, .v tI)], [], []⟩, [(0, ⟨81, [(5, .row 500500 tI)], [], []⟩)]⟩)], J := [(100001, ⟨⟨81, [(0, .v (.list tI)), (1, .v (.list tI)), (19, .v tB)], [], []⟩, []⟩)] }
noncomputable def impl_MulNtt.b : Code := match Go.Proofs.Tryz.f87.body with | some c => c | none => .skip
theorem impl_MulNtt.eq (x : impl_MulNtt.s.inDen) : runFn impl_MulNtt.c 81 impl_MulNtt.b x = impl_MulNtt.f x := by kernel_rfl
noncomputable def impl_dot.c : Cx := { E := ⟨TT, [(48, ⟨impl_PolyAdd.s, impl_PolyAdd.f⟩), (87, ⟨impl_MulNtt.s, impl_MulNtt.f⟩)], GL⟩, sig := impl_dot.s, results := [.tmp 4], L := [(0, ⟨⟨26, [(0, .v (.list (.list tI))), (1, .v (.list (.list tI))), (5, .v (.list tI)), (9, .v tI), (10, .v tI)], [], []⟩, [(0, ⟨26, [(5, .v (.list tI))], [], []⟩)]⟩)], J := [] }
noncomputable def impl_dot.b : Code := match Go.Proofs.Tryz.f49.body with | some c => c | none => .skip
theorem impl_dot.eq (x : impl_dot.s.inDen) : runFn impl_dot.c 26 impl_dot.b x = impl_dot.f x := by kernel_rfl
noncomputable def impl_Uniform.c : Cx := { E := ⟨TT, [(24, ⟨impl_oneByte.s, impl_oneByte.f⟩), (115, ⟨impl_StreamNew.s, impl_StreamNew.f⟩), (116, ⟨impl_StreamTake.s, impl_StreamTake.f⟩)], GL⟩, sig := impl_Uniform.s, results := [.tmp 6], L := [(0, ⟨⟨80, [(7, .ptr 7 [] (.pair tS (.pair tI .unit))), (8, .row 500800 tI), (9, .v tI), (10, .v tI)], [(7, (.pair tS (.pair tI .unit)), .v (.pair tS (.pair tI .unit)))], []⟩, [(0, ⟨80, [(8, .row 500800 tI)], [], []⟩)]⟩), (2, ⟨⟨80, [(7, .ptr 7 [] (.pair tS (.pair tI .unit))), (8, .row 500800 tI), (9, .v tI), (10, .v tI), (60, .row 506000 tI), (61, .v tI), (62, .v tI)], [(7, (.pair tS (.pair tI .unit)), .v (.pair tS (.pair tI .unit)))], []⟩, [(2, ⟨80, [(7, .ptr 7 [] (.pair tS (.pair tI .unit))), (8, .row 500800 tI), (9, .v tI), (10, .v tI)], [(7, (.pair tS (.pair tI .unit)), .v (.pair tS (.pair tI .unit)))], []⟩)]⟩)], J := [(100005, ⟨⟨80, [(7, .ptr 7 [] (.pair tS (.pair tI .unit))), (8, .row 500800 tI), (9, .v tI), (10, .v tI), (32, .v tB)], [(7, (.pair tS (.pair tI .unit)), .v (.pair tS (.pair tI .unit)))], []⟩, []⟩)] }
noncomputable def impl_Uniform.b : Code := match Go.Proofs.Tryz.f88.body with | some c => c | none => .skip
theorem impl_Uniform.eq (x : impl_Uniform.s.inDen) : runFn impl_Uniform.c 80 impl_Uniform.b x = impl_Uniform.f x := by kernel_rfl
noncomputable def impl_row.c : Cx := { E := ⟨TT, [(88, ⟨impl_Uniform.s, impl_Uniform.f⟩)], GL⟩, sig := impl_row.s, results := [.tmp 6], L := [(0, ⟨⟨29, [(0, .v tS), (1, .v tI), (2, .v tB), (7, .row 500700 (.list tI)), (9, .v tI)], [], []⟩, [(0, ⟨29, [(7, .row 500700 (.list tI))], [], []⟩)]⟩)], J := [] }
noncomputable def impl_row.b : Code := match Go.Proofs.Tryz.f50.body with | some c => c | none => .skip
theorem impl_row.eq (x : impl_row.s.inDen) : runFn impl_row.c 29 impl_row.b x = impl_row.f x := by kernel_rfl
noncomputable def impl_PairOf.c : Cx := { E := ⟨TT, [(44, ⟨impl_DigestOf.s, impl_DigestOf.f⟩), (45, ⟨impl_ntts.s, impl_ntts.f⟩), (46, ⟨impl_smalls.s, impl_smalls.f⟩), (47, ⟨impl_PolyBytes.s, impl_PolyBytes.f⟩), (48, ⟨impl_PolyAdd.s, impl_PolyAdd.f⟩), (49, ⟨impl_dot.s, impl_dot.f⟩), (50, ⟨impl_row.s, impl_row.f⟩)], GL⟩, sig := impl_PairOf.s, results := [.cell 2 39, .tmp 3], L := [(0, ⟨⟨69, [(2, .ptr 2 [] (.pair tS (.pair tS .unit))), (4, .v tS), (5, .v tS), (7, .v (.list (.list tI))), (8, .v (.list (.list tI))), (9, .v tS), (10, .v tS), (30, .v tI)], [(2, (.pair tS (.pair tS .unit)), .v (.pair tS (.pair tS .unit)))], []⟩, [(0, ⟨69, [(2, .ptr 2 [] (.pair tS (.pair tS .unit))), (4, .v tS), (5, .v tS), (9, .v tS), (10, .v tS)], [(2, (.pair tS (.pair tS .unit)), .v (.pair tS (.pair tS .unit)))], []⟩)]⟩)], J := [] }
noncomputable def impl_PairOf.b : Code := match Go.Proofs.Tryz.f19.body with | some c => c | none => .skip
theorem impl_PairOf.eq (x : impl_PairOf.s.inDen) : runFn impl_PairOf.c 69 impl_PairOf.b x = impl_PairOf.f x := by kernel_rfl
noncomputable def impl_Chop.c : Cx := { E := ⟨TT, [(44, ⟨impl_DigestOf.s, impl_DigestOf.f⟩)], GL⟩, sig := impl_Chop.s, results := [.tmp 2], L := [], J := [] }
noncomputable def impl_Chop.b : Code := match Go.Proofs.Tryz.f135.body with | some c => c | none => .skip
theorem impl_Chop.eq (x : impl_Chop.s.inDen) : runFn impl_Chop.c 6 impl_Chop.b x = impl_Chop.f x := by kernel_rfl
noncomputable def impl_Node.c : Cx := { E := ⟨TT, [(24, ⟨impl_oneByte.s, impl_oneByte.f⟩), (135, ⟨impl_Chop.s, impl_Chop.f⟩)], GL⟩, sig := impl_Node.s, results := [.tmp 8], L := [], J := [] }
noncomputable def impl_Node.b : Code := match Go.Proofs.Tryz.f131.body with | some c => c | none => .skip
theorem impl_Node.eq (x : impl_Node.s.inDen) : runFn impl_Node.c 20 impl_Node.b x = impl_Node.f x := by kernel_rfl
noncomputable def impl_LevelUp.c : Cx := { E := ⟨TT, [(131, ⟨impl_Node.s, impl_Node.f⟩)], GL⟩, sig := impl_LevelUp.s, results := [.tmp 4], L := [(0, ⟨⟨31, [(0, .v tI), (1, .v (.list tS)), (5, .row 500500 tS), (6, .v tI)], [], []⟩, [(0, ⟨31, [(5, .row 500500 tS)], [], []⟩)]⟩)], J := [] }
noncomputable def impl_LevelUp.b : Code := match Go.Proofs.Tryz.f117.body with | some c => c | none => .skip
theorem impl_LevelUp.eq (x : impl_LevelUp.s.inDen) : runFn impl_LevelUp.c 31 impl_LevelUp.b x = impl_LevelUp.f x := by kernel_rfl
noncomputable def impl_RootOf.c : Cx := { E := ⟨TT, [(117, ⟨impl_LevelUp.s, impl_LevelUp.f⟩)], GL⟩, sig := impl_RootOf.s, results := [.tmp 2], L := [(0, ⟨⟨18, [(0, .v (.list tS)), (3, .v tI)], [], []⟩, [(0, ⟨18, [(0, .v (.list tS))], [], []⟩)]⟩)], J := [] }
noncomputable def impl_RootOf.b : Code := match Go.Proofs.Tryz.f89.body with | some c => c | none => .skip
theorem impl_RootOf.eq (x : impl_RootOf.s.inDen) : runFn impl_RootOf.c 18 impl_RootOf.b x = impl_RootOf.f x := by kernel_rfl
noncomputable def impl_OncePublic_1.c : Cx := { E := ⟨TT, [], GL⟩, sig := impl_OncePublic_1.s, results := [.tmp 2], L := [], J := [] }
noncomputable def impl_OncePublic_1.b : Code := match Go.Proofs.Tryz.f133.body with | some c => c | none => .skip
theorem impl_OncePublic_1.eq (x : impl_OncePublic_1.s.inDen) : runFn impl_OncePublic_1.c 3 impl_OncePublic_1.b x = impl_OncePublic_1.f x := by kernel_rfl
noncomputable def impl_OncePublic_2.c : Cx := { E := ⟨TT, [], GL⟩, sig := impl_OncePublic_2.s, results := [.tmp 2], L := [], J := [] }
noncomputable def impl_OncePublic_2.b : Code := match Go.Proofs.Tryz.f134.body with | some c => c | none => .skip
theorem impl_OncePublic_2.eq (x : impl_OncePublic_2.s.inDen) : runFn impl_OncePublic_2.c 3 impl_OncePublic_2.b x = impl_OncePublic_2.f x := by kernel_rfl
noncomputable def impl_ChainOf.c : Cx := { E := ⟨TT, [(24, ⟨impl_oneByte.s, impl_oneByte.f⟩), (135, ⟨impl_Chop.s, impl_Chop.f⟩)], GL⟩, sig := impl_ChainOf.s, results := [.tmp 10], L := [(0, ⟨⟨32, [(0, .v tS), (1, .v tI), (2, .v tI), (3, .v tI), (13, .v tI), (14, .v tI)], [], []⟩, [(0, ⟨32, [(0, .v tS)], [], []⟩)]⟩)], J := [] }
noncomputable def impl_ChainOf.b : Code := match Go.Proofs.Tryz.f144.body with | some c => c | none => .skip
theorem impl_ChainOf.eq (x : impl_ChainOf.s.inDen) : runFn impl_ChainOf.c 32 impl_ChainOf.b x = impl_ChainOf.f x := by kernel_rfl
noncomputable def impl_chopped.c : Cx := { E := ⟨TT, [(133, ⟨impl_OncePublic_1.s, impl_OncePublic_1.f⟩), (134, ⟨impl_OncePublic_2.s, impl_OncePublic_2.f⟩), (135, ⟨impl_Chop.s, impl_Chop.f⟩), (144, ⟨impl_ChainOf.s, impl_ChainOf.f⟩)], GL⟩, sig := impl_chopped.s, results := [.tmp 8], L := [(0, ⟨⟨37, [(1, .v tI), (2, .fn 133), (3, .fn 134), (9, .v tS), (15, .v (.list tS)), (16, .v tI), (17, .v tI)], [], []⟩, [(0, ⟨37, [(9, .v tS)], [], []⟩)]⟩)], J := [] }
noncomputable def impl_chopped.b : Code := match Go.Proofs.Tryz.f132.body with | some c => c | none => .skip
theorem impl_chopped.eq (x : impl_chopped.s.inDen) : runFn impl_chopped.c 37 impl_chopped.b x = impl_chopped.f x := by kernel_rfl
noncomputable def impl_OncePublic.c : Cx := { E := ⟨TT, [(132, ⟨impl_chopped.s, impl_chopped.f⟩)], GL⟩, sig := impl_OncePublic.s, results := [.tmp 4], L := [], J := [] }
noncomputable def impl_OncePublic.b : Code := match Go.Proofs.Tryz.f118.body with | some c => c | none => .skip
theorem impl_OncePublic.eq (x : impl_OncePublic.s.inDen) : runFn impl_OncePublic.c 8 impl_OncePublic.b x = impl_OncePublic.f x := by kernel_rfl
noncomputable def impl_OnceKey.c : Cx := { E := ⟨TT, [(24, ⟨impl_oneByte.s, impl_oneByte.f⟩), (135, ⟨impl_Chop.s, impl_Chop.f⟩)], GL⟩, sig := impl_OnceKey.s, results := [.tmp 4], L := [(0, ⟨⟨24, [(0, .v tS), (1, .v tI), (5, .row 500500 tS), (7, .v tI)], [], []⟩, [(0, ⟨24, [(5, .row 500500 tS)], [], []⟩)]⟩)], J := [] }
noncomputable def impl_OnceKey.b : Code := match Go.Proofs.Tryz.f119.body with | some c => c | none => .skip
theorem impl_OnceKey.eq (x : impl_OnceKey.s.inDen) : runFn impl_OnceKey.c 24 impl_OnceKey.b x = impl_OnceKey.f x := by kernel_rfl
noncomputable def impl_leavesOf.c : Cx := { E := ⟨TT, [(118, ⟨impl_OncePublic.s, impl_OncePublic.f⟩), (119, ⟨impl_OnceKey.s, impl_OnceKey.f⟩)], GL⟩, sig := impl_leavesOf.s, results := [.tmp 2], L := [(0, ⟨⟨18, [(0, .v tS), (3, .row 500300 tS), (5, .v tI)], [], []⟩, [(0, ⟨18, [(3, .row 500300 tS)], [], []⟩)]⟩)], J := [] }
noncomputable def impl_leavesOf.b : Code := match Go.Proofs.Tryz.f90.body with | some c => c | none => .skip
theorem impl_leavesOf.eq (x : impl_leavesOf.s.inDen) : runFn impl_leavesOf.c 18 impl_leavesOf.b x = impl_leavesOf.f x := by kernel_rfl
end Go.Vi

