/- A part of the proof of publicPart_holds: Gk. No condition of its own. -/
import Derived.Test.YtfabcimcdnaoiaaGreatDoorA08
import Derived.Test.YtfabcimcdnaoiaaGreatDoorA09
import Derived.Test.YtfabcimcdnaoiaaGreatDoorA10
import Derived.Test.YtfabcimcdnaoiaaGreatDoorA11
import Derived.Test.YtfabcimcdnaoiaaGreatDoorChecked
import Derived.KernelRfl
set_option autoImplicit false
set_option maxRecDepth 1000000
set_option maxHeartbeats 0
set_option linter.unusedVariables false
set_option linter.unusedSimpArgs false
namespace Go.Vi
open Go
theorem ttOk_TT : ttOk Go.Proofs.Tryz.prog TT = true := by kernel_rfl
theorem mixed : Go.Proofs.Tryz.prog.follows .mixedOrders = true := by kernel_rfl
theorem laws_szThing.ok : FnOk Go.Proofs.Tryz.prog GL 5 ⟨laws_szThing.s, laws_szThing.f⟩ := by
  have h := runFn_ok (P := Go.Proofs.Tryz.prog) (C := laws_szThing.c) ⟨ttOk_TT, trivial⟩ mixed (by kernel_rfl) Go.Proofs.Tryz.func5 (body := laws_szThing.b) (by kernel_rfl) (by kernel_rfl) (by kernel_rfl)
  exact h.of_eq laws_szThing.eq
theorem spec_l01In.ok : FnOk Go.Proofs.Tryz.prog GL 29 ⟨spec_l01In.s, spec_l01In.f⟩ := by
  have h := runFn_ok (P := Go.Proofs.Tryz.prog) (C := spec_l01In.c) ⟨ttOk_TT, trivial⟩ mixed (by kernel_rfl) Go.Proofs.Tryz.func29 (body := spec_l01In.b) (by kernel_rfl) (by kernel_rfl) (by kernel_rfl)
  exact h.of_eq spec_l01In.eq
theorem spec_ThingOk.ok : FnOk Go.Proofs.Tryz.prog GL 13 ⟨spec_ThingOk.s, spec_ThingOk.f⟩ := by
  have h := runFn_ok (P := Go.Proofs.Tryz.prog) (C := spec_ThingOk.c) ⟨ttOk_TT, ⟨spec_l01In.ok, trivial⟩⟩ mixed (by kernel_rfl) Go.Proofs.Tryz.func13 (body := spec_ThingOk.b) (by kernel_rfl) (by kernel_rfl) (by kernel_rfl)
  exact h.of_eq spec_ThingOk.eq
theorem spec_HasherOk.ok : FnOk Go.Proofs.Tryz.prog GL 94 ⟨spec_HasherOk.s, spec_HasherOk.f⟩ := by
  have h := runFn_ok (P := Go.Proofs.Tryz.prog) (C := spec_HasherOk.c) ⟨ttOk_TT, ⟨spec_l01In.ok, trivial⟩⟩ mixed (by kernel_rfl) Go.Proofs.Tryz.func94 (body := spec_HasherOk.b) (by kernel_rfl) (by kernel_rfl) (by kernel_rfl)
  exact h.of_eq spec_HasherOk.eq
theorem spec_l05Word.ok : FnOk Go.Proofs.Tryz.prog GL 120 ⟨spec_l05Word.s, spec_l05Word.f⟩ := by
  have h := runFn_ok (P := Go.Proofs.Tryz.prog) (C := spec_l05Word.c) ⟨ttOk_TT, trivial⟩ mixed (by kernel_rfl) Go.Proofs.Tryz.func120 (body := spec_l05Word.b) (by kernel_rfl) (by kernel_rfl) (by kernel_rfl)
  exact h.of_eq spec_l05Word.eq
theorem spec_l05Words.ok : FnOk Go.Proofs.Tryz.prog GL 95 ⟨spec_l05Words.s, spec_l05Words.f⟩ := by
  have h := runFn_ok (P := Go.Proofs.Tryz.prog) (C := spec_l05Words.c) ⟨ttOk_TT, ⟨spec_l05Word.ok, trivial⟩⟩ mixed (by kernel_rfl) Go.Proofs.Tryz.func95 (body := spec_l05Words.b) (by kernel_rfl) (by kernel_rfl) (by kernel_rfl)
  exact h.of_eq spec_l05Words.eq
theorem spec_l05K.ok : FnOk Go.Proofs.Tryz.prog GL 96 ⟨spec_l05K.s, spec_l05K.f⟩ := by
  have h := runFn_ok (P := Go.Proofs.Tryz.prog) (C := spec_l05K.c) ⟨ttOk_TT, trivial⟩ mixed (by kernel_rfl) Go.Proofs.Tryz.func96 (body := spec_l05K.b) (by kernel_rfl) (by kernel_rfl) (by kernel_rfl)
  exact h.of_eq spec_l05K.eq
theorem spec_l05Right.ok : FnOk Go.Proofs.Tryz.prog GL 136 ⟨spec_l05Right.s, spec_l05Right.f⟩ := by
  have h := runFn_ok (P := Go.Proofs.Tryz.prog) (C := spec_l05Right.c) ⟨ttOk_TT, trivial⟩ mixed (by kernel_rfl) Go.Proofs.Tryz.func136 (body := spec_l05Right.b) (by kernel_rfl) (by kernel_rfl) (by kernel_rfl)
  exact h.of_eq spec_l05Right.eq
theorem spec_l05S.ok : FnOk Go.Proofs.Tryz.prog GL 121 ⟨spec_l05S.s, spec_l05S.f⟩ := by
  have h := runFn_ok (P := Go.Proofs.Tryz.prog) (C := spec_l05S.c) ⟨ttOk_TT, ⟨spec_l05Right.ok, trivial⟩⟩ mixed (by kernel_rfl) Go.Proofs.Tryz.func121 (body := spec_l05S.b) (by kernel_rfl) (by kernel_rfl) (by kernel_rfl)
  exact h.of_eq spec_l05S.eq
theorem spec_l05Round.ok : FnOk Go.Proofs.Tryz.prog GL 97 ⟨spec_l05Round.s, spec_l05Round.f⟩ := by
  have h := runFn_ok (P := Go.Proofs.Tryz.prog) (C := spec_l05Round.c) ⟨ttOk_TT, ⟨spec_l05Words.ok, spec_l05S.ok, trivial⟩⟩ mixed (by kernel_rfl) Go.Proofs.Tryz.func97 (body := spec_l05Round.b) (by kernel_rfl) (by kernel_rfl) (by kernel_rfl)
  exact h.of_eq spec_l05Round.eq
theorem spec_l05Bytes.ok : FnOk Go.Proofs.Tryz.prog GL 98 ⟨spec_l05Bytes.s, spec_l05Bytes.f⟩ := by
  have h := runFn_ok (P := Go.Proofs.Tryz.prog) (C := spec_l05Bytes.c) ⟨ttOk_TT, trivial⟩ mixed (by kernel_rfl) Go.Proofs.Tryz.func98 (body := spec_l05Bytes.b) (by kernel_rfl) (by kernel_rfl) (by kernel_rfl)
  exact h.of_eq spec_l05Bytes.eq
theorem spec_HashEnd.ok : FnOk Go.Proofs.Tryz.prog GL 65 ⟨spec_HashEnd.s, spec_HashEnd.f⟩ := by
  have h := runFn_ok (P := Go.Proofs.Tryz.prog) (C := spec_HashEnd.c) ⟨ttOk_TT, ⟨spec_HasherOk.ok, spec_l05Words.ok, spec_l05K.ok, spec_l05Round.ok, spec_l05Bytes.ok, trivial⟩⟩ mixed (by kernel_rfl) Go.Proofs.Tryz.func65 (body := spec_HashEnd.b) (by kernel_rfl) (by kernel_rfl) (by kernel_rfl)
  exact h.of_eq spec_HashEnd.eq
theorem spec_HashMore.ok : FnOk Go.Proofs.Tryz.prog GL 66 ⟨spec_HashMore.s, spec_HashMore.f⟩ := by
  have h := runFn_ok (P := Go.Proofs.Tryz.prog) (C := spec_HashMore.c) ⟨ttOk_TT, ⟨spec_HasherOk.ok, spec_l05Words.ok, spec_l05K.ok, spec_l05Round.ok, spec_l05Bytes.ok, trivial⟩⟩ mixed (by kernel_rfl) Go.Proofs.Tryz.func66 (body := spec_HashMore.b) (by kernel_rfl) (by kernel_rfl) (by kernel_rfl)
  exact h.of_eq spec_HashMore.eq
theorem spec_l05First.ok : FnOk Go.Proofs.Tryz.prog GL 99 ⟨spec_l05First.s, spec_l05First.f⟩ := by
  have h := runFn_ok (P := Go.Proofs.Tryz.prog) (C := spec_l05First.c) ⟨ttOk_TT, trivial⟩ mixed (by kernel_rfl) Go.Proofs.Tryz.func99 (body := spec_l05First.b) (by kernel_rfl) (by kernel_rfl) (by kernel_rfl)
  exact h.of_eq spec_l05First.eq
theorem spec_HasherNew.ok : FnOk Go.Proofs.Tryz.prog GL 67 ⟨spec_HasherNew.s, spec_HasherNew.f⟩ := by
  have h := runFn_ok (P := Go.Proofs.Tryz.prog) (C := spec_HasherNew.c) ⟨ttOk_TT, ⟨spec_l05Bytes.ok, spec_l05First.ok, trivial⟩⟩ mixed (by kernel_rfl) Go.Proofs.Tryz.func67 (body := spec_HasherNew.b) (by kernel_rfl) (by kernel_rfl) (by kernel_rfl)
  exact h.of_eq spec_HasherNew.eq
theorem spec_DigestOf.ok : FnOk Go.Proofs.Tryz.prog GL 36 ⟨spec_DigestOf.s, spec_DigestOf.f⟩ := by
  have h := runFn_ok (P := Go.Proofs.Tryz.prog) (C := spec_DigestOf.c) ⟨ttOk_TT, ⟨spec_HashEnd.ok, spec_HashMore.ok, spec_HasherNew.ok, trivial⟩⟩ mixed (by kernel_rfl) Go.Proofs.Tryz.func36 (body := spec_DigestOf.b) (by kernel_rfl) (by kernel_rfl) (by kernel_rfl)
  exact h.of_eq spec_DigestOf.eq
theorem spec_l06Byte.ok : FnOk Go.Proofs.Tryz.prog GL 60 ⟨spec_l06Byte.s, spec_l06Byte.f⟩ := by
  have h := runFn_ok (P := Go.Proofs.Tryz.prog) (C := spec_l06Byte.c) ⟨ttOk_TT, trivial⟩ mixed (by kernel_rfl) Go.Proofs.Tryz.func60 (body := spec_l06Byte.b) (by kernel_rfl) (by kernel_rfl) (by kernel_rfl)
  exact h.of_eq spec_l06Byte.eq
theorem spec_l07Lanes.ok : FnOk Go.Proofs.Tryz.prog GL 137 ⟨spec_l07Lanes.s, spec_l07Lanes.f⟩ := by
  have h := runFn_ok (P := Go.Proofs.Tryz.prog) (C := spec_l07Lanes.c) ⟨ttOk_TT, trivial⟩ mixed (by kernel_rfl) Go.Proofs.Tryz.func137 (body := spec_l07Lanes.b) (by kernel_rfl) (by kernel_rfl) (by kernel_rfl)
  exact h.of_eq spec_l07Lanes.eq
theorem spec_l07Turns.ok : FnOk Go.Proofs.Tryz.prog GL 145 ⟨spec_l07Turns.s, spec_l07Turns.f⟩ := by
  have h := runFn_ok (P := Go.Proofs.Tryz.prog) (C := spec_l07Turns.c) ⟨ttOk_TT, trivial⟩ mixed (by kernel_rfl) Go.Proofs.Tryz.func145 (body := spec_l07Turns.b) (by kernel_rfl) (by kernel_rfl) (by kernel_rfl)
  exact h.of_eq spec_l07Turns.eq
theorem spec_l07Rounds.ok : FnOk Go.Proofs.Tryz.prog GL 146 ⟨spec_l07Rounds.s, spec_l07Rounds.f⟩ := by
  have h := runFn_ok (P := Go.Proofs.Tryz.prog) (C := spec_l07Rounds.c) ⟨ttOk_TT, trivial⟩ mixed (by kernel_rfl) Go.Proofs.Tryz.func146 (body := spec_l07Rounds.b) (by kernel_rfl) (by kernel_rfl) (by kernel_rfl)
  exact h.of_eq spec_l07Rounds.eq
theorem spec_l07Left.ok : FnOk Go.Proofs.Tryz.prog GL 152 ⟨spec_l07Left.s, spec_l07Left.f⟩ := by
  have h := runFn_ok (P := Go.Proofs.Tryz.prog) (C := spec_l07Left.c) ⟨ttOk_TT, trivial⟩ mixed (by kernel_rfl) Go.Proofs.Tryz.func152 (body := spec_l07Left.b) (by kernel_rfl) (by kernel_rfl) (by kernel_rfl)
  exact h.of_eq spec_l07Left.eq
theorem spec_l07Round.ok : FnOk Go.Proofs.Tryz.prog GL 147 ⟨spec_l07Round.s, spec_l07Round.f⟩ := by
  have h := runFn_ok (P := Go.Proofs.Tryz.prog) (C := spec_l07Round.c) ⟨ttOk_TT, ⟨spec_l07Left.ok, trivial⟩⟩ mixed (by kernel_rfl) Go.Proofs.Tryz.func147 (body := spec_l07Round.b) (by kernel_rfl) (by kernel_rfl) (by kernel_rfl)
  exact h.of_eq spec_l07Round.eq
theorem spec_l07Permute.ok : FnOk Go.Proofs.Tryz.prog GL 138 ⟨spec_l07Permute.s, spec_l07Permute.f⟩ := by
  have h := runFn_ok (P := Go.Proofs.Tryz.prog) (C := spec_l07Permute.c) ⟨ttOk_TT, ⟨spec_l07Turns.ok, spec_l07Rounds.ok, spec_l07Round.ok, trivial⟩⟩ mixed (by kernel_rfl) Go.Proofs.Tryz.func138 (body := spec_l07Permute.b) (by kernel_rfl) (by kernel_rfl) (by kernel_rfl)
  exact h.of_eq spec_l07Permute.eq
theorem spec_l07Bytes.ok : FnOk Go.Proofs.Tryz.prog GL 139 ⟨spec_l07Bytes.s, spec_l07Bytes.f⟩ := by
  have h := runFn_ok (P := Go.Proofs.Tryz.prog) (C := spec_l07Bytes.c) ⟨ttOk_TT, trivial⟩ mixed (by kernel_rfl) Go.Proofs.Tryz.func139 (body := spec_l07Bytes.b) (by kernel_rfl) (by kernel_rfl) (by kernel_rfl)
  exact h.of_eq spec_l07Bytes.eq
theorem spec_l07Absorb.ok : FnOk Go.Proofs.Tryz.prog GL 122 ⟨spec_l07Absorb.s, spec_l07Absorb.f⟩ := by
  have h := runFn_ok (P := Go.Proofs.Tryz.prog) (C := spec_l07Absorb.c) ⟨ttOk_TT, ⟨spec_l07Lanes.ok, spec_l07Permute.ok, spec_l07Bytes.ok, trivial⟩⟩ mixed (by kernel_rfl) Go.Proofs.Tryz.func122 (body := spec_l07Absorb.b) (by kernel_rfl) (by kernel_rfl) (by kernel_rfl)
  exact h.of_eq spec_l07Absorb.eq
theorem spec_StreamNew.ok : FnOk Go.Proofs.Tryz.prog GL 100 ⟨spec_StreamNew.s, spec_StreamNew.f⟩ := by
  have h := runFn_ok (P := Go.Proofs.Tryz.prog) (C := spec_StreamNew.c) ⟨ttOk_TT, ⟨spec_l07Absorb.ok, trivial⟩⟩ mixed (by kernel_rfl) Go.Proofs.Tryz.func100 (body := spec_StreamNew.b) (by kernel_rfl) (by kernel_rfl) (by kernel_rfl)
  exact h.of_eq spec_StreamNew.eq
theorem spec_Permute.ok : FnOk Go.Proofs.Tryz.prog GL 123 ⟨spec_Permute.s, spec_Permute.f⟩ := by
  have h := runFn_ok (P := Go.Proofs.Tryz.prog) (C := spec_Permute.c) ⟨ttOk_TT, ⟨spec_l07Lanes.ok, spec_l07Permute.ok, spec_l07Bytes.ok, trivial⟩⟩ mixed (by kernel_rfl) Go.Proofs.Tryz.func123 (body := spec_Permute.b) (by kernel_rfl) (by kernel_rfl) (by kernel_rfl)
  exact h.of_eq spec_Permute.eq
theorem spec_StreamTake.ok : FnOk Go.Proofs.Tryz.prog GL 101 ⟨spec_StreamTake.s, spec_StreamTake.f⟩ := by
  have h := runFn_ok (P := Go.Proofs.Tryz.prog) (C := spec_StreamTake.c) ⟨ttOk_TT, ⟨spec_l01In.ok, spec_Permute.ok, trivial⟩⟩ mixed (by kernel_rfl) Go.Proofs.Tryz.func101 (body := spec_StreamTake.b) (by kernel_rfl) (by kernel_rfl) (by kernel_rfl)
  exact h.of_eq spec_StreamTake.eq
theorem spec_Uniform.ok : FnOk Go.Proofs.Tryz.prog GL 68 ⟨spec_Uniform.s, spec_Uniform.f⟩ := by
  have h := runFn_ok (P := Go.Proofs.Tryz.prog) (C := spec_Uniform.c) ⟨ttOk_TT, ⟨spec_l06Byte.ok, spec_StreamNew.ok, spec_StreamTake.ok, trivial⟩⟩ mixed (by kernel_rfl) Go.Proofs.Tryz.func68 (body := spec_Uniform.b) (by kernel_rfl) (by kernel_rfl) (by kernel_rfl)
  exact h.of_eq spec_Uniform.eq
theorem spec_l13Matrix.ok : FnOk Go.Proofs.Tryz.prog GL 37 ⟨spec_l13Matrix.s, spec_l13Matrix.f⟩ := by
  have h := runFn_ok (P := Go.Proofs.Tryz.prog) (C := spec_l13Matrix.c) ⟨ttOk_TT, ⟨spec_Uniform.ok, trivial⟩⟩ mixed (by kernel_rfl) Go.Proofs.Tryz.func37 (body := spec_l13Matrix.b) (by kernel_rfl) (by kernel_rfl) (by kernel_rfl)
  exact h.of_eq spec_l13Matrix.eq
theorem spec_PolyOk.ok : FnOk Go.Proofs.Tryz.prog GL 69 ⟨spec_PolyOk.s, spec_PolyOk.f⟩ := by
  have h := runFn_ok (P := Go.Proofs.Tryz.prog) (C := spec_PolyOk.c) ⟨ttOk_TT, ⟨spec_l01In.ok, trivial⟩⟩ mixed (by kernel_rfl) Go.Proofs.Tryz.func69 (body := spec_PolyOk.b) (by kernel_rfl) (by kernel_rfl) (by kernel_rfl)
  exact h.of_eq spec_PolyOk.eq
theorem spec_PowQ.ok : FnOk Go.Proofs.Tryz.prog GL 70 ⟨spec_PowQ.s, spec_PowQ.f⟩ := by
  have h := runFn_ok (P := Go.Proofs.Tryz.prog) (C := spec_PowQ.c) ⟨ttOk_TT, ⟨spec_l01In.ok, trivial⟩⟩ mixed (by kernel_rfl) Go.Proofs.Tryz.func70 (body := spec_PowQ.b) (by kernel_rfl) (by kernel_rfl) (by kernel_rfl)
  exact h.of_eq spec_PowQ.eq
theorem spec_Turn7.ok : FnOk Go.Proofs.Tryz.prog GL 71 ⟨spec_Turn7.s, spec_Turn7.f⟩ := by
  have h := runFn_ok (P := Go.Proofs.Tryz.prog) (C := spec_Turn7.c) ⟨ttOk_TT, trivial⟩ mixed (by kernel_rfl) Go.Proofs.Tryz.func71 (body := spec_Turn7.b) (by kernel_rfl) (by kernel_rfl) (by kernel_rfl)
  exact h.of_eq spec_Turn7.eq
theorem spec_Ntt.ok : FnOk Go.Proofs.Tryz.prog GL 38 ⟨spec_Ntt.s, spec_Ntt.f⟩ := by
  have h := runFn_ok (P := Go.Proofs.Tryz.prog) (C := spec_Ntt.c) ⟨ttOk_TT, ⟨spec_PolyOk.ok, spec_PowQ.ok, spec_Turn7.ok, trivial⟩⟩ mixed (by kernel_rfl) Go.Proofs.Tryz.func38 (body := spec_Ntt.b) (by kernel_rfl) (by kernel_rfl) (by kernel_rfl)
  exact h.of_eq spec_Ntt.eq
theorem spec_ShakeOf.ok : FnOk Go.Proofs.Tryz.prog GL 72 ⟨spec_ShakeOf.s, spec_ShakeOf.f⟩ := by
  have h := runFn_ok (P := Go.Proofs.Tryz.prog) (C := spec_ShakeOf.c) ⟨ttOk_TT, ⟨spec_l01In.ok, spec_StreamNew.ok, spec_StreamTake.ok, trivial⟩⟩ mixed (by kernel_rfl) Go.Proofs.Tryz.func72 (body := spec_ShakeOf.b) (by kernel_rfl) (by kernel_rfl) (by kernel_rfl)
  exact h.of_eq spec_ShakeOf.eq
theorem spec_Small.ok : FnOk Go.Proofs.Tryz.prog GL 39 ⟨spec_Small.s, spec_Small.f⟩ := by
  have h := runFn_ok (P := Go.Proofs.Tryz.prog) (C := spec_Small.c) ⟨ttOk_TT, ⟨spec_l06Byte.ok, spec_ShakeOf.ok, trivial⟩⟩ mixed (by kernel_rfl) Go.Proofs.Tryz.func39 (body := spec_Small.b) (by kernel_rfl) (by kernel_rfl) (by kernel_rfl)
  exact h.of_eq spec_Small.eq
theorem spec_l11Two.ok : FnOk Go.Proofs.Tryz.prog GL 102 ⟨spec_l11Two.s, spec_l11Two.f⟩ := by
  have h := runFn_ok (P := Go.Proofs.Tryz.prog) (C := spec_l11Two.c) ⟨ttOk_TT, trivial⟩ mixed (by kernel_rfl) Go.Proofs.Tryz.func102 (body := spec_l11Two.b) (by kernel_rfl) (by kernel_rfl) (by kernel_rfl)
  exact h.of_eq spec_l11Two.eq
theorem spec_Pack.ok : FnOk Go.Proofs.Tryz.prog GL 73 ⟨spec_Pack.s, spec_Pack.f⟩ := by
  have h := runFn_ok (P := Go.Proofs.Tryz.prog) (C := spec_Pack.c) ⟨ttOk_TT, ⟨spec_l01In.ok, spec_l11Two.ok, trivial⟩⟩ mixed (by kernel_rfl) Go.Proofs.Tryz.func73 (body := spec_Pack.b) (by kernel_rfl) (by kernel_rfl) (by kernel_rfl)
  exact h.of_eq spec_Pack.eq
theorem spec_PolyBytes.ok : FnOk Go.Proofs.Tryz.prog GL 40 ⟨spec_PolyBytes.s, spec_PolyBytes.f⟩ := by
  have h := runFn_ok (P := Go.Proofs.Tryz.prog) (C := spec_PolyBytes.c) ⟨ttOk_TT, ⟨spec_PolyOk.ok, spec_Pack.ok, trivial⟩⟩ mixed (by kernel_rfl) Go.Proofs.Tryz.func40 (body := spec_PolyBytes.b) (by kernel_rfl) (by kernel_rfl) (by kernel_rfl)
  exact h.of_eq spec_PolyBytes.eq
theorem spec_PolyAdd.ok : FnOk Go.Proofs.Tryz.prog GL 41 ⟨spec_PolyAdd.s, spec_PolyAdd.f⟩ := by
  have h := runFn_ok (P := Go.Proofs.Tryz.prog) (C := spec_PolyAdd.c) ⟨ttOk_TT, ⟨spec_PolyOk.ok, trivial⟩⟩ mixed (by kernel_rfl) Go.Proofs.Tryz.func41 (body := spec_PolyAdd.b) (by kernel_rfl) (by kernel_rfl) (by kernel_rfl)
  exact h.of_eq spec_PolyAdd.eq
theorem spec_MulNtt.ok : FnOk Go.Proofs.Tryz.prog GL 74 ⟨spec_MulNtt.s, spec_MulNtt.f⟩ := by
  have h := runFn_ok (P := Go.Proofs.Tryz.prog) (C := spec_MulNtt.c) ⟨ttOk_TT, ⟨spec_PolyOk.ok, spec_PowQ.ok, spec_Turn7.ok, trivial⟩⟩ mixed (by kernel_rfl) Go.Proofs.Tryz.func74 (body := spec_MulNtt.b) (by kernel_rfl) (by kernel_rfl) (by kernel_rfl)
  exact h.of_eq spec_MulNtt.eq
theorem spec_l13Sum.ok : FnOk Go.Proofs.Tryz.prog GL 42 ⟨spec_l13Sum.s, spec_l13Sum.f⟩ := by
  have h := runFn_ok (P := Go.Proofs.Tryz.prog) (C := spec_l13Sum.c) ⟨ttOk_TT, ⟨spec_PolyAdd.ok, spec_MulNtt.ok, trivial⟩⟩ mixed (by kernel_rfl) Go.Proofs.Tryz.func42 (body := spec_l13Sum.b) (by kernel_rfl) (by kernel_rfl) (by kernel_rfl)
  exact h.of_eq spec_l13Sum.eq
theorem spec_PairOf.ok : FnOk Go.Proofs.Tryz.prog GL 17 ⟨spec_PairOf.s, spec_PairOf.f⟩ := by
  have h := runFn_ok (P := Go.Proofs.Tryz.prog) (C := spec_PairOf.c) ⟨ttOk_TT, ⟨spec_DigestOf.ok, spec_l13Matrix.ok, spec_Ntt.ok, spec_Small.ok, spec_PolyBytes.ok, spec_PolyAdd.ok, spec_l13Sum.ok, trivial⟩⟩ mixed (by kernel_rfl) Go.Proofs.Tryz.func17 (body := spec_PairOf.b) (by kernel_rfl) (by kernel_rfl) (by kernel_rfl)
  exact h.of_eq spec_PairOf.eq
theorem spec_Chop.ok : FnOk Go.Proofs.Tryz.prog GL 126 ⟨spec_Chop.s, spec_Chop.f⟩ := by
  have h := runFn_ok (P := Go.Proofs.Tryz.prog) (C := spec_Chop.c) ⟨ttOk_TT, ⟨spec_DigestOf.ok, trivial⟩⟩ mixed (by kernel_rfl) Go.Proofs.Tryz.func126 (body := spec_Chop.b) (by kernel_rfl) (by kernel_rfl) (by kernel_rfl)
  exact h.of_eq spec_Chop.eq
theorem spec_Node.ok : FnOk Go.Proofs.Tryz.prog GL 124 ⟨spec_Node.s, spec_Node.f⟩ := by
  have h := runFn_ok (P := Go.Proofs.Tryz.prog) (C := spec_Node.c) ⟨ttOk_TT, ⟨spec_l06Byte.ok, spec_Chop.ok, trivial⟩⟩ mixed (by kernel_rfl) Go.Proofs.Tryz.func124 (body := spec_Node.b) (by kernel_rfl) (by kernel_rfl) (by kernel_rfl)
  exact h.of_eq spec_Node.eq
theorem spec_LevelUp.ok : FnOk Go.Proofs.Tryz.prog GL 103 ⟨spec_LevelUp.s, spec_LevelUp.f⟩ := by
  have h := runFn_ok (P := Go.Proofs.Tryz.prog) (C := spec_LevelUp.c) ⟨ttOk_TT, ⟨spec_Node.ok, trivial⟩⟩ mixed (by kernel_rfl) Go.Proofs.Tryz.func103 (body := spec_LevelUp.b) (by kernel_rfl) (by kernel_rfl) (by kernel_rfl)
  exact h.of_eq spec_LevelUp.eq
theorem spec_RootOf.ok : FnOk Go.Proofs.Tryz.prog GL 75 ⟨spec_RootOf.s, spec_RootOf.f⟩ := by
  have h := runFn_ok (P := Go.Proofs.Tryz.prog) (C := spec_RootOf.c) ⟨ttOk_TT, ⟨spec_LevelUp.ok, trivial⟩⟩ mixed (by kernel_rfl) Go.Proofs.Tryz.func75 (body := spec_RootOf.b) (by kernel_rfl) (by kernel_rfl) (by kernel_rfl)
  exact h.of_eq spec_RootOf.eq
theorem spec_ChainOf.ok : FnOk Go.Proofs.Tryz.prog GL 125 ⟨spec_ChainOf.s, spec_ChainOf.f⟩ := by
  have h := runFn_ok (P := Go.Proofs.Tryz.prog) (C := spec_ChainOf.c) ⟨ttOk_TT, ⟨spec_l06Byte.ok, spec_Chop.ok, trivial⟩⟩ mixed (by kernel_rfl) Go.Proofs.Tryz.func125 (body := spec_ChainOf.b) (by kernel_rfl) (by kernel_rfl) (by kernel_rfl)
  exact h.of_eq spec_ChainOf.eq
theorem spec_OncePublic.ok : FnOk Go.Proofs.Tryz.prog GL 104 ⟨spec_OncePublic.s, spec_OncePublic.f⟩ := by
  have h := runFn_ok (P := Go.Proofs.Tryz.prog) (C := spec_OncePublic.c) ⟨ttOk_TT, ⟨spec_ChainOf.ok, spec_Chop.ok, trivial⟩⟩ mixed (by kernel_rfl) Go.Proofs.Tryz.func104 (body := spec_OncePublic.b) (by kernel_rfl) (by kernel_rfl) (by kernel_rfl)
  exact h.of_eq spec_OncePublic.eq
theorem spec_OnceKey.ok : FnOk Go.Proofs.Tryz.prog GL 105 ⟨spec_OnceKey.s, spec_OnceKey.f⟩ := by
  have h := runFn_ok (P := Go.Proofs.Tryz.prog) (C := spec_OnceKey.c) ⟨ttOk_TT, ⟨spec_l06Byte.ok, spec_Chop.ok, trivial⟩⟩ mixed (by kernel_rfl) Go.Proofs.Tryz.func105 (body := spec_OnceKey.b) (by kernel_rfl) (by kernel_rfl) (by kernel_rfl)
  exact h.of_eq spec_OnceKey.eq
theorem spec_l16Leaves.ok : FnOk Go.Proofs.Tryz.prog GL 76 ⟨spec_l16Leaves.s, spec_l16Leaves.f⟩ := by
  have h := runFn_ok (P := Go.Proofs.Tryz.prog) (C := spec_l16Leaves.c) ⟨ttOk_TT, ⟨spec_OncePublic.ok, spec_OnceKey.ok, trivial⟩⟩ mixed (by kernel_rfl) Go.Proofs.Tryz.func76 (body := spec_l16Leaves.b) (by kernel_rfl) (by kernel_rfl) (by kernel_rfl)
  exact h.of_eq spec_l16Leaves.eq
theorem spec_PublicOf.ok : FnOk Go.Proofs.Tryz.prog GL 43 ⟨spec_PublicOf.s, spec_PublicOf.f⟩ := by
  have h := runFn_ok (P := Go.Proofs.Tryz.prog) (C := spec_PublicOf.c) ⟨ttOk_TT, ⟨spec_RootOf.ok, spec_l16Leaves.ok, trivial⟩⟩ mixed (by kernel_rfl) Go.Proofs.Tryz.func43 (body := spec_PublicOf.b) (by kernel_rfl) (by kernel_rfl) (by kernel_rfl)
  exact h.of_eq spec_PublicOf.eq
theorem spec_HyperPublic.ok : FnOk Go.Proofs.Tryz.prog GL 18 ⟨spec_HyperPublic.s, spec_HyperPublic.f⟩ := by
  have h := runFn_ok (P := Go.Proofs.Tryz.prog) (C := spec_HyperPublic.c) ⟨ttOk_TT, ⟨spec_PublicOf.ok, trivial⟩⟩ mixed (by kernel_rfl) Go.Proofs.Tryz.func18 (body := spec_HyperPublic.b) (by kernel_rfl) (by kernel_rfl) (by kernel_rfl)
  exact h.of_eq spec_HyperPublic.eq
theorem spec_PublicPart.ok : FnOk Go.Proofs.Tryz.prog GL 6 ⟨spec_PublicPart.s, spec_PublicPart.f⟩ := by
  have h := runFn_ok (P := Go.Proofs.Tryz.prog) (C := spec_PublicPart.c) ⟨ttOk_TT, ⟨spec_ThingOk.ok, spec_PairOf.ok, spec_HyperPublic.ok, trivial⟩⟩ mixed (by kernel_rfl) Go.Proofs.Tryz.func6 (body := spec_PublicPart.b) (by kernel_rfl) (by kernel_rfl) (by kernel_rfl)
  exact h.of_eq spec_PublicPart.eq
theorem laws_toThing.ok : FnOk Go.Proofs.Tryz.prog GL 7 ⟨laws_toThing.s, laws_toThing.f⟩ := by
  have h := runFn_ok (P := Go.Proofs.Tryz.prog) (C := laws_toThing.c) ⟨ttOk_TT, trivial⟩ mixed (by kernel_rfl) Go.Proofs.Tryz.func7 (body := laws_toThing.b) (by kernel_rfl) (by kernel_rfl) (by kernel_rfl)
  exact h.of_eq laws_toThing.eq
theorem impl_in.ok : FnOk Go.Proofs.Tryz.prog GL 30 ⟨impl_in.s, impl_in.f⟩ := by
  have h := runFn_ok (P := Go.Proofs.Tryz.prog) (C := impl_in.c) ⟨ttOk_TT, trivial⟩ mixed (by kernel_rfl) Go.Proofs.Tryz.func30 (body := impl_in.b) (by kernel_rfl) (by kernel_rfl) (by kernel_rfl)
  exact h.of_eq impl_in.eq
theorem impl_ThingOk.ok : FnOk Go.Proofs.Tryz.prog GL 14 ⟨impl_ThingOk.s, impl_ThingOk.f⟩ := by
  have h := runFn_ok (P := Go.Proofs.Tryz.prog) (C := impl_ThingOk.c) ⟨ttOk_TT, ⟨impl_in.ok, trivial⟩⟩ mixed (by kernel_rfl) Go.Proofs.Tryz.func14 (body := impl_ThingOk.b) (by kernel_rfl) (by kernel_rfl) (by kernel_rfl)
  exact h.of_eq impl_ThingOk.eq
theorem math_bits_RotateLeft32.ok : FnOk Go.Proofs.Tryz.prog GL 140 ⟨math_bits_RotateLeft32.s, math_bits_RotateLeft32.f⟩ := by
  have h := runFn_ok (P := Go.Proofs.Tryz.prog) (C := math_bits_RotateLeft32.c) ⟨ttOk_TT, trivial⟩ mixed (by kernel_rfl) Go.Proofs.Tryz.func140 (body := math_bits_RotateLeft32.b) (by kernel_rfl) (by kernel_rfl) (by kernel_rfl)
  exact h.of_eq math_bits_RotateLeft32.eq
theorem impl_right.ok : FnOk Go.Proofs.Tryz.prog GL 128 ⟨impl_right.s, impl_right.f⟩ := by
  have h := runFn_ok (P := Go.Proofs.Tryz.prog) (C := impl_right.c) ⟨ttOk_TT, ⟨math_bits_RotateLeft32.ok, trivial⟩⟩ mixed (by kernel_rfl) Go.Proofs.Tryz.func128 (body := impl_right.b) (by kernel_rfl) (by kernel_rfl) (by kernel_rfl)
  exact h.of_eq impl_right.eq
theorem impl_wordsOf.ok : FnOk Go.Proofs.Tryz.prog GL 127 ⟨impl_wordsOf.s, impl_wordsOf.f⟩ := by
  have h := runFn_ok (P := Go.Proofs.Tryz.prog) (C := impl_wordsOf.c) ⟨ttOk_TT, ⟨impl_right.ok, trivial⟩⟩ mixed (by kernel_rfl) Go.Proofs.Tryz.func127 (body := impl_wordsOf.b) (by kernel_rfl) (by kernel_rfl) (by kernel_rfl)
  exact h.of_eq impl_wordsOf.eq
theorem impl_oneBlock.ok : FnOk Go.Proofs.Tryz.prog GL 106 ⟨impl_oneBlock.s, impl_oneBlock.f⟩ := by
  have h := runFn_ok (P := Go.Proofs.Tryz.prog) (C := impl_oneBlock.c) ⟨ttOk_TT, ⟨impl_wordsOf.ok, impl_right.ok, trivial⟩⟩ mixed (by kernel_rfl) Go.Proofs.Tryz.func106 (body := impl_oneBlock.b) (by kernel_rfl) (by kernel_rfl) (by kernel_rfl)
  exact h.of_eq impl_oneBlock.eq
theorem impl_blocks.ok : FnOk Go.Proofs.Tryz.prog GL 77 ⟨impl_blocks.s, impl_blocks.f⟩ := by
  have h := runFn_ok (P := Go.Proofs.Tryz.prog) (C := impl_blocks.c) ⟨ttOk_TT, ⟨impl_oneBlock.ok, trivial⟩⟩ mixed (by kernel_rfl) Go.Proofs.Tryz.func77 (body := impl_blocks.b) (by kernel_rfl) (by kernel_rfl) (by kernel_rfl)
  exact h.of_eq impl_blocks.eq
theorem impl_firstState.ok : FnOk Go.Proofs.Tryz.prog GL 78 ⟨impl_firstState.s, impl_firstState.f⟩ := by
  have h := runFn_ok (P := Go.Proofs.Tryz.prog) (C := impl_firstState.c) ⟨ttOk_TT, trivial⟩ mixed (by kernel_rfl) Go.Proofs.Tryz.func78 (body := impl_firstState.b) (by kernel_rfl) (by kernel_rfl) (by kernel_rfl)
  exact h.of_eq impl_firstState.eq
theorem impl_zeros.ok : FnOk Go.Proofs.Tryz.prog GL 107 ⟨impl_zeros.s, impl_zeros.f⟩ := by
  have h := runFn_ok (P := Go.Proofs.Tryz.prog) (C := impl_zeros.c) ⟨ttOk_TT, trivial⟩ mixed (by kernel_rfl) Go.Proofs.Tryz.func107 (body := impl_zeros.b) (by kernel_rfl) (by kernel_rfl) (by kernel_rfl)
  exact h.of_eq impl_zeros.eq
theorem impl_fourBytes.ok : FnOk Go.Proofs.Tryz.prog GL 109 ⟨impl_fourBytes.s, impl_fourBytes.f⟩ := by
  have h := runFn_ok (P := Go.Proofs.Tryz.prog) (C := impl_fourBytes.c) ⟨ttOk_TT, trivial⟩ mixed (by kernel_rfl) Go.Proofs.Tryz.func109 (body := impl_fourBytes.b) (by kernel_rfl) (by kernel_rfl) (by kernel_rfl)
  exact h.of_eq impl_fourBytes.eq
theorem impl_eightBytes.ok : FnOk Go.Proofs.Tryz.prog GL 108 ⟨impl_eightBytes.s, impl_eightBytes.f⟩ := by
  have h := runFn_ok (P := Go.Proofs.Tryz.prog) (C := impl_eightBytes.c) ⟨ttOk_TT, ⟨impl_fourBytes.ok, trivial⟩⟩ mixed (by kernel_rfl) Go.Proofs.Tryz.func108 (body := impl_eightBytes.b) (by kernel_rfl) (by kernel_rfl) (by kernel_rfl)
  exact h.of_eq impl_eightBytes.eq
theorem impl_ending.ok : FnOk Go.Proofs.Tryz.prog GL 79 ⟨impl_ending.s, impl_ending.f⟩ := by
  have h := runFn_ok (P := Go.Proofs.Tryz.prog) (C := impl_ending.c) ⟨ttOk_TT, ⟨impl_zeros.ok, impl_eightBytes.ok, trivial⟩⟩ mixed (by kernel_rfl) Go.Proofs.Tryz.func79 (body := impl_ending.b) (by kernel_rfl) (by kernel_rfl) (by kernel_rfl)
  exact h.of_eq impl_ending.eq
theorem impl_stateText.ok : FnOk Go.Proofs.Tryz.prog GL 80 ⟨impl_stateText.s, impl_stateText.f⟩ := by
  have h := runFn_ok (P := Go.Proofs.Tryz.prog) (C := impl_stateText.c) ⟨ttOk_TT, ⟨impl_fourBytes.ok, trivial⟩⟩ mixed (by kernel_rfl) Go.Proofs.Tryz.func80 (body := impl_stateText.b) (by kernel_rfl) (by kernel_rfl) (by kernel_rfl)
  exact h.of_eq impl_stateText.eq
theorem impl_DigestOf.ok : FnOk Go.Proofs.Tryz.prog GL 44 ⟨impl_DigestOf.s, impl_DigestOf.f⟩ := by
  have h := runFn_ok (P := Go.Proofs.Tryz.prog) (C := impl_DigestOf.c) ⟨ttOk_TT, ⟨impl_blocks.ok, impl_firstState.ok, impl_ending.ok, impl_stateText.ok, trivial⟩⟩ mixed (by kernel_rfl) Go.Proofs.Tryz.func44 (body := impl_DigestOf.b) (by kernel_rfl) (by kernel_rfl) (by kernel_rfl)
  exact h.of_eq impl_DigestOf.eq
theorem impl_PolyOk.ok : FnOk Go.Proofs.Tryz.prog GL 83 ⟨impl_PolyOk.s, impl_PolyOk.f⟩ := by
  have h := runFn_ok (P := Go.Proofs.Tryz.prog) (C := impl_PolyOk.c) ⟨ttOk_TT, ⟨impl_in.ok, trivial⟩⟩ mixed (by kernel_rfl) Go.Proofs.Tryz.func83 (body := impl_PolyOk.b) (by kernel_rfl) (by kernel_rfl) (by kernel_rfl)
  exact h.of_eq impl_PolyOk.eq
theorem impl_copyInts.ok : FnOk Go.Proofs.Tryz.prog GL 110 ⟨impl_copyInts.s, impl_copyInts.f⟩ := by
  have h := runFn_ok (P := Go.Proofs.Tryz.prog) (C := impl_copyInts.c) ⟨ttOk_TT, trivial⟩ mixed (by kernel_rfl) Go.Proofs.Tryz.func110 (body := impl_copyInts.b) (by kernel_rfl) (by kernel_rfl) (by kernel_rfl)
  exact h.of_eq impl_copyInts.eq
theorem impl_modQ.ok : FnOk Go.Proofs.Tryz.prog GL 113 ⟨impl_modQ.s, impl_modQ.f⟩ := by
  have h := runFn_ok (P := Go.Proofs.Tryz.prog) (C := impl_modQ.c) ⟨ttOk_TT, trivial⟩ mixed (by kernel_rfl) Go.Proofs.Tryz.func113 (body := impl_modQ.b) (by kernel_rfl) (by kernel_rfl) (by kernel_rfl)
  exact h.of_eq impl_modQ.eq
theorem impl_PowQ.ok : FnOk Go.Proofs.Tryz.prog GL 111 ⟨impl_PowQ.s, impl_PowQ.f⟩ := by
  have h := runFn_ok (P := Go.Proofs.Tryz.prog) (C := impl_PowQ.c) ⟨ttOk_TT, ⟨impl_in.ok, impl_modQ.ok, trivial⟩⟩ mixed (by kernel_rfl) Go.Proofs.Tryz.func111 (body := impl_PowQ.b) (by kernel_rfl) (by kernel_rfl) (by kernel_rfl)
  exact h.of_eq impl_PowQ.eq
theorem impl_Turn7.ok : FnOk Go.Proofs.Tryz.prog GL 112 ⟨impl_Turn7.s, impl_Turn7.f⟩ := by
  have h := runFn_ok (P := Go.Proofs.Tryz.prog) (C := impl_Turn7.c) ⟨ttOk_TT, trivial⟩ mixed (by kernel_rfl) Go.Proofs.Tryz.func112 (body := impl_Turn7.b) (by kernel_rfl) (by kernel_rfl) (by kernel_rfl)
  exact h.of_eq impl_Turn7.eq
theorem impl_Ntt.ok : FnOk Go.Proofs.Tryz.prog GL 81 ⟨impl_Ntt.s, impl_Ntt.f⟩ := by
  have h := runFn_ok (P := Go.Proofs.Tryz.prog) (C := impl_Ntt.c) ⟨ttOk_TT, ⟨impl_PolyOk.ok, impl_copyInts.ok, impl_PowQ.ok, impl_Turn7.ok, impl_modQ.ok, trivial⟩⟩ mixed (by kernel_rfl) Go.Proofs.Tryz.func81 (body := impl_Ntt.b) (by kernel_rfl) (by kernel_rfl) (by kernel_rfl)
  exact h.of_eq impl_Ntt.eq
theorem impl_ntts.ok : FnOk Go.Proofs.Tryz.prog GL 45 ⟨impl_ntts.s, impl_ntts.f⟩ := by
  have h := runFn_ok (P := Go.Proofs.Tryz.prog) (C := impl_ntts.c) ⟨ttOk_TT, ⟨impl_Ntt.ok, trivial⟩⟩ mixed (by kernel_rfl) Go.Proofs.Tryz.func45 (body := impl_ntts.b) (by kernel_rfl) (by kernel_rfl) (by kernel_rfl)
  exact h.of_eq impl_ntts.eq
theorem impl_oneByte.ok : FnOk Go.Proofs.Tryz.prog GL 24 ⟨impl_oneByte.s, impl_oneByte.f⟩ := by
  have h := runFn_ok (P := Go.Proofs.Tryz.prog) (C := impl_oneByte.c) ⟨ttOk_TT, trivial⟩ mixed (by kernel_rfl) Go.Proofs.Tryz.func24 (body := impl_oneByte.b) (by kernel_rfl) (by kernel_rfl) (by kernel_rfl)
  exact h.of_eq impl_oneByte.eq
theorem math_bits_RotateLeft64.ok : FnOk Go.Proofs.Tryz.prog GL 153 ⟨math_bits_RotateLeft64.s, math_bits_RotateLeft64.f⟩ := by
  have h := runFn_ok (P := Go.Proofs.Tryz.prog) (C := math_bits_RotateLeft64.c) ⟨ttOk_TT, trivial⟩ mixed (by kernel_rfl) Go.Proofs.Tryz.func153 (body := math_bits_RotateLeft64.b) (by kernel_rfl) (by kernel_rfl) (by kernel_rfl)
  exact h.of_eq math_bits_RotateLeft64.eq
theorem impl_lanes_theta.ok : FnOk Go.Proofs.Tryz.prog GL 148 ⟨impl_lanes_theta.s, impl_lanes_theta.f⟩ := by
  have h := runFn_ok (P := Go.Proofs.Tryz.prog) (C := impl_lanes_theta.c) ⟨ttOk_TT, ⟨math_bits_RotateLeft64.ok, trivial⟩⟩ mixed (by kernel_rfl) Go.Proofs.Tryz.func148 (body := impl_lanes_theta.b) (by kernel_rfl) (by kernel_rfl) (by kernel_rfl)
  exact h.of_eq impl_lanes_theta.eq
theorem impl_lanes_rhoPi.ok : FnOk Go.Proofs.Tryz.prog GL 149 ⟨impl_lanes_rhoPi.s, impl_lanes_rhoPi.f⟩ := by
  have h := runFn_ok (P := Go.Proofs.Tryz.prog) (C := impl_lanes_rhoPi.c) ⟨ttOk_TT, ⟨math_bits_RotateLeft64.ok, trivial⟩⟩ mixed (by kernel_rfl) Go.Proofs.Tryz.func149 (body := impl_lanes_rhoPi.b) (by kernel_rfl) (by kernel_rfl) (by kernel_rfl)
  exact h.of_eq impl_lanes_rhoPi.eq
theorem impl_lanes_chi.ok : FnOk Go.Proofs.Tryz.prog GL 150 ⟨impl_lanes_chi.s, impl_lanes_chi.f⟩ := by
  have h := runFn_ok (P := Go.Proofs.Tryz.prog) (C := impl_lanes_chi.c) ⟨ttOk_TT, trivial⟩ mixed (by kernel_rfl) Go.Proofs.Tryz.func150 (body := impl_lanes_chi.b) (by kernel_rfl) (by kernel_rfl) (by kernel_rfl)
  exact h.of_eq impl_lanes_chi.eq
theorem impl_roundBit.ok : FnOk Go.Proofs.Tryz.prog GL 154 ⟨impl_roundBit.s, impl_roundBit.f⟩ := by
  have h := runFn_ok (P := Go.Proofs.Tryz.prog) (C := impl_roundBit.c) ⟨ttOk_TT, trivial⟩ mixed (by kernel_rfl) Go.Proofs.Tryz.func154 (body := impl_roundBit.b) (by kernel_rfl) (by kernel_rfl) (by kernel_rfl)
  exact h.of_eq impl_roundBit.eq
theorem impl_roundLane.ok : FnOk Go.Proofs.Tryz.prog GL 151 ⟨impl_roundLane.s, impl_roundLane.f⟩ := by
  have h := runFn_ok (P := Go.Proofs.Tryz.prog) (C := impl_roundLane.c) ⟨ttOk_TT, ⟨impl_roundBit.ok, trivial⟩⟩ mixed (by kernel_rfl) Go.Proofs.Tryz.func151 (body := impl_roundLane.b) (by kernel_rfl) (by kernel_rfl) (by kernel_rfl)
  exact h.of_eq impl_roundLane.eq
theorem impl_permuted.ok : FnOk Go.Proofs.Tryz.prog GL 141 ⟨impl_permuted.s, impl_permuted.f⟩ := by
  have h := runFn_ok (P := Go.Proofs.Tryz.prog) (C := impl_permuted.c) ⟨ttOk_TT, ⟨impl_lanes_theta.ok, impl_lanes_rhoPi.ok, impl_lanes_chi.ok, impl_roundLane.ok, trivial⟩⟩ mixed (by kernel_rfl) Go.Proofs.Tryz.func141 (body := impl_permuted.b) (by kernel_rfl) (by kernel_rfl) (by kernel_rfl)
  exact h.of_eq impl_permuted.eq
theorem impl_lanesOf.ok : FnOk Go.Proofs.Tryz.prog GL 142 ⟨impl_lanesOf.s, impl_lanesOf.f⟩ := by
  have h := runFn_ok (P := Go.Proofs.Tryz.prog) (C := impl_lanesOf.c) ⟨ttOk_TT, trivial⟩ mixed (by kernel_rfl) Go.Proofs.Tryz.func142 (body := impl_lanesOf.b) (by kernel_rfl) (by kernel_rfl) (by kernel_rfl)
  exact h.of_eq impl_lanesOf.eq
theorem impl_lanes_text.ok : FnOk Go.Proofs.Tryz.prog GL 143 ⟨impl_lanes_text.s, impl_lanes_text.f⟩ := by
  have h := runFn_ok (P := Go.Proofs.Tryz.prog) (C := impl_lanes_text.c) ⟨ttOk_TT, trivial⟩ mixed (by kernel_rfl) Go.Proofs.Tryz.func143 (body := impl_lanes_text.b) (by kernel_rfl) (by kernel_rfl) (by kernel_rfl)
  exact h.of_eq impl_lanes_text.eq
theorem impl_Permute.ok : FnOk Go.Proofs.Tryz.prog GL 130 ⟨impl_Permute.s, impl_Permute.f⟩ := by
  have h := runFn_ok (P := Go.Proofs.Tryz.prog) (C := impl_Permute.c) ⟨ttOk_TT, ⟨impl_permuted.ok, impl_lanesOf.ok, impl_lanes_text.ok, trivial⟩⟩ mixed (by kernel_rfl) Go.Proofs.Tryz.func130 (body := impl_Permute.b) (by kernel_rfl) (by kernel_rfl) (by kernel_rfl)
  exact h.of_eq impl_Permute.eq
theorem impl_absorbed.ok : FnOk Go.Proofs.Tryz.prog GL 129 ⟨impl_absorbed.s, impl_absorbed.f⟩ := by
  have h := runFn_ok (P := Go.Proofs.Tryz.prog) (C := impl_absorbed.c) ⟨ttOk_TT, ⟨impl_Permute.ok, trivial⟩⟩ mixed (by kernel_rfl) Go.Proofs.Tryz.func129 (body := impl_absorbed.b) (by kernel_rfl) (by kernel_rfl) (by kernel_rfl)
  exact h.of_eq impl_absorbed.eq
theorem impl_StreamNew.ok : FnOk Go.Proofs.Tryz.prog GL 115 ⟨impl_StreamNew.s, impl_StreamNew.f⟩ := by
  have h := runFn_ok (P := Go.Proofs.Tryz.prog) (C := impl_StreamNew.c) ⟨ttOk_TT, ⟨impl_absorbed.ok, trivial⟩⟩ mixed (by kernel_rfl) Go.Proofs.Tryz.func115 (body := impl_StreamNew.b) (by kernel_rfl) (by kernel_rfl) (by kernel_rfl)
  exact h.of_eq impl_StreamNew.eq
theorem impl_StreamTake.ok : FnOk Go.Proofs.Tryz.prog GL 116 ⟨impl_StreamTake.s, impl_StreamTake.f⟩ := by
  have h := runFn_ok (P := Go.Proofs.Tryz.prog) (C := impl_StreamTake.c) ⟨ttOk_TT, ⟨impl_in.ok, impl_Permute.ok, trivial⟩⟩ mixed (by kernel_rfl) Go.Proofs.Tryz.func116 (body := impl_StreamTake.b) (by kernel_rfl) (by kernel_rfl) (by kernel_rfl)
  exact h.of_eq impl_StreamTake.eq
theorem impl_ShakeOf.ok : FnOk Go.Proofs.Tryz.prog GL 114 ⟨impl_ShakeOf.s, impl_ShakeOf.f⟩ := by
  have h := runFn_ok (P := Go.Proofs.Tryz.prog) (C := impl_ShakeOf.c) ⟨ttOk_TT, ⟨impl_in.ok, impl_StreamNew.ok, impl_StreamTake.ok, trivial⟩⟩ mixed (by kernel_rfl) Go.Proofs.Tryz.func114 (body := impl_ShakeOf.b) (by kernel_rfl) (by kernel_rfl) (by kernel_rfl)
  exact h.of_eq impl_ShakeOf.eq
theorem impl_Small.ok : FnOk Go.Proofs.Tryz.prog GL 82 ⟨impl_Small.s, impl_Small.f⟩ := by
  have h := runFn_ok (P := Go.Proofs.Tryz.prog) (C := impl_Small.c) ⟨ttOk_TT, ⟨impl_oneByte.ok, impl_modQ.ok, impl_ShakeOf.ok, trivial⟩⟩ mixed (by kernel_rfl) Go.Proofs.Tryz.func82 (body := impl_Small.b) (by kernel_rfl) (by kernel_rfl) (by kernel_rfl)
  exact h.of_eq impl_Small.eq
theorem impl_smalls.ok : FnOk Go.Proofs.Tryz.prog GL 46 ⟨impl_smalls.s, impl_smalls.f⟩ := by
  have h := runFn_ok (P := Go.Proofs.Tryz.prog) (C := impl_smalls.c) ⟨ttOk_TT, ⟨impl_Small.ok, trivial⟩⟩ mixed (by kernel_rfl) Go.Proofs.Tryz.func46 (body := impl_smalls.b) (by kernel_rfl) (by kernel_rfl) (by kernel_rfl)
  exact h.of_eq impl_smalls.eq
theorem impl_packed.ok : FnOk Go.Proofs.Tryz.prog GL 84 ⟨impl_packed.s, impl_packed.f⟩ := by
  have h := runFn_ok (P := Go.Proofs.Tryz.prog) (C := impl_packed.c) ⟨ttOk_TT, trivial⟩ mixed (by kernel_rfl) Go.Proofs.Tryz.func84 (body := impl_packed.b) (by kernel_rfl) (by kernel_rfl) (by kernel_rfl)
  exact h.of_eq impl_packed.eq
theorem impl_PolyBytes.ok : FnOk Go.Proofs.Tryz.prog GL 47 ⟨impl_PolyBytes.s, impl_PolyBytes.f⟩ := by
  have h := runFn_ok (P := Go.Proofs.Tryz.prog) (C := impl_PolyBytes.c) ⟨ttOk_TT, ⟨impl_PolyOk.ok, impl_packed.ok, trivial⟩⟩ mixed (by kernel_rfl) Go.Proofs.Tryz.func47 (body := impl_PolyBytes.b) (by kernel_rfl) (by kernel_rfl) (by kernel_rfl)
  exact h.of_eq impl_PolyBytes.eq
theorem impl_PolyAdd_1.ok : FnOk Go.Proofs.Tryz.prog GL 86 ⟨impl_PolyAdd_1.s, impl_PolyAdd_1.f⟩ := by
  have h := runFn_ok (P := Go.Proofs.Tryz.prog) (C := impl_PolyAdd_1.c) ⟨ttOk_TT, trivial⟩ mixed (by kernel_rfl) Go.Proofs.Tryz.func86 (body := impl_PolyAdd_1.b) (by kernel_rfl) (by kernel_rfl) (by kernel_rfl)
  exact h.of_eq impl_PolyAdd_1.eq
theorem impl_each.ok : FnOk Go.Proofs.Tryz.prog GL 85 ⟨impl_each.s, impl_each.f⟩ := by
  have h := runFn_ok (P := Go.Proofs.Tryz.prog) (C := impl_each.c) ⟨ttOk_TT, ⟨impl_PolyOk.ok, impl_PolyAdd_1.ok, impl_modQ.ok, trivial⟩⟩ mixed (by kernel_rfl) Go.Proofs.Tryz.func85 (body := impl_each.b) (by kernel_rfl) (by kernel_rfl) (by kernel_rfl)
  exact h.of_eq impl_each.eq
theorem impl_PolyAdd.ok : FnOk Go.Proofs.Tryz.prog GL 48 ⟨impl_PolyAdd.s, impl_PolyAdd.f⟩ := by
  have h := runFn_ok (P := Go.Proofs.Tryz.prog) (C := impl_PolyAdd.c) ⟨ttOk_TT, ⟨impl_each.ok, trivial⟩⟩ mixed (by kernel_rfl) Go.Proofs.Tryz.func48 (body := impl_PolyAdd.b) (by kernel_rfl) (by kernel_rfl) (by kernel_rfl)
  exact h.of_eq impl_PolyAdd.eq
theorem impl_MulNtt.ok : FnOk Go.Proofs.Tryz.prog GL 87 ⟨impl_MulNtt.s, impl_MulNtt.f⟩ := by
  have h := runFn_ok (P := Go.Proofs.Tryz.prog) (C := impl_MulNtt.c) ⟨ttOk_TT, ⟨impl_PolyOk.ok, impl_PowQ.ok, impl_Turn7.ok, impl_modQ.ok, trivial⟩⟩ mixed (by kernel_rfl) Go.Proofs.Tryz.func87 (body := impl_MulNtt.b) (by kernel_rfl) (by kernel_rfl) (by kernel_rfl)
  exact h.of_eq impl_MulNtt.eq
theorem impl_dot.ok : FnOk Go.Proofs.Tryz.prog GL 49 ⟨impl_dot.s, impl_dot.f⟩ := by
  have h := runFn_ok (P := Go.Proofs.Tryz.prog) (C := impl_dot.c) ⟨ttOk_TT, ⟨impl_PolyAdd.ok, impl_MulNtt.ok, trivial⟩⟩ mixed (by kernel_rfl) Go.Proofs.Tryz.func49 (body := impl_dot.b) (by kernel_rfl) (by kernel_rfl) (by kernel_rfl)
  exact h.of_eq impl_dot.eq
theorem impl_Uniform.ok : FnOk Go.Proofs.Tryz.prog GL 88 ⟨impl_Uniform.s, impl_Uniform.f⟩ := by
  have h := runFn_ok (P := Go.Proofs.Tryz.prog) (C := impl_Uniform.c) ⟨ttOk_TT, ⟨impl_oneByte.ok, impl_StreamNew.ok, impl_StreamTake.ok, trivial⟩⟩ mixed (by kernel_rfl) Go.Proofs.Tryz.func88 (body := impl_Uniform.b) (by kernel_rfl) (by kernel_rfl) (by kernel_rfl)
  exact h.of_eq impl_Uniform.eq
theorem impl_row.ok : FnOk Go.Proofs.Tryz.prog GL 50 ⟨impl_row.s, impl_row.f⟩ := by
  have h := runFn_ok (P := Go.Proofs.Tryz.prog) (C := impl_row.c) ⟨ttOk_TT, ⟨impl_Uniform.ok, trivial⟩⟩ mixed (by kernel_rfl) Go.Proofs.Tryz.func50 (body := impl_row.b) (by kernel_rfl) (by kernel_rfl) (by kernel_rfl)
  exact h.of_eq impl_row.eq
theorem impl_PairOf.ok : FnOk Go.Proofs.Tryz.prog GL 19 ⟨impl_PairOf.s, impl_PairOf.f⟩ := by
  have h := runFn_ok (P := Go.Proofs.Tryz.prog) (C := impl_PairOf.c) ⟨ttOk_TT, ⟨impl_DigestOf.ok, impl_ntts.ok, impl_smalls.ok, impl_PolyBytes.ok, impl_PolyAdd.ok, impl_dot.ok, impl_row.ok, trivial⟩⟩ mixed (by kernel_rfl) Go.Proofs.Tryz.func19 (body := impl_PairOf.b) (by kernel_rfl) (by kernel_rfl) (by kernel_rfl)
  exact h.of_eq impl_PairOf.eq
theorem impl_Chop.ok : FnOk Go.Proofs.Tryz.prog GL 135 ⟨impl_Chop.s, impl_Chop.f⟩ := by
  have h := runFn_ok (P := Go.Proofs.Tryz.prog) (C := impl_Chop.c) ⟨ttOk_TT, ⟨impl_DigestOf.ok, trivial⟩⟩ mixed (by kernel_rfl) Go.Proofs.Tryz.func135 (body := impl_Chop.b) (by kernel_rfl) (by kernel_rfl) (by kernel_rfl)
  exact h.of_eq impl_Chop.eq
theorem impl_Node.ok : FnOk Go.Proofs.Tryz.prog GL 131 ⟨impl_Node.s, impl_Node.f⟩ := by
  have h := runFn_ok (P := Go.Proofs.Tryz.prog) (C := impl_Node.c) ⟨ttOk_TT, ⟨impl_oneByte.ok, impl_Chop.ok, trivial⟩⟩ mixed (by kernel_rfl) Go.Proofs.Tryz.func131 (body := impl_Node.b) (by kernel_rfl) (by kernel_rfl) (by kernel_rfl)
  exact h.of_eq impl_Node.eq
theorem impl_LevelUp.ok : FnOk Go.Proofs.Tryz.prog GL 117 ⟨impl_LevelUp.s, impl_LevelUp.f⟩ := by
  have h := runFn_ok (P := Go.Proofs.Tryz.prog) (C := impl_LevelUp.c) ⟨ttOk_TT, ⟨impl_Node.ok, trivial⟩⟩ mixed (by kernel_rfl) Go.Proofs.Tryz.func117 (body := impl_LevelUp.b) (by kernel_rfl) (by kernel_rfl) (by kernel_rfl)
  exact h.of_eq impl_LevelUp.eq
theorem impl_RootOf.ok : FnOk Go.Proofs.Tryz.prog GL 89 ⟨impl_RootOf.s, impl_RootOf.f⟩ := by
  have h := runFn_ok (P := Go.Proofs.Tryz.prog) (C := impl_RootOf.c) ⟨ttOk_TT, ⟨impl_LevelUp.ok, trivial⟩⟩ mixed (by kernel_rfl) Go.Proofs.Tryz.func89 (body := impl_RootOf.b) (by kernel_rfl) (by kernel_rfl) (by kernel_rfl)
  exact h.of_eq impl_RootOf.eq
theorem impl_OncePublic_1.ok : FnOk Go.Proofs.Tryz.prog GL 133 ⟨impl_OncePublic_1.s, impl_OncePublic_1.f⟩ := by
  have h := runFn_ok (P := Go.Proofs.Tryz.prog) (C := impl_OncePublic_1.c) ⟨ttOk_TT, trivial⟩ mixed (by kernel_rfl) Go.Proofs.Tryz.func133 (body := impl_OncePublic_1.b) (by kernel_rfl) (by kernel_rfl) (by kernel_rfl)
  exact h.of_eq impl_OncePublic_1.eq
theorem impl_OncePublic_2.ok : FnOk Go.Proofs.Tryz.prog GL 134 ⟨impl_OncePublic_2.s, impl_OncePublic_2.f⟩ := by
  have h := runFn_ok (P := Go.Proofs.Tryz.prog) (C := impl_OncePublic_2.c) ⟨ttOk_TT, trivial⟩ mixed (by kernel_rfl) Go.Proofs.Tryz.func134 (body := impl_OncePublic_2.b) (by kernel_rfl) (by kernel_rfl) (by kernel_rfl)
  exact h.of_eq impl_OncePublic_2.eq
theorem impl_ChainOf.ok : FnOk Go.Proofs.Tryz.prog GL 144 ⟨impl_ChainOf.s, impl_ChainOf.f⟩ := by
  have h := runFn_ok (P := Go.Proofs.Tryz.prog) (C := impl_ChainOf.c) ⟨ttOk_TT, ⟨impl_oneByte.ok, impl_Chop.ok, trivial⟩⟩ mixed (by kernel_rfl) Go.Proofs.Tryz.func144 (body := impl_ChainOf.b) (by kernel_rfl) (by kernel_rfl) (by kernel_rfl)
  exact h.of_eq impl_ChainOf.eq
theorem impl_chopped.ok : FnOk Go.Proofs.Tryz.prog GL 132 ⟨impl_chopped.s, impl_chopped.f⟩ := by
  have h := runFn_ok (P := Go.Proofs.Tryz.prog) (C := impl_chopped.c) ⟨ttOk_TT, ⟨impl_OncePublic_1.ok, impl_OncePublic_2.ok, impl_Chop.ok, impl_ChainOf.ok, trivial⟩⟩ mixed (by kernel_rfl) Go.Proofs.Tryz.func132 (body := impl_chopped.b) (by kernel_rfl) (by kernel_rfl) (by kernel_rfl)
  exact h.of_eq impl_chopped.eq
theorem impl_OncePublic.ok : FnOk Go.Proofs.Tryz.prog GL 118 ⟨impl_OncePublic.s, impl_OncePublic.f⟩ := by
  have h := runFn_ok (P := Go.Proofs.Tryz.prog) (C := impl_OncePublic.c) ⟨ttOk_TT, ⟨impl_chopped.ok, trivial⟩⟩ mixed (by kernel_rfl) Go.Proofs.Tryz.func118 (body := impl_OncePublic.b) (by kernel_rfl) (by kernel_rfl) (by kernel_rfl)
  exact h.of_eq impl_OncePublic.eq
theorem impl_OnceKey.ok : FnOk Go.Proofs.Tryz.prog GL 119 ⟨impl_OnceKey.s, impl_OnceKey.f⟩ := by
  have h := runFn_ok (P := Go.Proofs.Tryz.prog) (C := impl_OnceKey.c) ⟨ttOk_TT, ⟨impl_oneByte.ok, impl_Chop.ok, trivial⟩⟩ mixed (by kernel_rfl) Go.Proofs.Tryz.func119 (body := impl_OnceKey.b) (by kernel_rfl) (by kernel_rfl) (by kernel_rfl)
  exact h.of_eq impl_OnceKey.eq
theorem impl_leavesOf.ok : FnOk Go.Proofs.Tryz.prog GL 90 ⟨impl_leavesOf.s, impl_leavesOf.f⟩ := by
  have h := runFn_ok (P := Go.Proofs.Tryz.prog) (C := impl_leavesOf.c) ⟨ttOk_TT, ⟨impl_OncePublic.ok, impl_OnceKey.ok, trivial⟩⟩ mixed (by kernel_rfl) Go.Proofs.Tryz.func90 (body := impl_leavesOf.b) (by kernel_rfl) (by kernel_rfl) (by kernel_rfl)
  exact h.of_eq impl_leavesOf.eq
theorem impl_PublicOf.ok : FnOk Go.Proofs.Tryz.prog GL 51 ⟨impl_PublicOf.s, impl_PublicOf.f⟩ := by
  have h := runFn_ok (P := Go.Proofs.Tryz.prog) (C := impl_PublicOf.c) ⟨ttOk_TT, ⟨impl_RootOf.ok, impl_leavesOf.ok, trivial⟩⟩ mixed (by kernel_rfl) Go.Proofs.Tryz.func51 (body := impl_PublicOf.b) (by kernel_rfl) (by kernel_rfl) (by kernel_rfl)
  exact h.of_eq impl_PublicOf.eq
theorem impl_HyperPublic.ok : FnOk Go.Proofs.Tryz.prog GL 20 ⟨impl_HyperPublic.s, impl_HyperPublic.f⟩ := by
  have h := runFn_ok (P := Go.Proofs.Tryz.prog) (C := impl_HyperPublic.c) ⟨ttOk_TT, ⟨impl_PublicOf.ok, trivial⟩⟩ mixed (by kernel_rfl) Go.Proofs.Tryz.func20 (body := impl_HyperPublic.b) (by kernel_rfl) (by kernel_rfl) (by kernel_rfl)
  exact h.of_eq impl_HyperPublic.eq
theorem impl_PublicPart.ok : FnOk Go.Proofs.Tryz.prog GL 8 ⟨impl_PublicPart.s, impl_PublicPart.f⟩ := by
  have h := runFn_ok (P := Go.Proofs.Tryz.prog) (C := impl_PublicPart.c) ⟨ttOk_TT, ⟨impl_ThingOk.ok, impl_PairOf.ok, impl_HyperPublic.ok, trivial⟩⟩ mixed (by kernel_rfl) Go.Proofs.Tryz.func8 (body := impl_PublicPart.b) (by kernel_rfl) (by kernel_rfl) (by kernel_rfl)
  exact h.of_eq impl_PublicPart.eq
theorem laws_FnExactPublicPart.ok : FnOk Go.Proofs.Tryz.prog GL 3 ⟨laws_FnExactPublicPart.s, laws_FnExactPublicPart.f⟩ := by
  have h := runFn_ok (P := Go.Proofs.Tryz.prog) (C := laws_FnExactPublicPart.c) ⟨ttOk_TT, ⟨laws_szThing.ok, spec_PublicPart.ok, laws_toThing.ok, impl_PublicPart.ok, trivial⟩⟩ mixed (by kernel_rfl) Go.Proofs.Tryz.func3 (body := laws_FnExactPublicPart.b) (by kernel_rfl) (by kernel_rfl) (by kernel_rfl)
  exact h.of_eq laws_FnExactPublicPart.eq
theorem laws_big.ok : FnOk Go.Proofs.Tryz.prog GL 9 ⟨laws_big.s, laws_big.f⟩ := by
  have h := runFn_ok (P := Go.Proofs.Tryz.prog) (C := laws_big.c) ⟨ttOk_TT, trivial⟩ mixed (by kernel_rfl) Go.Proofs.Tryz.func9 (body := laws_big.b) (by kernel_rfl) (by kernel_rfl) (by kernel_rfl)
  exact h.of_eq laws_big.eq
theorem spec_l01Byte.ok : FnOk Go.Proofs.Tryz.prog GL 93 ⟨spec_l01Byte.s, spec_l01Byte.f⟩ := by
  have h := runFn_ok (P := Go.Proofs.Tryz.prog) (C := spec_l01Byte.c) ⟨ttOk_TT, trivial⟩ mixed (by kernel_rfl) Go.Proofs.Tryz.func93 (body := spec_l01Byte.b) (by kernel_rfl) (by kernel_rfl) (by kernel_rfl)
  exact h.of_eq spec_l01Byte.eq
theorem spec_l01Below.ok : FnOk Go.Proofs.Tryz.prog GL 53 ⟨spec_l01Below.s, spec_l01Below.f⟩ := by
  have h := runFn_ok (P := Go.Proofs.Tryz.prog) (C := spec_l01Below.c) ⟨ttOk_TT, ⟨spec_l01Byte.ok, trivial⟩⟩ mixed (by kernel_rfl) Go.Proofs.Tryz.func53 (body := spec_l01Below.b) (by kernel_rfl) (by kernel_rfl) (by kernel_rfl)
  exact h.of_eq spec_l01Below.eq
theorem spec_l01Text.ok : FnOk Go.Proofs.Tryz.prog GL 62 ⟨spec_l01Text.s, spec_l01Text.f⟩ := by
  have h := runFn_ok (P := Go.Proofs.Tryz.prog) (C := spec_l01Text.c) ⟨ttOk_TT, ⟨spec_l01Byte.ok, trivial⟩⟩ mixed (by kernel_rfl) Go.Proofs.Tryz.func62 (body := spec_l01Text.b) (by kernel_rfl) (by kernel_rfl) (by kernel_rfl)
  exact h.of_eq spec_l01Text.eq
theorem spec_l01Once.ok : FnOk Go.Proofs.Tryz.prog GL 91 ⟨spec_l01Once.s, spec_l01Once.f⟩ := by
  have h := runFn_ok (P := Go.Proofs.Tryz.prog) (C := spec_l01Once.c) ⟨ttOk_TT, ⟨spec_l01Below.ok, trivial⟩⟩ mixed (by kernel_rfl) Go.Proofs.Tryz.func91 (body := spec_l01Once.b) (by kernel_rfl) (by kernel_rfl) (by kernel_rfl)
  exact h.of_eq spec_l01Once.eq
theorem spec_l01Pick.ok : FnOk Go.Proofs.Tryz.prog GL 92 ⟨spec_l01Pick.s, spec_l01Pick.f⟩ := by
  have h := runFn_ok (P := Go.Proofs.Tryz.prog) (C := spec_l01Pick.c) ⟨ttOk_TT, ⟨spec_l01Below.ok, trivial⟩⟩ mixed (by kernel_rfl) Go.Proofs.Tryz.func92 (body := spec_l01Pick.b) (by kernel_rfl) (by kernel_rfl) (by kernel_rfl)
  exact h.of_eq spec_l01Pick.eq
theorem spec_l19Thing.ok : FnOk Go.Proofs.Tryz.prog GL 52 ⟨spec_l19Thing.s, spec_l19Thing.f⟩ := by
  have h := runFn_ok (P := Go.Proofs.Tryz.prog) (C := spec_l19Thing.c) ⟨ttOk_TT, ⟨spec_DigestOf.ok, spec_l01Below.ok, spec_l01Text.ok, spec_l01Once.ok, spec_l01Pick.ok, trivial⟩⟩ mixed (by kernel_rfl) Go.Proofs.Tryz.func52 (body := spec_l19Thing.b) (by kernel_rfl) (by kernel_rfl) (by kernel_rfl)
  exact h.of_eq spec_l19Thing.eq
theorem spec_l01PickInt.ok : FnOk Go.Proofs.Tryz.prog GL 54 ⟨spec_l01PickInt.s, spec_l01PickInt.f⟩ := by
  have h := runFn_ok (P := Go.Proofs.Tryz.prog) (C := spec_l01PickInt.c) ⟨ttOk_TT, ⟨spec_l01Below.ok, trivial⟩⟩ mixed (by kernel_rfl) Go.Proofs.Tryz.func54 (body := spec_l01PickInt.b) (by kernel_rfl) (by kernel_rfl) (by kernel_rfl)
  exact h.of_eq spec_l01PickInt.eq
theorem spec_l01Long.ok : FnOk Go.Proofs.Tryz.prog GL 55 ⟨spec_l01Long.s, spec_l01Long.f⟩ := by
  have h := runFn_ok (P := Go.Proofs.Tryz.prog) (C := spec_l01Long.c) ⟨ttOk_TT, trivial⟩ mixed (by kernel_rfl) Go.Proofs.Tryz.func55 (body := spec_l01Long.b) (by kernel_rfl) (by kernel_rfl) (by kernel_rfl)
  exact h.of_eq spec_l01Long.eq
theorem spec_l19Any.ok : FnOk Go.Proofs.Tryz.prog GL 21 ⟨spec_l19Any.s, spec_l19Any.f⟩ := by
  have h := runFn_ok (P := Go.Proofs.Tryz.prog) (C := spec_l19Any.c) ⟨ttOk_TT, ⟨spec_l19Thing.ok, spec_l01Below.ok, spec_l01PickInt.ok, spec_l01Long.ok, trivial⟩⟩ mixed (by kernel_rfl) Go.Proofs.Tryz.func21 (body := spec_l19Any.b) (by kernel_rfl) (by kernel_rfl) (by kernel_rfl)
  exact h.of_eq spec_l19Any.eq
theorem spec_l01New.ok : FnOk Go.Proofs.Tryz.prog GL 22 ⟨spec_l01New.s, spec_l01New.f⟩ := by
  have h := runFn_ok (P := Go.Proofs.Tryz.prog) (C := spec_l01New.c) ⟨ttOk_TT, trivial⟩ mixed (by kernel_rfl) Go.Proofs.Tryz.func22 (body := spec_l01New.b) (by kernel_rfl) (by kernel_rfl) (by kernel_rfl)
  exact h.of_eq spec_l01New.eq
theorem spec_DrawThingText.ok : FnOk Go.Proofs.Tryz.prog GL 10 ⟨spec_DrawThingText.s, spec_DrawThingText.f⟩ := by
  have h := runFn_ok (P := Go.Proofs.Tryz.prog) (C := spec_DrawThingText.c) ⟨ttOk_TT, ⟨spec_l19Any.ok, spec_l01New.ok, trivial⟩⟩ mixed (by kernel_rfl) Go.Proofs.Tryz.func10 (body := spec_DrawThingText.b) (by kernel_rfl) (by kernel_rfl) (by kernel_rfl)
  exact h.of_eq spec_DrawThingText.eq
theorem impl_varText.ok : FnOk Go.Proofs.Tryz.prog GL 23 ⟨impl_varText.s, impl_varText.f⟩ := by
  have h := runFn_ok (P := Go.Proofs.Tryz.prog) (C := impl_varText.c) ⟨ttOk_TT, trivial⟩ mixed (by kernel_rfl) Go.Proofs.Tryz.func23 (body := impl_varText.b) (by kernel_rfl) (by kernel_rfl) (by kernel_rfl)
  exact h.of_eq impl_varText.eq
theorem impl_flags.ok : FnOk Go.Proofs.Tryz.prog GL 25 ⟨impl_flags.s, impl_flags.f⟩ := by
  have h := runFn_ok (P := Go.Proofs.Tryz.prog) (C := impl_flags.c) ⟨ttOk_TT, trivial⟩ mixed (by kernel_rfl) Go.Proofs.Tryz.func25 (body := impl_flags.b) (by kernel_rfl) (by kernel_rfl) (by kernel_rfl)
  exact h.of_eq impl_flags.eq
theorem impl_shortText.ok : FnOk Go.Proofs.Tryz.prog GL 26 ⟨impl_shortText.s, impl_shortText.f⟩ := by
  have h := runFn_ok (P := Go.Proofs.Tryz.prog) (C := impl_shortText.c) ⟨ttOk_TT, ⟨impl_varText.ok, trivial⟩⟩ mixed (by kernel_rfl) Go.Proofs.Tryz.func26 (body := impl_shortText.b) (by kernel_rfl) (by kernel_rfl) (by kernel_rfl)
  exact h.of_eq impl_shortText.eq
theorem impl_ThingText.ok : FnOk Go.Proofs.Tryz.prog GL 11 ⟨impl_ThingText.s, impl_ThingText.f⟩ := by
  have h := runFn_ok (P := Go.Proofs.Tryz.prog) (C := impl_ThingText.c) ⟨ttOk_TT, ⟨impl_ThingOk.ok, impl_varText.ok, impl_oneByte.ok, impl_flags.ok, impl_shortText.ok, trivial⟩⟩ mixed (by kernel_rfl) Go.Proofs.Tryz.func11 (body := impl_ThingText.b) (by kernel_rfl) (by kernel_rfl) (by kernel_rfl)
  exact h.of_eq impl_ThingText.eq
theorem impl_ReadVar.ok : FnOk Go.Proofs.Tryz.prog GL 56 ⟨impl_ReadVar.s, impl_ReadVar.f⟩ := by
  have h := runFn_ok (P := Go.Proofs.Tryz.prog) (C := impl_ReadVar.c) ⟨ttOk_TT, ⟨impl_in.ok, trivial⟩⟩ mixed (by kernel_rfl) Go.Proofs.Tryz.func56 (body := impl_ReadVar.b) (by kernel_rfl) (by kernel_rfl) (by kernel_rfl)
  exact h.of_eq impl_ReadVar.eq
theorem impl_fields_num.ok : FnOk Go.Proofs.Tryz.prog GL 27 ⟨impl_fields_num.s, impl_fields_num.f⟩ := by
  have h := runFn_ok (P := Go.Proofs.Tryz.prog) (C := impl_fields_num.c) ⟨ttOk_TT, ⟨impl_ReadVar.ok, trivial⟩⟩ mixed (by kernel_rfl) Go.Proofs.Tryz.func27 (body := impl_fields_num.b) (by kernel_rfl) (by kernel_rfl) (by kernel_rfl)
  exact h.of_eq impl_fields_num.eq
theorem impl_ReadShort.ok : FnOk Go.Proofs.Tryz.prog GL 57 ⟨impl_ReadShort.s, impl_ReadShort.f⟩ := by
  have h := runFn_ok (P := Go.Proofs.Tryz.prog) (C := impl_ReadShort.c) ⟨ttOk_TT, ⟨impl_ReadVar.ok, trivial⟩⟩ mixed (by kernel_rfl) Go.Proofs.Tryz.func57 (body := impl_ReadShort.b) (by kernel_rfl) (by kernel_rfl) (by kernel_rfl)
  exact h.of_eq impl_ReadShort.eq
theorem impl_fields_short.ok : FnOk Go.Proofs.Tryz.prog GL 28 ⟨impl_fields_short.s, impl_fields_short.f⟩ := by
  have h := runFn_ok (P := Go.Proofs.Tryz.prog) (C := impl_fields_short.c) ⟨ttOk_TT, ⟨impl_ReadShort.ok, trivial⟩⟩ mixed (by kernel_rfl) Go.Proofs.Tryz.func28 (body := impl_fields_short.b) (by kernel_rfl) (by kernel_rfl) (by kernel_rfl)
  exact h.of_eq impl_fields_short.eq
theorem impl_ReadThing.ok : FnOk Go.Proofs.Tryz.prog GL 12 ⟨impl_ReadThing.s, impl_ReadThing.f⟩ := by
  have h := runFn_ok (P := Go.Proofs.Tryz.prog) (C := impl_ReadThing.c) ⟨ttOk_TT, ⟨impl_ThingText.ok, impl_fields_num.ok, impl_fields_short.ok, trivial⟩⟩ mixed (by kernel_rfl) Go.Proofs.Tryz.func12 (body := impl_ReadThing.b) (by kernel_rfl) (by kernel_rfl) (by kernel_rfl)
  exact h.of_eq impl_ReadThing.eq
theorem spec_l19Flag.ok : FnOk Go.Proofs.Tryz.prog GL 58 ⟨spec_l19Flag.s, spec_l19Flag.f⟩ := by
  have h := runFn_ok (P := Go.Proofs.Tryz.prog) (C := spec_l19Flag.c) ⟨ttOk_TT, trivial⟩ mixed (by kernel_rfl) Go.Proofs.Tryz.func58 (body := spec_l19Flag.b) (by kernel_rfl) (by kernel_rfl) (by kernel_rfl)
  exact h.of_eq spec_l19Flag.eq
theorem spec_l01Var.ok : FnOk Go.Proofs.Tryz.prog GL 59 ⟨spec_l01Var.s, spec_l01Var.f⟩ := by
  have h := runFn_ok (P := Go.Proofs.Tryz.prog) (C := spec_l01Var.c) ⟨ttOk_TT, trivial⟩ mixed (by kernel_rfl) Go.Proofs.Tryz.func59 (body := spec_l01Var.b) (by kernel_rfl) (by kernel_rfl) (by kernel_rfl)
  exact h.of_eq spec_l01Var.eq
theorem spec_l19Short.ok : FnOk Go.Proofs.Tryz.prog GL 61 ⟨spec_l19Short.s, spec_l19Short.f⟩ := by
  have h := runFn_ok (P := Go.Proofs.Tryz.prog) (C := spec_l19Short.c) ⟨ttOk_TT, ⟨spec_l01Var.ok, trivial⟩⟩ mixed (by kernel_rfl) Go.Proofs.Tryz.func61 (body := spec_l19Short.b) (by kernel_rfl) (by kernel_rfl) (by kernel_rfl)
  exact h.of_eq spec_l19Short.eq
theorem spec_ThingText.ok : FnOk Go.Proofs.Tryz.prog GL 31 ⟨spec_ThingText.s, spec_ThingText.f⟩ := by
  have h := runFn_ok (P := Go.Proofs.Tryz.prog) (C := spec_ThingText.c) ⟨ttOk_TT, ⟨spec_ThingOk.ok, spec_l19Flag.ok, spec_l01Var.ok, spec_l06Byte.ok, spec_l19Short.ok, trivial⟩⟩ mixed (by kernel_rfl) Go.Proofs.Tryz.func31 (body := spec_ThingText.b) (by kernel_rfl) (by kernel_rfl) (by kernel_rfl)
  exact h.of_eq spec_ThingText.eq
theorem spec_l02Spoilt.ok : FnOk Go.Proofs.Tryz.prog GL 32 ⟨spec_l02Spoilt.s, spec_l02Spoilt.f⟩ := by
  have h := runFn_ok (P := Go.Proofs.Tryz.prog) (C := spec_l02Spoilt.c) ⟨ttOk_TT, ⟨spec_l01Below.ok, spec_l01Text.ok, trivial⟩⟩ mixed (by kernel_rfl) Go.Proofs.Tryz.func32 (body := spec_l02Spoilt.b) (by kernel_rfl) (by kernel_rfl) (by kernel_rfl)
  exact h.of_eq spec_l02Spoilt.eq
theorem spec_DrawReadThing.ok : FnOk Go.Proofs.Tryz.prog GL 15 ⟨spec_DrawReadThing.s, spec_DrawReadThing.f⟩ := by
  have h := runFn_ok (P := Go.Proofs.Tryz.prog) (C := spec_DrawReadThing.c) ⟨ttOk_TT, ⟨spec_l19Any.ok, spec_l01New.ok, spec_ThingText.ok, spec_l02Spoilt.ok, trivial⟩⟩ mixed (by kernel_rfl) Go.Proofs.Tryz.func15 (body := spec_DrawReadThing.b) (by kernel_rfl) (by kernel_rfl) (by kernel_rfl)
  exact h.of_eq spec_DrawReadThing.eq
theorem spec_ReadVar.ok : FnOk Go.Proofs.Tryz.prog GL 63 ⟨spec_ReadVar.s, spec_ReadVar.f⟩ := by
  have h := runFn_ok (P := Go.Proofs.Tryz.prog) (C := spec_ReadVar.c) ⟨ttOk_TT, ⟨spec_l01In.ok, spec_l01Var.ok, trivial⟩⟩ mixed (by kernel_rfl) Go.Proofs.Tryz.func63 (body := spec_ReadVar.b) (by kernel_rfl) (by kernel_rfl) (by kernel_rfl)
  exact h.of_eq spec_ReadVar.eq
theorem spec_l19Var.ok : FnOk Go.Proofs.Tryz.prog GL 33 ⟨spec_l19Var.s, spec_l19Var.f⟩ := by
  have h := runFn_ok (P := Go.Proofs.Tryz.prog) (C := spec_l19Var.c) ⟨ttOk_TT, ⟨spec_ReadVar.ok, trivial⟩⟩ mixed (by kernel_rfl) Go.Proofs.Tryz.func33 (body := spec_l19Var.b) (by kernel_rfl) (by kernel_rfl) (by kernel_rfl)
  exact h.of_eq spec_l19Var.eq
theorem spec_l19Take.ok : FnOk Go.Proofs.Tryz.prog GL 64 ⟨spec_l19Take.s, spec_l19Take.f⟩ := by
  have h := runFn_ok (P := Go.Proofs.Tryz.prog) (C := spec_l19Take.c) ⟨ttOk_TT, trivial⟩ mixed (by kernel_rfl) Go.Proofs.Tryz.func64 (body := spec_l19Take.b) (by kernel_rfl) (by kernel_rfl) (by kernel_rfl)
  exact h.of_eq spec_l19Take.eq
theorem spec_l19One.ok : FnOk Go.Proofs.Tryz.prog GL 34 ⟨spec_l19One.s, spec_l19One.f⟩ := by
  have h := runFn_ok (P := Go.Proofs.Tryz.prog) (C := spec_l19One.c) ⟨ttOk_TT, ⟨spec_l19Take.ok, trivial⟩⟩ mixed (by kernel_rfl) Go.Proofs.Tryz.func34 (body := spec_l19One.b) (by kernel_rfl) (by kernel_rfl) (by kernel_rfl)
  exact h.of_eq spec_l19One.eq
theorem spec_l19ReadShort.ok : FnOk Go.Proofs.Tryz.prog GL 35 ⟨spec_l19ReadShort.s, spec_l19ReadShort.f⟩ := by
  have h := runFn_ok (P := Go.Proofs.Tryz.prog) (C := spec_l19ReadShort.c) ⟨ttOk_TT, ⟨spec_l19Var.ok, spec_l19Take.ok, trivial⟩⟩ mixed (by kernel_rfl) Go.Proofs.Tryz.func35 (body := spec_l19ReadShort.b) (by kernel_rfl) (by kernel_rfl) (by kernel_rfl)
  exact h.of_eq spec_l19ReadShort.eq
theorem spec_ReadThing.ok : FnOk Go.Proofs.Tryz.prog GL 16 ⟨spec_ReadThing.s, spec_ReadThing.f⟩ := by
  have h := runFn_ok (P := Go.Proofs.Tryz.prog) (C := spec_ReadThing.c) ⟨ttOk_TT, ⟨spec_ThingText.ok, spec_l19Var.ok, spec_l19One.ok, spec_l19ReadShort.ok, trivial⟩⟩ mixed (by kernel_rfl) Go.Proofs.Tryz.func16 (body := spec_ReadThing.b) (by kernel_rfl) (by kernel_rfl) (by kernel_rfl)
  exact h.of_eq spec_ReadThing.eq
theorem laws_FnThings.ok : FnOk Go.Proofs.Tryz.prog GL 4 ⟨laws_FnThings.s, laws_FnThings.f⟩ := by
  have h := runFn_ok (P := Go.Proofs.Tryz.prog) (C := laws_FnThings.c) ⟨ttOk_TT, ⟨spec_PublicPart.ok, impl_PublicPart.ok, laws_big.ok, spec_DrawThingText.ok, impl_ThingText.ok, impl_ReadThing.ok, spec_ThingOk.ok, impl_ThingOk.ok, spec_DrawReadThing.ok, spec_ReadThing.ok, trivial⟩⟩ mixed (by kernel_rfl) Go.Proofs.Tryz.func4 (body := laws_FnThings.b) (by kernel_rfl) (by kernel_rfl) (by kernel_rfl)
  exact h.of_eq laws_FnThings.eq
end Go.Vi

