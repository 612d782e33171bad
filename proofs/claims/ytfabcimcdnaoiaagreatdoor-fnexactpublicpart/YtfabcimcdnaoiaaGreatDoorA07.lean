/- A part of the proof of publicPart_holds: Gf. No condition of its own. -/
import Derived.Test.YtfabcimcdnaoiaaGreatDoorA06
set_option autoImplicit false
set_option maxRecDepth 1000000
set_option maxHeartbeats 0
set_option linter.unusedVariables false
set_option linter.unusedSimpArgs false
namespace Go.Vi
open Go
noncomputable def laws_szThing.f (x : ((Int × (Int × (Bool × (Bool × (Bool × (Bool × ((List UInt8) × (Int × Unit)))))))) × (Int × Unit))) : Option ((Int × Unit) × Unit) :=
  (cond (decide ((Go.IntKind.wrap .i64 (x.2.1 - (x.1.2.2.2.2.2.2.1.length : Int))) < 0))
  (some (((-1), ()), ()))
  (some (((Go.IntKind.wrap .i64 (x.2.1 - (x.1.2.2.2.2.2.2.1.length : Int))), ()), ())))
noncomputable def spec_l01In.f (x : (Int × (Int × (Int × Unit)))) : Option ((Bool × Unit) × Unit) :=
  (cond (decide (x.1 ≥ x.2.1))
  (some (((decide (x.1 ≤ x.2.2.1)), ()), ()))
  (some ((false, ()), ())))
noncomputable def spec_ThingOk.f (x : ((Int × (Int × (Bool × (Bool × (Bool × (Bool × ((List UInt8) × (Int × Unit)))))))) × Unit)) : Option ((Bool × Unit) × Unit) :=
  (Option.bind (show Option (((Unit × (Bool × Unit)) × ((Int × (Int × (Bool × (Bool × (Bool × (Bool × ((List UInt8) × (Int × Unit)))))))) × Unit)) ⊕ (Unit ⊕ ((Bool × Unit) × Unit))) from (Option.bind (Go.Vi.spec_l01In.f (x.1.1, (1, (1000, ())))) fun y0 =>
  (cond (!y0.1.1)
  (some (.inl (((), (true, ())), (x.1, ()))))
  (Option.bind (Go.Vi.spec_l01In.f (x.1.2.1, (1, (3, ())))) fun y1 =>
  (cond (!y1.1.1)
  (some (.inl (((), (true, ())), (x.1, ()))))
  (Option.bind (Go.Vi.spec_l01In.f (x.1.2.2.2.2.2.2.2.1, (0, (16, ())))) fun y2 =>
  (some (.inl (((), ((!y2.1.1), ())), (x.1, ())))))))))) fun y3 =>
  (match y3 with
  | .inl u4 => (cond u4.1.2.1
  (some ((false, ()), ()))
  (Option.bind (show Option (((Unit × (Bool × Unit)) × ((Int × (Int × (Bool × (Bool × (Bool × (Bool × ((List UInt8) × (Int × Unit)))))))) × Unit)) ⊕ (Unit ⊕ ((Bool × Unit) × Unit))) from (cond (!(decide (u4.2.1.2.1 = 2)))
  (cond (!(decide (u4.2.1.2.2.2.2.2.2.2.1 = 0)))
  (some (.inl (((), (true, ())), (u4.2.1, ()))))
  (cond u4.2.1.2.2.2.2.1
  (some (.inl (((), (true, ())), (u4.2.1, ()))))
  (cond (!(decide (u4.2.1.2.1 = 1)))
  (some (.inl (((), (u4.2.1.2.2.2.2.2.1, ())), (u4.2.1, ()))))
  (some (.inl (((), (false, ())), (u4.2.1, ())))))))
  (cond (!(decide (u4.2.1.2.1 = 1)))
  (some (.inl (((), (u4.2.1.2.2.2.2.2.1, ())), (u4.2.1, ()))))
  (some (.inl (((), (false, ())), (u4.2.1, ()))))))) fun y6 =>
  (match y6 with
  | .inl u7 => (cond u7.1.2.1
  (some ((false, ()), ()))
  (cond (decide (u7.2.1.2.1 = 3))
  (some (((decide ((u7.2.1.2.2.2.2.2.2.1.length : Int) ≤ 100)), ()), ()))
  (some (((decide ((u7.2.1.2.2.2.2.2.2.1.length : Int) = 32)), ()), ()))))
  | .inr w8 => (match w8 with
  | .inl u9 => none
  | .inr w10 => (some w10)))))
  | .inr w5 => (match w5 with
  | .inl u11 => none
  | .inr w12 => (some w12))))
noncomputable def spec_HasherOk.f (x : (((List UInt8) × ((List UInt8) × (Int × Unit))) × Unit)) : Option ((Bool × Unit) × Unit) :=
  (cond (decide ((x.1.1.length : Int) = 32))
  (cond (decide ((x.1.2.1.length : Int) < 64))
  (Option.bind (Go.Vi.spec_l01In.f (x.1.2.2.1, (0, (1000000000, ())))) fun y0 =>
  (cond y0.1.1
  (some (((decide ((Int.tmod x.1.2.2.1 64) = (x.1.2.1.length : Int))), ()), ()))
  (some ((false, ()), ()))))
  (some ((false, ()), ())))
  (some ((false, ()), ())))
noncomputable def spec_l05Word.f (x : ((List UInt8) × (Int × Unit))) : Option ((Int × Unit) × Unit) :=
  (Option.bind (geti x.1 x.2.1) fun y0 =>
  (Option.bind (geti x.1 (Go.IntKind.wrap .i64 (x.2.1 + 1))) fun y1 =>
  (Option.bind (geti x.1 (Go.IntKind.wrap .i64 (x.2.1 + 2))) fun y2 =>
  (Option.bind (geti x.1 (Go.IntKind.wrap .i64 (x.2.1 + 3))) fun y3 =>
  (some (((Go.IntKind.wrap .u32 ((Go.IntKind.wrap .u32 ((Go.IntKind.wrap .u32 ((Go.IntKind.wrap .u32 ((Go.IntKind.wrap .u32 ((UInt8.toNat y0) : Int)) * 16777216)) + (Go.IntKind.wrap .u32 ((Go.IntKind.wrap .u32 ((UInt8.toNat y1) : Int)) * 65536)))) + (Go.IntKind.wrap .u32 ((Go.IntKind.wrap .u32 ((UInt8.toNat y2) : Int)) * 256)))) + (Go.IntKind.wrap .u32 ((UInt8.toNat y3) : Int)))), ()), ()))))))
noncomputable def spec_l05Words.l0 (x1 : (((List UInt8) × ((List Int) × (Int × Unit))) × Unit)) : Option ((((List UInt8) × ((List Int) × (Int × Unit))) × Unit) ⊕ ((((List Int) × Unit) × Unit) ⊕ (((List Int) × Unit) × Unit))) :=
  (cond (decide ((Go.IntKind.wrap .i64 (x1.1.2.2.1 + 4)) ≤ (x1.1.1.length : Int)))
  (Option.bind (Go.Vi.spec_l05Word.f (x1.1.1, (x1.1.2.2.1, ()))) fun y2 =>
  (Option.bind (app 4 x1.1.2.1 [y2.1.1]) fun y3 =>
  (some (.inl ((x1.1.1, (y3, ((Go.IntKind.wrap .i64 (x1.1.2.2.1 + 4)), ()))), ())))))
  (some (.inr (.inl ((x1.1.2.1, ()), ())))))
noncomputable def spec_l05Words.f (x : ((List UInt8) × Unit)) : Option (((List Int) × Unit) × Unit) :=
  (Option.bind (iter spec_l05Words.l0 ((x.1, ([], (0, ()))), ())) fun y4 =>
  (match y4 with
  | .inl u5 => (some ((u5.1.1, ()), ()))
  | .inr w6 => (some w6)))
noncomputable def spec_l05K.f (x : Unit) : Option (((List Int) × Unit) × Unit) :=
  (some (([1116352408, 1899447441, 3049323471, 3921009573, 961987163, 1508970993, 2453635748, 2870763221, 3624381080, 310598401, 607225278, 1426881987, 1925078388, 2162078206, 2614888103, 3248222580, 3835390401, 4022224774, 264347078, 604807628, 770255983, 1249150122, 1555081692, 1996064986, 2554220882, 2821834349, 2952996808, 3210313671, 3336571891, 3584528711, 113926993, 338241895, 666307205, 773529912, 1294757372, 1396182291, 1695183700, 1986661051, 2177026350, 2456956037, 2730485921, 2820302411, 3259730800, 3345764771, 3516065817, 3600352804, 4094571909, 275423344, 430227734, 506948616, 659060556, 883997877, 958139571, 1322822218, 1537002063, 1747873779, 1955562222, 2024104815, 2227730452, 2361852424, 2428436474, 2756734187, 3204031479, 3329325298], ()), ()))
noncomputable def spec_l05Right.f (x : (Int × (Int × (Int × Unit)))) : Option ((Int × Unit) × Unit) :=
  (cond (decide (x.2.1 = 0))
  none
  (cond (decide (x.2.1 = 0))
  none
  (some (((Go.IntKind.wrap .u32 ((Go.IntKind.wrap .u32 (Int.tdiv x.1 x.2.1)) + (Go.IntKind.wrap .u32 ((Int.tmod x.1 x.2.1) * x.2.2.1)))), ()), ()))))
noncomputable def spec_l05S.f (x : (Int × (Int × (Int × (Int × (Bool × Unit)))))) : Option ((Int × Unit) × Unit) :=
  (cond (decide (x.2.1 = 0))
  none
  (Option.bind (Go.Vi.spec_l05Right.f (x.1, (x.2.1, ((Go.IntKind.wrap .u32 ((Go.IntKind.wrap .u32 (Int.tdiv 2147483648 x.2.1)) * 2)), ())))) fun y0 =>
  (cond (decide (x.2.2.1 = 0))
  none
  (Option.bind (Go.Vi.spec_l05Right.f (x.1, (x.2.2.1, ((Go.IntKind.wrap .u32 ((Go.IntKind.wrap .u32 (Int.tdiv 2147483648 x.2.2.1)) * 2)), ())))) fun y1 =>
  (cond (decide (x.2.2.2.1 = 0))
  none
  (cond (!x.2.2.2.2.1)
  (cond (decide (x.2.2.2.1 = 0))
  none
  (Option.bind (Go.Vi.spec_l05Right.f (x.1, (x.2.2.2.1, ((Go.IntKind.wrap .u32 ((Go.IntKind.wrap .u32 (Int.tdiv 2147483648 x.2.2.2.1)) * 2)), ())))) fun y2 =>
  (some (((ibits .xor .u32 (ibits .xor .u32 y0.1.1 y1.1.1) y2.1.1), ()), ()))))
  (some (((ibits .xor .u32 (ibits .xor .u32 y0.1.1 y1.1.1) (Go.IntKind.wrap .u32 (Int.tdiv x.1 x.2.2.2.1))), ()), ()))))))))
noncomputable def spec_l05Round.l1 (x2 : (((List Int) × ((List Int) × ((List Int) × (Int × Unit)))) × Unit)) : Option ((((List Int) × ((List Int) × ((List Int) × (Int × Unit)))) × Unit) ⊕ ((((List Int) × ((List Int) × ((List Int) × Unit))) × Unit) ⊕ (((List Int) × Unit) × Unit))) :=
  (cond (decide (x2.1.2.2.2.1 < 64))
  (Option.bind (geti x2.1.2.2.1 (Go.IntKind.wrap .i64 (x2.1.2.2.2.1 - 2))) fun y3 =>
  (Option.bind x2.1.2.2.1[(Int.toNat (Go.IntKind.wrap .i64 (x2.1.2.2.2.1 - 2)))]? fun y4 =>
  (Option.bind (Go.Vi.spec_l05S.f (y4, (131072, (524288, (1024, (true, ())))))) fun y5 =>
  (Option.bind (geti x2.1.2.2.1 (Go.IntKind.wrap .i64 (x2.1.2.2.2.1 - 7))) fun y6 =>
  (Option.bind x2.1.2.2.1[(Int.toNat (Go.IntKind.wrap .i64 (x2.1.2.2.2.1 - 7)))]? fun y7 =>
  (Option.bind (geti x2.1.2.2.1 (Go.IntKind.wrap .i64 (x2.1.2.2.2.1 - 15))) fun y8 =>
  (Option.bind x2.1.2.2.1[(Int.toNat (Go.IntKind.wrap .i64 (x2.1.2.2.2.1 - 15)))]? fun y9 =>
  (Option.bind (Go.Vi.spec_l05S.f (y9, (128, (262144, (8, (true, ())))))) fun y10 =>
  (Option.bind (geti x2.1.2.2.1 (Go.IntKind.wrap .i64 (x2.1.2.2.2.1 - 16))) fun y11 =>
  (Option.bind x2.1.2.2.1[(Int.toNat (Go.IntKind.wrap .i64 (x2.1.2.2.2.1 - 16)))]? fun y12 =>
  (Option.bind (app 4 x2.1.2.2.1 [(Go.IntKind.wrap .u32 ((Go.IntKind.wrap .u32 ((Go.IntKind.wrap .u32 (y5.1.1 + y7)) + y10.1.1)) + y12))]) fun y13 =>
  (some (.inl ((x2.1.1, (x2.1.2.1, (y13, ((Go.IntKind.wrap .i64 (x2.1.2.2.2.1 + 1)), ())))), ()))))))))))))))
  (some (.inr (.inl ((x2.1.1, (x2.1.2.1, (x2.1.2.2.1, ()))), ())))))
noncomputable def spec_l05Round.l47 (x48 : (((List Int) × ((List Int) × ((List Int) × ((List Int) × (Int × (Int × (Int × (Int × Unit)))))))) × Unit)) : Option ((((List Int) × ((List Int) × ((List Int) × ((List Int) × (Int × (Int × (Int × (Int × Unit)))))))) × Unit) ⊕ ((((List Int) × ((List Int) × ((List Int) × ((List Int) × (Int × (Int × (Int × Unit))))))) × Unit) ⊕ (((List Int) × Unit) × Unit))) :=
  (cond (decide (x48.1.2.2.2.2.2.2.2.1 > 0))
  (Option.bind (geti x48.1.2.2.2.1 (Go.IntKind.wrap .i64 (x48.1.2.2.2.2.2.2.2.1 - 1))) fun y49 =>
  (Option.bind x48.1.2.2.2.1[(Int.toNat (Go.IntKind.wrap .i64 (x48.1.2.2.2.2.2.2.2.1 - 1)))]? fun y50 =>
  (Option.bind (geti x48.1.2.2.2.1 x48.1.2.2.2.2.2.2.2.1) fun y51 =>
  (Option.bind x48.1.2.2.2.1[(Int.toNat x48.1.2.2.2.2.2.2.2.1)]? fun y52 =>
  (some (.inl ((x48.1.1, (x48.1.2.1, (x48.1.2.2.1, ((List.set x48.1.2.2.2.1 (Int.toNat x48.1.2.2.2.2.2.2.2.1) y50), (x48.1.2.2.2.2.1, (x48.1.2.2.2.2.2.1, (x48.1.2.2.2.2.2.2.1, ((Go.IntKind.wrap .i64 (x48.1.2.2.2.2.2.2.2.1 - 1)), ())))))))), ())))))))
  (some (.inr (.inl ((x48.1.1, (x48.1.2.1, (x48.1.2.2.1, (x48.1.2.2.2.1, (x48.1.2.2.2.2.1, (x48.1.2.2.2.2.2.1, (x48.1.2.2.2.2.2.2.1, ()))))))), ())))))
noncomputable def spec_l05Round.l18 (x19 : (((List Int) × ((List Int) × ((List Int) × ((List Int) × (Int × Unit))))) × Unit)) : Option ((((List Int) × ((List Int) × ((List Int) × ((List Int) × (Int × Unit))))) × Unit) ⊕ ((((List Int) × ((List Int) × Unit)) × Unit) ⊕ (((List Int) × Unit) × Unit))) :=
  (cond (decide (x19.1.2.2.2.2.1 < 64))
  (Option.bind (geti x19.1.2.2.2.1 4) fun y20 =>
  (Option.bind x19.1.2.2.2.1[(Int.toNat 4)]? fun y21 =>
  (Option.bind (geti x19.1.2.2.2.1 5) fun y22 =>
  (Option.bind x19.1.2.2.2.1[(Int.toNat 5)]? fun y23 =>
  (Option.bind (geti x19.1.2.2.2.1 6) fun y24 =>
  (Option.bind x19.1.2.2.2.1[(Int.toNat 6)]? fun y25 =>
  (Option.bind (geti x19.1.2.2.2.1 7) fun y26 =>
  (Option.bind x19.1.2.2.2.1[(Int.toNat 7)]? fun y27 =>
  (Option.bind (Go.Vi.spec_l05S.f (y21, (64, (2048, (33554432, (false, ())))))) fun y28 =>
  (Option.bind (geti x19.1.2.1 x19.1.2.2.2.2.1) fun y29 =>
  (Option.bind (geti x19.1.2.2.1 x19.1.2.2.2.2.1) fun y30 =>
  (Option.bind x19.1.2.2.1[(Int.toNat x19.1.2.2.2.2.1)]? fun y31 =>
  (Option.bind (geti x19.1.2.2.2.1 0) fun y32 =>
  (Option.bind x19.1.2.2.2.1[(Int.toNat 0)]? fun y33 =>
  (Option.bind (geti x19.1.2.2.2.1 1) fun y34 =>
  (Option.bind x19.1.2.2.2.1[(Int.toNat 1)]? fun y35 =>
  (Option.bind (geti x19.1.2.2.2.1 0) fun y36 =>
  (Option.bind x19.1.2.2.2.1[(Int.toNat 0)]? fun y37 =>
  (Option.bind (geti x19.1.2.2.2.1 2) fun y38 =>
  (Option.bind x19.1.2.2.2.1[(Int.toNat 2)]? fun y39 =>
  (Option.bind (geti x19.1.2.2.2.1 1) fun y40 =>
  (Option.bind x19.1.2.2.2.1[(Int.toNat 1)]? fun y41 =>
  (Option.bind (geti x19.1.2.2.2.1 2) fun y42 =>
  (Option.bind x19.1.2.2.2.1[(Int.toNat 2)]? fun y43 =>
  (Option.bind (geti x19.1.2.2.2.1 0) fun y44 =>
  (Option.bind x19.1.2.2.2.1[(Int.toNat 0)]? fun y45 =>
  (Option.bind (Go.Vi.spec_l05S.f (y45, (4, (8192, (4194304, (false, ())))))) fun y46 =>
  (Option.bind (iter spec_l05Round.l47 ((x19.1.1, (x19.1.2.1, (x19.1.2.2.1, (x19.1.2.2.2.1, (x19.1.2.2.2.2.1, ((Go.IntKind.wrap .u32 ((Go.IntKind.wrap .u32 ((Go.IntKind.wrap .u32 ((Go.IntKind.wrap .u32 (y27 + y28.1.1)) + (ibits .xor .u32 (ibits .and .u32 y21 y23) (ibits .and .u32 (Go.IntKind.wrap .u32 (4294967295 - y21)) y25)))) + y29)) + y31)), ((Go.IntKind.wrap .u32 (y46.1.1 + (ibits .xor .u32 (ibits .xor .u32 (ibits .and .u32 y33 y35) (ibits .and .u32 y37 y39)) (ibits .and .u32 y41 y43)))), (7, ())))))))), ())) fun y53 =>
  (match y53 with
  | .inl u54 => (Option.bind (geti u54.1.2.2.2.1 4) fun y56 =>
  (Option.bind u54.1.2.2.2.1[(Int.toNat 4)]? fun y57 =>
  (Option.bind (geti u54.1.2.2.2.1 4) fun y58 =>
  (Option.bind u54.1.2.2.2.1[(Int.toNat 4)]? fun y59 =>
  (Option.bind (geti (List.set u54.1.2.2.2.1 (Int.toNat 4) (Go.IntKind.wrap .u32 (y57 + u54.1.2.2.2.2.2.1))) 0) fun y60 =>
  (Option.bind (List.set u54.1.2.2.2.1 (Int.toNat 4) (Go.IntKind.wrap .u32 (y57 + u54.1.2.2.2.2.2.1)))[(Int.toNat 0)]? fun y61 =>
  (some (.inl ((u54.1.1, (u54.1.2.1, (u54.1.2.2.1, ((List.set (List.set u54.1.2.2.2.1 (Int.toNat 4) (Go.IntKind.wrap .u32 (y57 + u54.1.2.2.2.2.2.1))) (Int.toNat 0) (Go.IntKind.wrap .u32 (u54.1.2.2.2.2.2.1 + u54.1.2.2.2.2.2.2.1))), ((Go.IntKind.wrap .i64 (u54.1.2.2.2.2.1 + 1)), ()))))), ())))))))))
  | .inr w55 => (some (.inr (.inr w55))))))))))))))))))))))))))))))))
  (some (.inr (.inl ((x19.1.1, (x19.1.2.2.2.1, ())), ())))))
noncomputable def spec_l05Round.l65 (x66 : (((List Int) × ((List Int) × ((List Int) × (Int × Unit)))) × Unit)) : Option ((((List Int) × ((List Int) × ((List Int) × (Int × Unit)))) × Unit) ⊕ ((((List Int) × Unit) × Unit) ⊕ (((List Int) × Unit) × Unit))) :=
  (cond (decide (x66.1.2.2.2.1 < 8))
  (Option.bind (geti x66.1.1 x66.1.2.2.2.1) fun y67 =>
  (Option.bind (geti x66.1.2.1 x66.1.2.2.2.1) fun y68 =>
  (Option.bind x66.1.2.1[(Int.toNat x66.1.2.2.2.1)]? fun y69 =>
  (Option.bind (app 4 x66.1.2.2.1 [(Go.IntKind.wrap .u32 (y67 + y69))]) fun y70 =>
  (some (.inl ((x66.1.1, (x66.1.2.1, (y70, ((Go.IntKind.wrap .i64 (x66.1.2.2.2.1 + 1)), ())))), ())))))))
  (some (.inr (.inl ((x66.1.2.2.1, ()), ())))))
noncomputable def spec_l05Round.f (x : ((List Int) × ((List Int) × ((List UInt8) × Unit)))) : Option (((List Int) × Unit) × Unit) :=
  (Option.bind (Go.Vi.spec_l05Words.f (x.2.2.1, ())) fun y0 =>
  (Option.bind (iter spec_l05Round.l1 ((x.1, (x.2.1, (y0.1.1, (16, ())))), ())) fun y14 =>
  (match y14 with
  | .inl u15 => (Option.bind (app 4 [] u15.1.1) fun y17 =>
  (Option.bind (iter spec_l05Round.l18 ((u15.1.1, (u15.1.2.1, (u15.1.2.2.1, (y17, (0, ()))))), ())) fun y62 =>
  (match y62 with
  | .inl u63 => (Option.bind (iter spec_l05Round.l65 ((u63.1.1, (u63.1.2.1, ([], (0, ())))), ())) fun y71 =>
  (match y71 with
  | .inl u72 => (some ((u72.1.1, ()), ()))
  | .inr w73 => (some w73)))
  | .inr w64 => (some w64))))
  | .inr w16 => (some w16))))
noncomputable def spec_l05Bytes.l0 (x1 : (((List Int) × ((List Int) × (Int × Unit))) × Unit)) : Option ((((List Int) × ((List Int) × (Int × Unit))) × Unit) ⊕ ((((List Int) × Unit) × Unit) ⊕ (((List UInt8) × Unit) × Unit))) :=
  (cond (decide (x1.1.2.2.1 < (x1.1.1.length : Int)))
  (Option.bind (geti x1.1.1 x1.1.2.2.1) fun y2 =>
  (Option.bind (app 1 x1.1.2.1 [(Go.IntKind.wrap .u8 (Go.IntKind.wrap .u32 (Int.tdiv y2 16777216))), (Go.IntKind.wrap .u8 (Int.tmod (Go.IntKind.wrap .u32 (Int.tdiv y2 65536)) 256)), (Go.IntKind.wrap .u8 (Int.tmod (Go.IntKind.wrap .u32 (Int.tdiv y2 256)) 256)), (Go.IntKind.wrap .u8 (Int.tmod y2 256))]) fun y3 =>
  (some (.inl ((x1.1.1, (y3, ((Go.IntKind.wrap .i64 (x1.1.2.2.1 + 1)), ()))), ())))))
  (some (.inr (.inl ((x1.1.2.1, ()), ())))))
noncomputable def spec_l05Bytes.f (x : ((List Int) × Unit)) : Option (((List UInt8) × Unit) × Unit) :=
  (Option.bind (iter spec_l05Bytes.l0 ((x.1, ([], (0, ()))), ())) fun y4 =>
  (match y4 with
  | .inl u5 => (some (((ofBytes u5.1.1), ()), ()))
  | .inr w6 => (some w6)))
noncomputable def spec_HashEnd.l2 (x3 : ((Unit × ((List Int) × Unit)) × (((List UInt8) × ((List UInt8) × (Int × Unit))) × Unit))) : Option (((Unit × ((List Int) × Unit)) × (((List UInt8) × ((List UInt8) × (Int × Unit))) × Unit)) ⊕ (((Unit × ((List Int) × Unit)) × (((List UInt8) × ((List UInt8) × (Int × Unit))) × Unit)) ⊕ (((List UInt8) × Unit) × Unit))) :=
  (cond (!(decide ((Int.tmod (x3.1.2.1.length : Int) 64) = 56)))
  (Option.bind (app 1 x3.1.2.1 [0]) fun y4 =>
  (some (.inl (((), (y4, ())), (x3.2.1, ())))))
  (some (.inr (.inl (((), (x3.1.2.1, ())), (x3.2.1, ()))))))
noncomputable def spec_HashEnd.l10 (x11 : ((Unit × ((List Int) × (Int × (Int × (Int × (Int × Unit)))))) × (((List UInt8) × ((List UInt8) × (Int × Unit))) × Unit))) : Option (((Unit × ((List Int) × (Int × (Int × (Int × (Int × Unit)))))) × (((List UInt8) × ((List UInt8) × (Int × Unit))) × Unit)) ⊕ (((Unit × ((List Int) × (Int × (Int × (Int × Unit))))) × (((List UInt8) × ((List UInt8) × (Int × Unit))) × Unit)) ⊕ (((List UInt8) × Unit) × Unit))) :=
  (cond (decide (x11.1.2.2.2.2.2.1 < x11.1.2.2.2.1))
  (some (.inl (((), (x11.1.2.1, (x11.1.2.2.1, (x11.1.2.2.2.1, ((Go.IntKind.wrap .i64 (Int.tdiv x11.1.2.2.2.2.1 256)), ((Go.IntKind.wrap .i64 (x11.1.2.2.2.2.2.1 + 1)), ())))))), (x11.2.1, ()))))
  (some (.inr (.inl (((), (x11.1.2.1, (x11.1.2.2.1, (x11.1.2.2.2.1, (x11.1.2.2.2.2.1, ()))))), (x11.2.1, ()))))))
noncomputable def spec_HashEnd.l8 (x9 : ((Unit × ((List Int) × (Int × (Int × Unit)))) × (((List UInt8) × ((List UInt8) × (Int × Unit))) × Unit))) : Option (((Unit × ((List Int) × (Int × (Int × Unit)))) × (((List UInt8) × ((List UInt8) × (Int × Unit))) × Unit)) ⊕ (((Unit × ((List Int) × Unit)) × (((List UInt8) × ((List UInt8) × (Int × Unit))) × Unit)) ⊕ (((List UInt8) × Unit) × Unit))) :=
  (cond (decide (x9.1.2.2.2.1 ≥ 0))
  (Option.bind (iter spec_HashEnd.l10 (((), (x9.1.2.1, (x9.1.2.2.1, (x9.1.2.2.2.1, (x9.1.2.2.1, (0, ())))))), (x9.2.1, ()))) fun y12 =>
  (match y12 with
  | .inl u13 => (Option.bind (app 1 u13.1.2.1 [(Go.IntKind.wrap .u8 (Int.tmod u13.1.2.2.2.2.1 256))]) fun y15 =>
  (some (.inl (((), (y15, (u13.1.2.2.1, ((Go.IntKind.wrap .i64 (u13.1.2.2.2.1 - 1)), ())))), (u13.2.1, ())))))
  | .inr w14 => (some (.inr (.inr w14)))))
  (some (.inr (.inl (((), (x9.1.2.1, ())), (x9.2.1, ()))))))
noncomputable def spec_HashEnd.l21 (x22 : (((List Int) × ((List Int) × ((List Int) × (Int × Unit)))) × Unit)) : Option ((((List Int) × ((List Int) × ((List Int) × (Int × Unit)))) × Unit) ⊕ ((((List Int) × Unit) × Unit) ⊕ (((List UInt8) × Unit) × Unit))) :=
  (cond (decide (x22.1.2.2.2.1 < (x22.1.1.length : Int)))
  (Option.bind (slc x22.1.1 x22.1.2.2.2.1 (Go.IntKind.wrap .i64 (x22.1.2.2.2.1 + 64))) fun y23 =>
  (Option.bind (Go.Vi.spec_l05Round.f (x22.1.2.1, (x22.1.2.2.1, ((ofBytes (List.drop (Int.toNat x22.1.2.2.2.1) (List.take (Int.toNat (Go.IntKind.wrap .i64 (x22.1.2.2.2.1 + 64))) x22.1.1))), ())))) fun y24 =>
  (some (.inl ((x22.1.1, (y24.1.1, (x22.1.2.2.1, ((Go.IntKind.wrap .i64 (x22.1.2.2.2.1 + 64)), ())))), ())))))
  (some (.inr (.inl ((x22.1.2.1, ()), ())))))
noncomputable def spec_HashEnd.f (x : (((List UInt8) × ((List UInt8) × (Int × Unit))) × Unit)) : Option (((List UInt8) × Unit) × Unit) :=
  (Option.bind (Go.Vi.spec_HasherOk.f (x.1, ())) fun y0 =>
  (cond (!y0.1.1)
  (some (([], ()), ()))
  (Option.bind (app 1 (toBytes x.1.2.1) [128]) fun y1 =>
  (Option.bind (iter spec_HashEnd.l2 (((), (y1, ())), (x.1, ()))) fun y5 =>
  (match y5 with
  | .inl u6 => (Option.bind (iter spec_HashEnd.l8 (((), (u6.1.2.1, ((Go.IntKind.wrap .i64 (8 * u6.2.1.2.2.1)), (7, ())))), (u6.2.1, ()))) fun y16 =>
  (match y16 with
  | .inl u17 => (Option.bind (Go.Vi.spec_l05Words.f (u17.2.1.1, ())) fun y19 =>
  (Option.bind (Go.Vi.spec_l05K.f ()) fun y20 =>
  (Option.bind (iter spec_HashEnd.l21 ((u17.1.2.1, (y19.1.1, (y20.1.1, (0, ())))), ())) fun y25 =>
  (match y25 with
  | .inl u26 => (Option.bind (Go.Vi.spec_l05Bytes.f (u26.1.1, ())) fun y28 =>
  (some ((y28.1.1, ()), ())))
  | .inr w27 => (some w27)))))
  | .inr w18 => (some w18)))
  | .inr w7 => (some w7))))))
noncomputable def spec_HashMore.l7 (x8 : (((List UInt8) × (Unit × (Unit × ((List Int) × ((List Int) × ((List UInt8) × (Int × Unit))))))) × (((List UInt8) × ((List UInt8) × (Int × Unit))) × (((List UInt8) × ((List UInt8) × (Int × Unit))) × Unit)))) : Option ((((List UInt8) × (Unit × (Unit × ((List Int) × ((List Int) × ((List UInt8) × (Int × Unit))))))) × (((List UInt8) × ((List UInt8) × (Int × Unit))) × (((List UInt8) × ((List UInt8) × (Int × Unit))) × Unit))) ⊕ ((((List UInt8) × (Unit × (Unit × ((List Int) × ((List UInt8) × (Int × Unit)))))) × (((List UInt8) × ((List UInt8) × (Int × Unit))) × (((List UInt8) × ((List UInt8) × (Int × Unit))) × Unit))) ⊕ ((((List UInt8) × ((List UInt8) × (Int × Unit))) × Unit) × Unit))) :=
  (cond (decide ((Go.IntKind.wrap .i64 (x8.1.2.2.2.2.2.2.1 + 64)) ≤ (x8.1.2.2.2.2.2.1.length : Int)))
  (Option.bind (slc x8.1.2.2.2.2.2.1 x8.1.2.2.2.2.2.2.1 (Go.IntKind.wrap .i64 (x8.1.2.2.2.2.2.2.1 + 64))) fun y9 =>
  (Option.bind (Go.Vi.spec_l05Round.f (x8.1.2.2.2.1, (x8.1.2.2.2.2.1, (y9, ())))) fun y10 =>
  (some (.inl ((x8.1.1, ((), ((), (y10.1.1, (x8.1.2.2.2.2.1, (x8.1.2.2.2.2.2.1, ((Go.IntKind.wrap .i64 (x8.1.2.2.2.2.2.2.1 + 64)), ()))))))), (x8.2.1, (x8.2.2.1, ())))))))
  (some (.inr (.inl ((x8.1.1, ((), ((), (x8.1.2.2.2.1, (x8.1.2.2.2.2.2.1, (x8.1.2.2.2.2.2.2.1, ())))))), (x8.2.1, (x8.2.2.1, ())))))))
noncomputable def spec_HashMore.f (x : (((List UInt8) × ((List UInt8) × (Int × Unit))) × ((List UInt8) × Unit))) : Option ((((List UInt8) × ((List UInt8) × (Int × Unit))) × Unit) × Unit) :=
  (Option.bind (show Option ((((List UInt8) × (Unit × (Unit × (Bool × Unit)))) × (((List UInt8) × ((List UInt8) × (Int × Unit))) × (((List UInt8) × ((List UInt8) × (Int × Unit))) × Unit))) ⊕ (Unit ⊕ ((((List UInt8) × ((List UInt8) × (Int × Unit))) × Unit) × Unit))) from (Option.bind (Go.Vi.spec_HasherOk.f (x.1, ())) fun y0 =>
  (cond (!y0.1.1)
  (some (.inl ((x.2.1, ((), ((), (true, ())))), (x.1, (([], ([], (0, ()))), ())))))
  (some (.inl ((x.2.1, ((), ((), ((decide ((Go.IntKind.wrap .i64 (x.1.2.2.1 + (x.2.1.length : Int))) > 1000000000)), ())))), (x.1, (([], ([], (0, ()))), ())))))))) fun y1 =>
  (match y1 with
  | .inl u2 => (cond u2.1.2.2.2.1
  (some ((u2.2.1, ()), ()))
  (Option.bind (Go.Vi.spec_l05Words.f (u2.2.1.1, ())) fun y4 =>
  (Option.bind (Go.Vi.spec_l05K.f ()) fun y5 =>
  (Option.bind (cat u2.2.1.2.1 u2.1.1) fun y6 =>
  (Option.bind (iter spec_HashMore.l7 ((u2.1.1, ((), ((), (y4.1.1, (y5.1.1, (y6, (0, ()))))))), (u2.2.1, (u2.2.2.1, ())))) fun y11 =>
  (match y11 with
  | .inl u12 => (Option.bind (Go.Vi.spec_l05Bytes.f (u12.1.2.2.2.1, ())) fun y14 =>
  (Option.bind (slc u12.1.2.2.2.2.1 u12.1.2.2.2.2.2.1 (u12.1.2.2.2.2.1.length : Int)) fun y15 =>
  (some (((y14.1.1, (y15, ((Go.IntKind.wrap .i64 (u12.2.1.2.2.1 + (u12.1.1.length : Int))), ()))), ()), ()))))
  | .inr w13 => (some w13)))))))
  | .inr w3 => (match w3 with
  | .inl u16 => none
  | .inr w17 => (some w17))))
noncomputable def spec_l05First.f (x : Unit) : Option (((List Int) × Unit) × Unit) :=
  (some (([1779033703, 3144134277, 1013904242, 2773480762, 1359893119, 2600822924, 528734635, 1541459225], ()), ()))
noncomputable def spec_HasherNew.f (x : Unit) : Option ((((List UInt8) × ((List UInt8) × (Int × Unit))) × Unit) × Unit) :=
  (Option.bind (Go.Vi.spec_l05First.f ()) fun y0 =>
  (Option.bind (Go.Vi.spec_l05Bytes.f (y0.1.1, ())) fun y1 =>
  (some (((y1.1.1, ([], (0, ()))), ()), ()))))
noncomputable def spec_DigestOf.f (x : ((List UInt8) × Unit)) : Option (((List UInt8) × Unit) × Unit) :=
  (Option.bind (Go.Vi.spec_HasherNew.f ()) fun y0 =>
  (Option.bind (Go.Vi.spec_HashMore.f (y0.1.1, (x.1, ()))) fun y1 =>
  (Option.bind (Go.Vi.spec_HashEnd.f (y1.1.1, ())) fun y2 =>
  (some ((y2.1.1, ()), ())))))
noncomputable def spec_l06Byte.f (x : (Int × Unit)) : Option (((List UInt8) × Unit) × Unit) :=
  (cond (decide ((Int.tmod x.1 256) < 0))
  (some (((ofBytes [(Go.IntKind.wrap .u8 (Go.IntKind.wrap .i64 ((Int.tmod x.1 256) + 256)))]), ()), ()))
  (some (((ofBytes [(Go.IntKind.wrap .u8 (Int.tmod x.1 256))]), ()), ())))
noncomputable def spec_l07Lanes.l2 (x3 : (((List UInt8) × ((List Int) × (Int × (Int × (Int × Unit))))) × Unit)) : Option ((((List UInt8) × ((List Int) × (Int × (Int × (Int × Unit))))) × Unit) ⊕ ((((List UInt8) × ((List Int) × (Int × (Int × Unit)))) × Unit) ⊕ (((List Int) × Unit) × Unit))) :=
  (cond (decide (x3.1.2.2.2.2.1 ≥ 0))
  (Option.bind (geti x3.1.1 (Go.IntKind.wrap .i64 (x3.1.2.2.1 + x3.1.2.2.2.2.1))) fun y4 =>
  (some (.inl ((x3.1.1, (x3.1.2.1, (x3.1.2.2.1, ((Go.IntKind.wrap .u64 ((Go.IntKind.wrap .u64 (x3.1.2.2.2.1 * 256)) + (Go.IntKind.wrap .u64 ((UInt8.toNat y4) : Int)))), ((Go.IntKind.wrap .i64 (x3.1.2.2.2.2.1 - 1)), ()))))), ()))))
  (some (.inr (.inl ((x3.1.1, (x3.1.2.1, (x3.1.2.2.1, (x3.1.2.2.2.1, ())))), ())))))
noncomputable def spec_l07Lanes.l0 (x1 : (((List UInt8) × ((List Int) × (Int × Unit))) × Unit)) : Option ((((List UInt8) × ((List Int) × (Int × Unit))) × Unit) ⊕ ((((List Int) × Unit) × Unit) ⊕ (((List Int) × Unit) × Unit))) :=
  (cond (decide ((Go.IntKind.wrap .i64 (x1.1.2.2.1 + 8)) ≤ (x1.1.1.length : Int)))
  (Option.bind (iter spec_l07Lanes.l2 ((x1.1.1, (x1.1.2.1, (x1.1.2.2.1, (0, (7, ()))))), ())) fun y5 =>
  (match y5 with
  | .inl u6 => (Option.bind (app 8 u6.1.2.1 [u6.1.2.2.2.1]) fun y8 =>
  (some (.inl ((u6.1.1, (y8, ((Go.IntKind.wrap .i64 (u6.1.2.2.1 + 8)), ()))), ()))))
  | .inr w7 => (some (.inr (.inr w7)))))
  (some (.inr (.inl ((x1.1.2.1, ()), ())))))
noncomputable def spec_l07Lanes.f (x : ((List UInt8) × Unit)) : Option (((List Int) × Unit) × Unit) :=
  (Option.bind (iter spec_l07Lanes.l0 ((x.1, ([], (0, ()))), ())) fun y9 =>
  (match y9 with
  | .inl u10 => (some ((u10.1.1, ()), ()))
  | .inr w11 => (some w11)))
noncomputable def spec_l07Turns.l0 (x1 : (((List Int) × (Int × (Int × (Int × Unit)))) × Unit)) : Option ((((List Int) × (Int × (Int × (Int × Unit)))) × Unit) ⊕ ((((List Int) × Unit) × Unit) ⊕ (((List Int) × Unit) × Unit))) :=
  (cond (decide (x1.1.2.2.2.1 < 24))
  (Option.bind (geti x1.1.1 (Go.IntKind.wrap .i64 (x1.1.2.1 + (Go.IntKind.wrap .i64 (5 * x1.1.2.2.1))))) fun y2 =>
  (Option.bind x1.1.1[(Int.toNat (Go.IntKind.wrap .i64 (x1.1.2.1 + (Go.IntKind.wrap .i64 (5 * x1.1.2.2.1)))))]? fun y3 =>
  (some (.inl (((List.set x1.1.1 (Int.toNat (Go.IntKind.wrap .i64 (x1.1.2.1 + (Go.IntKind.wrap .i64 (5 * x1.1.2.2.1))))) (Int.tmod (Go.IntKind.wrap .i64 (Int.tdiv (Go.IntKind.wrap .i64 ((Go.IntKind.wrap .i64 (x1.1.2.2.2.1 + 1)) * (Go.IntKind.wrap .i64 (x1.1.2.2.2.1 + 2)))) 2)) 64)), (x1.1.2.2.1, ((Int.tmod (Go.IntKind.wrap .i64 ((Go.IntKind.wrap .i64 (2 * x1.1.2.1)) + (Go.IntKind.wrap .i64 (3 * x1.1.2.2.1)))) 5), ((Go.IntKind.wrap .i64 (x1.1.2.2.2.1 + 1)), ())))), ())))))
  (some (.inr (.inl ((x1.1.1, ()), ())))))
noncomputable def spec_l07Turns.f (x : Unit) : Option (((List Int) × Unit) × Unit) :=
  (Option.bind (iter spec_l07Turns.l0 (((List.replicate (Int.toNat 25) 0), (1, (0, (0, ())))), ())) fun y4 =>
  (match y4 with
  | .inl u5 => (some ((u5.1.1, ()), ()))
  | .inr w6 => (some w6)))
noncomputable def spec_l07Rounds.l2 (x3 : (((List Int) × (Int × (Int × (Int × (Int × (Int × Unit)))))) × Unit)) : Option ((((List Int) × (Int × (Int × (Int × (Int × (Int × Unit)))))) × Unit) ⊕ ((((List Int) × (Int × (Int × (Int × Unit)))) × Unit) ⊕ (((List Int) × Unit) × Unit))) :=
  (cond (decide (x3.1.2.2.2.2.2.1 < 7))
  (Option.bind (show Option ((((List Int) × (Int × (Int × (Int × (Int × (Int × Unit)))))) × Unit) ⊕ (Unit ⊕ (((List Int) × Unit) × Unit))) from (cond (decide ((Int.tmod x3.1.2.1 2) = 1))
  (some (.inl ((x3.1.1, (x3.1.2.1, (x3.1.2.2.1, ((Go.IntKind.wrap .u64 (x3.1.2.2.2.1 + x3.1.2.2.2.2.1)), (x3.1.2.2.2.2.1, (x3.1.2.2.2.2.2.1, ())))))), ())))
  (some (.inl ((x3.1.1, (x3.1.2.1, (x3.1.2.2.1, (x3.1.2.2.2.1, (x3.1.2.2.2.2.1, (x3.1.2.2.2.2.2.1, ())))))), ()))))) fun y4 =>
  (match y4 with
  | .inl u5 => (cond (decide ((Go.IntKind.wrap .i64 (u5.1.2.1 * 2)) ≥ 256))
  (some (.inl ((u5.1.1, ((ibits .xor .i64 (Go.IntKind.wrap .i64 ((Go.IntKind.wrap .i64 (u5.1.2.1 * 2)) - 256)) 113), (u5.1.2.2.1, (u5.1.2.2.2.1, ((Go.IntKind.wrap .u64 ((Go.IntKind.wrap .u64 (u5.1.2.2.2.2.1 * u5.1.2.2.2.2.1)) * 2)), ((Go.IntKind.wrap .i64 (u5.1.2.2.2.2.2.1 + 1)), ())))))), ())))
  (some (.inl ((u5.1.1, ((Go.IntKind.wrap .i64 (u5.1.2.1 * 2)), (u5.1.2.2.1, (u5.1.2.2.2.1, ((Go.IntKind.wrap .u64 ((Go.IntKind.wrap .u64 (u5.1.2.2.2.2.1 * u5.1.2.2.2.2.1)) * 2)), ((Go.IntKind.wrap .i64 (u5.1.2.2.2.2.2.1 + 1)), ())))))), ()))))
  | .inr w6 => (match w6 with
  | .inl u7 => none
  | .inr w8 => (some (.inr (.inr w8))))))
  (some (.inr (.inl ((x3.1.1, (x3.1.2.1, (x3.1.2.2.1, (x3.1.2.2.2.1, ())))), ())))))
noncomputable def spec_l07Rounds.l0 (x1 : (((List Int) × (Int × (Int × Unit))) × Unit)) : Option ((((List Int) × (Int × (Int × Unit))) × Unit) ⊕ ((((List Int) × Unit) × Unit) ⊕ (((List Int) × Unit) × Unit))) :=
  (cond (decide (x1.1.2.2.1 < 24))
  (Option.bind (iter spec_l07Rounds.l2 ((x1.1.1, (x1.1.2.1, (x1.1.2.2.1, (0, (1, (0, ())))))), ())) fun y9 =>
  (match y9 with
  | .inl u10 => (Option.bind (app 8 u10.1.1 [u10.1.2.2.2.1]) fun y12 =>
  (some (.inl ((y12, (u10.1.2.1, ((Go.IntKind.wrap .i64 (u10.1.2.2.1 + 1)), ()))), ()))))
  | .inr w11 => (some (.inr (.inr w11)))))
  (some (.inr (.inl ((x1.1.1, ()), ())))))
noncomputable def spec_l07Rounds.f (x : Unit) : Option (((List Int) × Unit) × Unit) :=
  (Option.bind (iter spec_l07Rounds.l0 (([], (1, (0, ()))), ())) fun y13 =>
  (match y13 with
  | .inl u14 => (some ((u14.1.1, ()), ()))
  | .inr w15 => (some w15)))
noncomputable def spec_l07Left.l0 (x1 : ((Int × (Int × (Int × (Int × Unit)))) × Unit)) : Option (((Int × (Int × (Int × (Int × Unit)))) × Unit) ⊕ (((Int × (Int × (Int × Unit))) × Unit) ⊕ ((Int × Unit) × Unit))) :=
  (cond (decide (x1.1.2.2.2.1 < x1.1.2.1))
  (some (.inl ((x1.1.1, (x1.1.2.1, ((Go.IntKind.wrap .u64 (x1.1.2.2.1 * 2)), ((Go.IntKind.wrap .i64 (x1.1.2.2.2.1 + 1)), ())))), ())))
  (some (.inr (.inl ((x1.1.1, (x1.1.2.1, (x1.1.2.2.1, ()))), ())))))
noncomputable def spec_l07Left.f (x : (Int × (Int × Unit))) : Option ((Int × Unit) × Unit) :=
  (Option.bind (iter spec_l07Left.l0 ((x.1, (x.2.1, (1, (0, ())))), ())) fun y2 =>
  (match y2 with
  | .inl u3 => (cond (decide (u3.1.2.1 = 0))
  (some ((u3.1.1, ()), ()))
  (cond (decide (u3.1.2.2.1 = 0))
  none
  (cond (decide ((Go.IntKind.wrap .u64 ((Go.IntKind.wrap .u64 (Int.tdiv 9223372036854775808 u3.1.2.2.1)) * 2)) = 0))
  none
  (some (((Go.IntKind.wrap .u64 ((Go.IntKind.wrap .u64 (u3.1.1 * u3.1.2.2.1)) + (Go.IntKind.wrap .u64 (Int.tdiv u3.1.1 (Go.IntKind.wrap .u64 ((Go.IntKind.wrap .u64 (Int.tdiv 9223372036854775808 u3.1.2.2.1)) * 2)))))), ()), ())))))
  | .inr w4 => (some w4)))
noncomputable def spec_l07Round.l0 (x1 : (((List Int) × ((List Int) × (Int × ((List Int) × (Int × Unit))))) × Unit)) : Option ((((List Int) × ((List Int) × (Int × ((List Int) × (Int × Unit))))) × Unit) ⊕ ((((List Int) × ((List Int) × (Int × ((List Int) × Unit)))) × Unit) ⊕ (((List Int) × Unit) × Unit))) :=
  (cond (decide (x1.1.2.2.2.2.1 < 5))
  (Option.bind (geti x1.1.1 x1.1.2.2.2.2.1) fun y2 =>
  (Option.bind (geti x1.1.1 (Go.IntKind.wrap .i64 (x1.1.2.2.2.2.1 + 5))) fun y3 =>
  (Option.bind (geti x1.1.1 (Go.IntKind.wrap .i64 (x1.1.2.2.2.2.1 + 10))) fun y4 =>
  (Option.bind (geti x1.1.1 (Go.IntKind.wrap .i64 (x1.1.2.2.2.2.1 + 15))) fun y5 =>
  (Option.bind (geti x1.1.1 (Go.IntKind.wrap .i64 (x1.1.2.2.2.2.1 + 20))) fun y6 =>
  (Option.bind (geti x1.1.2.2.2.1 x1.1.2.2.2.2.1) fun y7 =>
  (Option.bind x1.1.2.2.2.1[(Int.toNat x1.1.2.2.2.2.1)]? fun y8 =>
  (some (.inl ((x1.1.1, (x1.1.2.1, (x1.1.2.2.1, ((List.set x1.1.2.2.2.1 (Int.toNat x1.1.2.2.2.2.1) (ibits .xor .u64 (ibits .xor .u64 (ibits .xor .u64 (ibits .xor .u64 y2 y3) y4) y5) y6)), ((Go.IntKind.wrap .i64 (x1.1.2.2.2.2.1 + 1)), ()))))), ()))))))))))
  (some (.inr (.inl ((x1.1.1, (x1.1.2.1, (x1.1.2.2.1, (x1.1.2.2.2.1, ())))), ())))))
noncomputable def spec_l07Round.l19 (x20 : (((List Int) × ((List Int) × (Int × ((List Int) × ((List Int) × (Int × (Int × (Int × Unit)))))))) × Unit)) : Option ((((List Int) × ((List Int) × (Int × ((List Int) × ((List Int) × (Int × (Int × (Int × Unit)))))))) × Unit) ⊕ ((((List Int) × ((List Int) × (Int × ((List Int) × ((List Int) × (Int × Unit)))))) × Unit) ⊕ (((List Int) × Unit) × Unit))) :=
  (cond (decide (x20.1.2.2.2.2.2.2.2.1 < 5))
  (Option.bind (geti x20.1.1 (Go.IntKind.wrap .i64 (x20.1.2.2.2.2.2.1 + (Go.IntKind.wrap .i64 (5 * x20.1.2.2.2.2.2.2.2.1))))) fun y21 =>
  (Option.bind (geti x20.1.2.1 (Go.IntKind.wrap .i64 (x20.1.2.2.2.2.2.1 + (Go.IntKind.wrap .i64 (5 * x20.1.2.2.2.2.2.2.2.1))))) fun y22 =>
  (Option.bind (Go.Vi.spec_l07Left.f ((ibits .xor .u64 y21 x20.1.2.2.2.2.2.2.1), (y22, ()))) fun y23 =>
  (Option.bind (geti x20.1.2.2.2.2.1 (Go.IntKind.wrap .i64 (x20.1.2.2.2.2.2.2.2.1 + (Go.IntKind.wrap .i64 (5 * (Int.tmod (Go.IntKind.wrap .i64 ((Go.IntKind.wrap .i64 (2 * x20.1.2.2.2.2.2.1)) + (Go.IntKind.wrap .i64 (3 * x20.1.2.2.2.2.2.2.2.1)))) 5)))))) fun y24 =>
  (Option.bind x20.1.2.2.2.2.1[(Int.toNat (Go.IntKind.wrap .i64 (x20.1.2.2.2.2.2.2.2.1 + (Go.IntKind.wrap .i64 (5 * (Int.tmod (Go.IntKind.wrap .i64 ((Go.IntKind.wrap .i64 (2 * x20.1.2.2.2.2.2.1)) + (Go.IntKind.wrap .i64 (3 * x20.1.2.2.2.2.2.2.2.1)))) 5))))))]? fun y25 =>
  (some (.inl ((x20.1.1, (x20.1.2.1, (x20.1.2.2.1, (x20.1.2.2.2.1, ((List.set x20.1.2.2.2.2.1 (Int.toNat (Go.IntKind.wrap .i64 (x20.1.2.2.2.2.2.2.2.1 + (Go.IntKind.wrap .i64 (5 * (Int.tmod (Go.IntKind.wrap .i64 ((Go.IntKind.wrap .i64 (2 * x20.1.2.2.2.2.2.1)) + (Go.IntKind.wrap .i64 (3 * x20.1.2.2.2.2.2.2.2.1)))) 5)))))) y23.1.1), (x20.1.2.2.2.2.2.1, (x20.1.2.2.2.2.2.2.1, ((Go.IntKind.wrap .i64 (x20.1.2.2.2.2.2.2.2.1 + 1)), ())))))))), ()))))))))
  (some (.inr (.inl ((x20.1.1, (x20.1.2.1, (x20.1.2.2.1, (x20.1.2.2.2.1, (x20.1.2.2.2.2.1, (x20.1.2.2.2.2.2.1, ())))))), ())))))
noncomputable def spec_l07Round.l12 (x13 : (((List Int) × ((List Int) × (Int × ((List Int) × ((List Int) × (Int × Unit)))))) × Unit)) : Option ((((List Int) × ((List Int) × (Int × ((List Int) × ((List Int) × (Int × Unit)))))) × Unit) ⊕ (((Int × ((List Int) × Unit)) × Unit) ⊕ (((List Int) × Unit) × Unit))) :=
  (cond (decide (x13.1.2.2.2.2.2.1 < 5))
  (Option.bind (geti x13.1.2.2.2.1 (Int.tmod (Go.IntKind.wrap .i64 (x13.1.2.2.2.2.2.1 + 4)) 5)) fun y14 =>
  (Option.bind x13.1.2.2.2.1[(Int.toNat (Int.tmod (Go.IntKind.wrap .i64 (x13.1.2.2.2.2.2.1 + 4)) 5))]? fun y15 =>
  (Option.bind (geti x13.1.2.2.2.1 (Int.tmod (Go.IntKind.wrap .i64 (x13.1.2.2.2.2.2.1 + 1)) 5)) fun y16 =>
  (Option.bind x13.1.2.2.2.1[(Int.toNat (Int.tmod (Go.IntKind.wrap .i64 (x13.1.2.2.2.2.2.1 + 1)) 5))]? fun y17 =>
  (Option.bind (Go.Vi.spec_l07Left.f (y17, (1, ()))) fun y18 =>
  (Option.bind (iter spec_l07Round.l19 ((x13.1.1, (x13.1.2.1, (x13.1.2.2.1, (x13.1.2.2.2.1, (x13.1.2.2.2.2.1, (x13.1.2.2.2.2.2.1, ((ibits .xor .u64 y15 y18.1.1), (0, ())))))))), ())) fun y26 =>
  (match y26 with
  | .inl u27 => (some (.inl ((u27.1.1, (u27.1.2.1, (u27.1.2.2.1, (u27.1.2.2.2.1, (u27.1.2.2.2.2.1, ((Go.IntKind.wrap .i64 (u27.1.2.2.2.2.2.1 + 1)), ())))))), ())))
  | .inr w28 => (some (.inr (.inr w28))))))))))
  (some (.inr (.inl ((x13.1.2.2.1, (x13.1.2.2.2.2.1, ())), ())))))
noncomputable def spec_l07Round.l34 (x35 : ((Int × ((List Int) × ((List Int) × (Int × (Int × Unit))))) × Unit)) : Option (((Int × ((List Int) × ((List Int) × (Int × (Int × Unit))))) × Unit) ⊕ (((Int × ((List Int) × ((List Int) × (Int × Unit)))) × Unit) ⊕ (((List Int) × Unit) × Unit))) :=
  (cond (decide (x35.1.2.2.2.2.1 < 5))
  (Option.bind (geti x35.1.2.1 (Go.IntKind.wrap .i64 (x35.1.2.2.2.1 + (Go.IntKind.wrap .i64 (5 * x35.1.2.2.2.2.1))))) fun y36 =>
  (Option.bind x35.1.2.1[(Int.toNat (Go.IntKind.wrap .i64 (x35.1.2.2.2.1 + (Go.IntKind.wrap .i64 (5 * x35.1.2.2.2.2.1)))))]? fun y37 =>
  (Option.bind (geti x35.1.2.1 (Go.IntKind.wrap .i64 ((Int.tmod (Go.IntKind.wrap .i64 (x35.1.2.2.2.1 + 1)) 5) + (Go.IntKind.wrap .i64 (5 * x35.1.2.2.2.2.1))))) fun y38 =>
  (Option.bind x35.1.2.1[(Int.toNat (Go.IntKind.wrap .i64 ((Int.tmod (Go.IntKind.wrap .i64 (x35.1.2.2.2.1 + 1)) 5) + (Go.IntKind.wrap .i64 (5 * x35.1.2.2.2.2.1)))))]? fun y39 =>
  (Option.bind (geti x35.1.2.1 (Go.IntKind.wrap .i64 ((Int.tmod (Go.IntKind.wrap .i64 (x35.1.2.2.2.1 + 2)) 5) + (Go.IntKind.wrap .i64 (5 * x35.1.2.2.2.2.1))))) fun y40 =>
  (Option.bind x35.1.2.1[(Int.toNat (Go.IntKind.wrap .i64 ((Int.tmod (Go.IntKind.wrap .i64 (x35.1.2.2.2.1 + 2)) 5) + (Go.IntKind.wrap .i64 (5 * x35.1.2.2.2.2.1)))))]? fun y41 =>
  (Option.bind (geti x35.1.2.2.1 (Go.IntKind.wrap .i64 (x35.1.2.2.2.1 + (Go.IntKind.wrap .i64 (5 * x35.1.2.2.2.2.1))))) fun y42 =>
  (Option.bind x35.1.2.2.1[(Int.toNat (Go.IntKind.wrap .i64 (x35.1.2.2.2.1 + (Go.IntKind.wrap .i64 (5 * x35.1.2.2.2.2.1)))))]? fun y43 =>
  (some (.inl ((x35.1.1, (x35.1.2.1, ((List.set x35.1.2.2.1 (Int.toNat (Go.IntKind.wrap .i64 (x35.1.2.2.2.1 + (Go.IntKind.wrap .i64 (5 * x35.1.2.2.2.2.1))))) (ibits .xor .u64 y37 (ibits .and .u64 (Go.IntKind.wrap .u64 (18446744073709551615 - y39)) y41))), (x35.1.2.2.2.1, ((Go.IntKind.wrap .i64 (x35.1.2.2.2.2.1 + 1)), ()))))), ())))))))))))
  (some (.inr (.inl ((x35.1.1, (x35.1.2.1, (x35.1.2.2.1, (x35.1.2.2.2.1, ())))), ())))))
noncomputable def spec_l07Round.l32 (x33 : ((Int × ((List Int) × ((List Int) × (Int × Unit)))) × Unit)) : Option (((Int × ((List Int) × ((List Int) × (Int × Unit)))) × Unit) ⊕ (((Int × ((List Int) × Unit)) × Unit) ⊕ (((List Int) × Unit) × Unit))) :=
  (cond (decide (x33.1.2.2.2.1 < 5))
  (Option.bind (iter spec_l07Round.l34 ((x33.1.1, (x33.1.2.1, (x33.1.2.2.1, (x33.1.2.2.2.1, (0, ()))))), ())) fun y44 =>
  (match y44 with
  | .inl u45 => (some (.inl ((u45.1.1, (u45.1.2.1, (u45.1.2.2.1, ((Go.IntKind.wrap .i64 (u45.1.2.2.2.1 + 1)), ())))), ())))
  | .inr w46 => (some (.inr (.inr w46)))))
  (some (.inr (.inl ((x33.1.1, (x33.1.2.2.1, ())), ())))))
noncomputable def spec_l07Round.f (x : ((List Int) × ((List Int) × (Int × Unit)))) : Option (((List Int) × Unit) × Unit) :=
  (Option.bind (iter spec_l07Round.l0 ((x.1, (x.2.1, (x.2.2.1, ((List.replicate (Int.toNat 5) 0), (0, ()))))), ())) fun y9 =>
  (match y9 with
  | .inl u10 => (Option.bind (iter spec_l07Round.l12 ((u10.1.1, (u10.1.2.1, (u10.1.2.2.1, (u10.1.2.2.2.1, ((List.replicate (Int.toNat 25) 0), (0, ())))))), ())) fun y29 =>
  (match y29 with
  | .inl u30 => (Option.bind (iter spec_l07Round.l32 ((u30.1.1, (u30.1.2.1, ((List.replicate (Int.toNat 25) 0), (0, ())))), ())) fun y47 =>
  (match y47 with
  | .inl u48 => (Option.bind (geti u48.1.2.1 0) fun y50 =>
  (Option.bind u48.1.2.1[(Int.toNat 0)]? fun y51 =>
  (Option.bind (geti u48.1.2.1 0) fun y52 =>
  (Option.bind u48.1.2.1[(Int.toNat 0)]? fun y53 =>
  (some (((List.set u48.1.2.1 (Int.toNat 0) (ibits .xor .u64 y51 u48.1.1)), ()), ()))))))
  | .inr w49 => (some w49)))
  | .inr w31 => (some w31)))
  | .inr w11 => (some w11)))
noncomputable def spec_l07Permute.l2 (x3 : (((List Int) × ((List Int) × ((List Int) × (Int × Unit)))) × Unit)) : Option ((((List Int) × ((List Int) × ((List Int) × (Int × Unit)))) × Unit) ⊕ ((((List Int) × Unit) × Unit) ⊕ (((List Int) × Unit) × Unit))) :=
  (cond (decide (x3.1.2.2.2.1 < 24))
  (Option.bind (geti x3.1.2.2.1 x3.1.2.2.2.1) fun y4 =>
  (Option.bind (Go.Vi.spec_l07Round.f (x3.1.1, (x3.1.2.1, (y4, ())))) fun y5 =>
  (some (.inl ((y5.1.1, (x3.1.2.1, (x3.1.2.2.1, ((Go.IntKind.wrap .i64 (x3.1.2.2.2.1 + 1)), ())))), ())))))
  (some (.inr (.inl ((x3.1.1, ()), ())))))
noncomputable def spec_l07Permute.f (x : ((List Int) × Unit)) : Option (((List Int) × Unit) × Unit) :=
  (Option.bind (Go.Vi.spec_l07Turns.f ()) fun y0 =>
  (Option.bind (Go.Vi.spec_l07Rounds.f ()) fun y1 =>
  (Option.bind (iter spec_l07Permute.l2 ((x.1, (y0.1.1, (y1.1.1, (0, ())))), ())) fun y6 =>
  (match y6 with
  | .inl u7 => (some ((u7.1.1, ()), ()))
  | .inr w8 => (some w8)))))
noncomputable def spec_l07Bytes.l3 (x4 : (((List Int) × ((List Int) × (Int × (Int × (Int × Unit))))) × Unit)) : Option ((((List Int) × ((List Int) × (Int × (Int × (Int × Unit))))) × Unit) ⊕ ((((List Int) × ((List Int) × (Int × Unit))) × Unit) ⊕ (((List UInt8) × Unit) × Unit))) :=
  (cond (decide (x4.1.2.2.2.2.1 < 8))
  (Option.bind (app 1 x4.1.2.1 [(Go.IntKind.wrap .u8 (Int.tmod x4.1.2.2.2.1 256))]) fun y5 =>
  (some (.inl ((x4.1.1, (y5, (x4.1.2.2.1, ((Go.IntKind.wrap .u64 (Int.tdiv x4.1.2.2.2.1 256)), ((Go.IntKind.wrap .i64 (x4.1.2.2.2.2.1 + 1)), ()))))), ()))))
  (some (.inr (.inl ((x4.1.1, (x4.1.2.1, (x4.1.2.2.1, ()))), ())))))
noncomputable def spec_l07Bytes.l0 (x1 : (((List Int) × ((List Int) × (Int × Unit))) × Unit)) : Option ((((List Int) × ((List Int) × (Int × Unit))) × Unit) ⊕ ((((List Int) × Unit) × Unit) ⊕ (((List UInt8) × Unit) × Unit))) :=
  (cond (decide (x1.1.2.2.1 < (x1.1.1.length : Int)))
  (Option.bind (geti x1.1.1 x1.1.2.2.1) fun y2 =>
  (Option.bind (iter spec_l07Bytes.l3 ((x1.1.1, (x1.1.2.1, (x1.1.2.2.1, (y2, (0, ()))))), ())) fun y6 =>
  (match y6 with
  | .inl u7 => (some (.inl ((u7.1.1, (u7.1.2.1, ((Go.IntKind.wrap .i64 (u7.1.2.2.1 + 1)), ()))), ())))
  | .inr w8 => (some (.inr (.inr w8))))))
  (some (.inr (.inl ((x1.1.2.1, ()), ())))))
noncomputable def spec_l07Bytes.f (x : ((List Int) × Unit)) : Option (((List UInt8) × Unit) × Unit) :=
  (Option.bind (iter spec_l07Bytes.l0 ((x.1, ([], (0, ()))), ())) fun y9 =>
  (match y9 with
  | .inl u10 => (some (((ofBytes u10.1.1), ()), ()))
  | .inr w11 => (some w11)))
noncomputable def spec_l07Absorb.l1 (x2 : ((Int × ((List Int) × ((List Int) × Unit))) × Unit)) : Option (((Int × ((List Int) × ((List Int) × Unit))) × Unit) ⊕ (((Int × ((List Int) × ((List Int) × Unit))) × Unit) ⊕ (((List UInt8) × Unit) × Unit))) :=
  (cond (decide (x2.1.1 = 0))
  none
  (cond (!(decide ((Int.tmod (x2.1.2.2.1.length : Int) x2.1.1) = 0)))
  (Option.bind (app 1 x2.1.2.2.1 [0]) fun y3 =>
  (some (.inl ((x2.1.1, (x2.1.2.1, (y3, ()))), ()))))
  (some (.inr (.inl ((x2.1.1, (x2.1.2.1, (x2.1.2.2.1, ()))), ()))))))
noncomputable def spec_l07Absorb.l15 (x16 : ((Int × ((List Int) × ((List Int) × (Int × ((List Int) × (Int × Unit)))))) × Unit)) : Option (((Int × ((List Int) × ((List Int) × (Int × ((List Int) × (Int × Unit)))))) × Unit) ⊕ (((Int × ((List Int) × ((List Int) × (Int × Unit)))) × Unit) ⊕ (((List UInt8) × Unit) × Unit))) :=
  (cond (decide (x16.1.2.2.2.2.2.1 < (x16.1.2.2.2.2.1.length : Int)))
  (Option.bind (geti x16.1.2.1 x16.1.2.2.2.2.2.1) fun y17 =>
  (Option.bind x16.1.2.1[(Int.toNat x16.1.2.2.2.2.2.1)]? fun y18 =>
  (Option.bind (geti x16.1.2.2.2.2.1 x16.1.2.2.2.2.2.1) fun y19 =>
  (Option.bind x16.1.2.2.2.2.1[(Int.toNat x16.1.2.2.2.2.2.1)]? fun y20 =>
  (Option.bind (geti x16.1.2.1 x16.1.2.2.2.2.2.1) fun y21 =>
  (Option.bind x16.1.2.1[(Int.toNat x16.1.2.2.2.2.2.1)]? fun y22 =>
  (some (.inl ((x16.1.1, ((List.set x16.1.2.1 (Int.toNat x16.1.2.2.2.2.2.1) (ibits .xor .u64 y18 y20)), (x16.1.2.2.1, (x16.1.2.2.2.1, (x16.1.2.2.2.2.1, ((Go.IntKind.wrap .i64 (x16.1.2.2.2.2.2.1 + 1)), ())))))), ())))))))))
  (some (.inr (.inl ((x16.1.1, (x16.1.2.1, (x16.1.2.2.1, (x16.1.2.2.2.1, ())))), ())))))
noncomputable def spec_l07Absorb.l11 (x12 : ((Int × ((List Int) × ((List Int) × (Int × Unit)))) × Unit)) : Option (((Int × ((List Int) × ((List Int) × (Int × Unit)))) × Unit) ⊕ ((((List Int) × Unit) × Unit) ⊕ (((List UInt8) × Unit) × Unit))) :=
  (cond (decide (x12.1.2.2.2.1 < (x12.1.2.2.1.length : Int)))
  (Option.bind (slc x12.1.2.2.1 x12.1.2.2.2.1 (Go.IntKind.wrap .i64 (x12.1.2.2.2.1 + x12.1.1))) fun y13 =>
  (Option.bind (Go.Vi.spec_l07Lanes.f ((ofBytes (List.drop (Int.toNat x12.1.2.2.2.1) (List.take (Int.toNat (Go.IntKind.wrap .i64 (x12.1.2.2.2.1 + x12.1.1))) x12.1.2.2.1))), ())) fun y14 =>
  (Option.bind (iter spec_l07Absorb.l15 ((x12.1.1, (x12.1.2.1, (x12.1.2.2.1, (x12.1.2.2.2.1, (y14.1.1, (0, ())))))), ())) fun y23 =>
  (match y23 with
  | .inl u24 => (Option.bind (Go.Vi.spec_l07Permute.f (u24.1.2.1, ())) fun y26 =>
  (some (.inl ((u24.1.1, (y26.1.1, (u24.1.2.2.1, ((Go.IntKind.wrap .i64 (u24.1.2.2.2.1 + u24.1.1)), ())))), ()))))
  | .inr w25 => (some (.inr (.inr w25)))))))
  (some (.inr (.inl ((x12.1.2.1, ()), ())))))
noncomputable def spec_l07Absorb.f (x : ((List UInt8) × (Int × (Int × Unit)))) : Option (((List UInt8) × Unit) × Unit) :=
  (Option.bind (app 1 (toBytes x.1) [x.2.2.1]) fun y0 =>
  (Option.bind (iter spec_l07Absorb.l1 ((x.2.1, ((List.replicate (Int.toNat 25) 0), (y0, ()))), ())) fun y4 =>
  (match y4 with
  | .inl u5 => (Option.bind (geti u5.1.2.2.1 (Go.IntKind.wrap .i64 ((u5.1.2.2.1.length : Int) - 1))) fun y7 =>
  (Option.bind u5.1.2.2.1[(Int.toNat (Go.IntKind.wrap .i64 ((u5.1.2.2.1.length : Int) - 1)))]? fun y8 =>
  (Option.bind (geti u5.1.2.2.1 (Go.IntKind.wrap .i64 ((u5.1.2.2.1.length : Int) - 1))) fun y9 =>
  (Option.bind u5.1.2.2.1[(Int.toNat (Go.IntKind.wrap .i64 ((u5.1.2.2.1.length : Int) - 1)))]? fun y10 =>
  (Option.bind (iter spec_l07Absorb.l11 ((u5.1.1, (u5.1.2.1, ((List.set u5.1.2.2.1 (Int.toNat (Go.IntKind.wrap .i64 ((u5.1.2.2.1.length : Int) - 1))) (ibits .xor .u8 y8 128)), (0, ())))), ())) fun y27 =>
  (match y27 with
  | .inl u28 => (Option.bind (Go.Vi.spec_l07Bytes.f (u28.1.1, ())) fun y30 =>
  (some ((y30.1.1, ()), ())))
  | .inr w29 => (some w29)))))))
  | .inr w6 => (some w6))))
noncomputable def spec_StreamNew.f (x : ((List UInt8) × Unit)) : Option ((((List UInt8) × (Int × Unit)) × Unit) × Unit) :=
  (Option.bind (Go.Vi.spec_l07Absorb.f (x.1, (168, (31, ())))) fun y0 =>
  (some (((y0.1.1, (0, ())), ()), ())))
noncomputable def spec_Permute.f (x : ((List UInt8) × Unit)) : Option (((List UInt8) × Unit) × Unit) :=
  (cond (!(decide ((x.1.length : Int) = 200)))
  (some ((x.1, ()), ()))
  (Option.bind (Go.Vi.spec_l07Lanes.f (x.1, ())) fun y0 =>
  (Option.bind (Go.Vi.spec_l07Permute.f (y0.1.1, ())) fun y1 =>
  (Option.bind (Go.Vi.spec_l07Bytes.f (y1.1.1, ())) fun y2 =>
  (some ((y2.1.1, ()), ()))))))
noncomputable def spec_StreamTake.l5 (x6 : ((Int × (Unit × (Unit × ((List Int) × Unit)))) × (((List UInt8) × (Int × Unit)) × (((List UInt8) × (Int × Unit)) × Unit)))) : Option (((Int × (Unit × (Unit × ((List Int) × Unit)))) × (((List UInt8) × (Int × Unit)) × (((List UInt8) × (Int × Unit)) × Unit))) ⊕ (((Unit × (Unit × ((List Int) × Unit))) × (((List UInt8) × (Int × Unit)) × (((List UInt8) × (Int × Unit)) × Unit))) ⊕ ((((List UInt8) × (Int × Unit)) × ((List UInt8) × Unit)) × Unit))) :=
  (cond (decide ((x6.1.2.2.2.1.length : Int) < x6.1.1))
  (Option.bind (show Option (((Int × (Unit × (Unit × ((List Int) × Unit)))) × (((List UInt8) × (Int × Unit)) × (((List UInt8) × (Int × Unit)) × Unit))) ⊕ (Unit ⊕ ((((List UInt8) × (Int × Unit)) × ((List UInt8) × Unit)) × Unit))) from (cond (decide (x6.2.1.2.1 = 168))
  (Option.bind (Go.Vi.spec_Permute.f (x6.2.1.1, ())) fun y7 =>
  (some (.inl ((x6.1.1, ((), ((), (x6.1.2.2.2.1, ())))), ((y7.1.1, (0, x6.2.1.2.2)), (x6.2.2.1, ()))))))
  (some (.inl ((x6.1.1, ((), ((), (x6.1.2.2.2.1, ())))), (x6.2.1, (x6.2.2.1, ()))))))) fun y8 =>
  (match y8 with
  | .inl u9 => (Option.bind (show Option (((Int × (Unit × (Unit × ((List Int) × (Int × Unit))))) × (((List UInt8) × (Int × Unit)) × (((List UInt8) × (Int × Unit)) × Unit))) ⊕ (Unit ⊕ ((((List UInt8) × (Int × Unit)) × ((List UInt8) × Unit)) × Unit))) from (cond (decide ((Go.IntKind.wrap .i64 (168 - u9.2.1.2.1)) > (Go.IntKind.wrap .i64 (u9.1.1 - (u9.1.2.2.2.1.length : Int)))))
  (some (.inl ((u9.1.1, ((), ((), (u9.1.2.2.2.1, ((Go.IntKind.wrap .i64 (u9.1.1 - (u9.1.2.2.2.1.length : Int))), ()))))), (u9.2.1, (u9.2.2.1, ())))))
  (some (.inl ((u9.1.1, ((), ((), (u9.1.2.2.2.1, ((Go.IntKind.wrap .i64 (168 - u9.2.1.2.1)), ()))))), (u9.2.1, (u9.2.2.1, ()))))))) fun y11 =>
  (match y11 with
  | .inl u12 => (Option.bind (slc u12.2.1.1 u12.2.1.2.1 (Go.IntKind.wrap .i64 (u12.2.1.2.1 + u12.1.2.2.2.2.1))) fun y14 =>
  (Option.bind (app 1 u12.1.2.2.2.1 (toBytes y14)) fun y15 =>
  (some (.inl ((u12.1.1, ((), ((), (y15, ())))), ((u12.2.1.1, ((Go.IntKind.wrap .i64 (u12.2.1.2.1 + u12.1.2.2.2.2.1)), u12.2.1.2.2)), (u12.2.2.1, ())))))))
  | .inr w13 => (match w13 with
  | .inl u16 => none
  | .inr w17 => (some (.inr (.inr w17))))))
  | .inr w10 => (match w10 with
  | .inl u18 => none
  | .inr w19 => (some (.inr (.inr w19))))))
  (some (.inr (.inl (((), ((), (x6.1.2.2.2.1, ()))), (x6.2.1, (x6.2.2.1, ())))))))
noncomputable def spec_StreamTake.f (x : (((List UInt8) × (Int × Unit)) × (Int × Unit))) : Option ((((List UInt8) × (Int × Unit)) × ((List UInt8) × Unit)) × Unit) :=
  (Option.bind (show Option (((Int × (Unit × (Unit × (Bool × Unit)))) × (((List UInt8) × (Int × Unit)) × (((List UInt8) × (Int × Unit)) × Unit))) ⊕ (Unit ⊕ ((((List UInt8) × (Int × Unit)) × ((List UInt8) × Unit)) × Unit))) from (Option.bind (Go.Vi.spec_l01In.f (x.2.1, (0, (4000, ())))) fun y0 =>
  (cond (!y0.1.1)
  (some (.inl ((x.2.1, ((), ((), (true, ())))), (x.1, (([], (0, ())), ())))))
  (cond (!(decide ((x.1.1.length : Int) = 200)))
  (some (.inl ((x.2.1, ((), ((), (true, ())))), (x.1, (([], (0, ())), ())))))
  (Option.bind (Go.Vi.spec_l01In.f (x.1.2.1, (0, (168, ())))) fun y1 =>
  (some (.inl ((x.2.1, ((), ((), ((!y1.1.1), ())))), (x.1, (([], (0, ())), ())))))))))) fun y2 =>
  (match y2 with
  | .inl u3 => (cond u3.1.2.2.2.1
  (some ((u3.2.1, ([], ())), ()))
  (Option.bind (iter spec_StreamTake.l5 ((u3.1.1, ((), ((), ([], ())))), (u3.2.1, (u3.2.2.1, ())))) fun y20 =>
  (match y20 with
  | .inl u21 => (some ((u21.2.1, ((ofBytes u21.1.2.2.1), ())), ()))
  | .inr w22 => (some w22))))
  | .inr w4 => (match w4 with
  | .inl u23 => none
  | .inr w24 => (some w24))))
noncomputable def spec_Uniform.l5 (x6 : (((List Int) × (Unit × ((List UInt8) × (Int × Unit)))) × (((List UInt8) × (Int × Unit)) × Unit))) : Option ((((List Int) × (Unit × ((List UInt8) × (Int × Unit)))) × (((List UInt8) × (Int × Unit)) × Unit)) ⊕ ((((List Int) × Unit) × Unit) ⊕ (((List Int) × Unit) × Unit))) :=
  (Option.bind (show Option ((((List Int) × (Unit × ((List UInt8) × (Int × (Bool × Unit))))) × (((List UInt8) × (Int × Unit)) × Unit)) ⊕ (Unit ⊕ (((List Int) × Unit) × Unit))) from (cond (decide (x6.1.2.2.2.1 < 4000))
  (some (.inl ((x6.1.1, ((), (x6.1.2.2.1, (x6.1.2.2.2.1, ((decide ((x6.1.1.length : Int) < 256)), ()))))), (x6.2.1, ()))))
  (some (.inl ((x6.1.1, ((), (x6.1.2.2.1, (x6.1.2.2.2.1, (false, ()))))), (x6.2.1, ())))))) fun y7 =>
  (match y7 with
  | .inl u8 => (cond u8.1.2.2.2.2.1
  (Option.bind (show Option ((((List Int) × (Unit × ((List UInt8) × (Int × (Int × Unit))))) × (((List UInt8) × (Int × Unit)) × Unit)) ⊕ (Unit ⊕ (((List Int) × Unit) × Unit))) from (cond (decide ((Go.IntKind.wrap .i64 ((Int.tmod u8.1.2.2.2.1 56) * 3)) = 0))
  (Option.bind (Go.Vi.spec_StreamTake.f (u8.2.1, (168, ()))) fun y10 =>
  (some (.inl ((u8.1.1, ((), (y10.1.2.1, (u8.1.2.2.2.1, ((Go.IntKind.wrap .i64 ((Int.tmod u8.1.2.2.2.1 56) * 3)), ()))))), (y10.1.1, ())))))
  (some (.inl ((u8.1.1, ((), (u8.1.2.2.1, (u8.1.2.2.2.1, ((Go.IntKind.wrap .i64 ((Int.tmod u8.1.2.2.2.1 56) * 3)), ()))))), (u8.2.1, ())))))) fun y11 =>
  (match y11 with
  | .inl u12 => (Option.bind (geti u12.1.2.2.1 u12.1.2.2.2.2.1) fun y14 =>
  (Option.bind (geti u12.1.2.2.1 (Go.IntKind.wrap .i64 (u12.1.2.2.2.2.1 + 1))) fun y15 =>
  (Option.bind (geti u12.1.2.2.1 (Go.IntKind.wrap .i64 (u12.1.2.2.2.2.1 + 1))) fun y16 =>
  (Option.bind (geti u12.1.2.2.1 (Go.IntKind.wrap .i64 (u12.1.2.2.2.2.1 + 2))) fun y17 =>
  (Option.bind (show Option ((((List Int) × (Unit × ((List UInt8) × (Int × (Int × Unit))))) × (((List UInt8) × (Int × Unit)) × Unit)) ⊕ (Unit ⊕ (((List Int) × Unit) × Unit))) from (cond (decide ((Go.IntKind.wrap .i64 ((Go.IntKind.wrap .i64 ((UInt8.toNat y14) : Int)) + (Go.IntKind.wrap .i64 (256 * (Int.tmod (Go.IntKind.wrap .i64 ((UInt8.toNat y15) : Int)) 16))))) < 3329))
  (Option.bind (app 8 u12.1.1 [(Go.IntKind.wrap .i64 ((Go.IntKind.wrap .i64 ((UInt8.toNat y14) : Int)) + (Go.IntKind.wrap .i64 (256 * (Int.tmod (Go.IntKind.wrap .i64 ((UInt8.toNat y15) : Int)) 16)))))]) fun y18 =>
  (some (.inl ((y18, ((), (u12.1.2.2.1, (u12.1.2.2.2.1, ((Go.IntKind.wrap .i64 ((Go.IntKind.wrap .i64 (Int.tdiv (Go.IntKind.wrap .i64 ((UInt8.toNat y16) : Int)) 16)) + (Go.IntKind.wrap .i64 (16 * (Go.IntKind.wrap .i64 ((UInt8.toNat y17) : Int)))))), ()))))), (u12.2.1, ())))))
  (some (.inl ((u12.1.1, ((), (u12.1.2.2.1, (u12.1.2.2.2.1, ((Go.IntKind.wrap .i64 ((Go.IntKind.wrap .i64 (Int.tdiv (Go.IntKind.wrap .i64 ((UInt8.toNat y16) : Int)) 16)) + (Go.IntKind.wrap .i64 (16 * (Go.IntKind.wrap .i64 ((UInt8.toNat y17) : Int)))))), ()))))), (u12.2.1, ())))))) fun y19 =>
  (match y19 with
  | .inl u20 => (Option.bind (show Option ((((List Int) × (Unit × ((List UInt8) × (Int × (Int × (Bool × Unit)))))) × (((List UInt8) × (Int × Unit)) × Unit)) ⊕ (Unit ⊕ (((List Int) × Unit) × Unit))) from (cond (decide (u20.1.2.2.2.2.1 < 3329))
  (some (.inl ((u20.1.1, ((), (u20.1.2.2.1, (u20.1.2.2.2.1, (u20.1.2.2.2.2.1, ((decide ((u20.1.1.length : Int) < 256)), ())))))), (u20.2.1, ()))))
  (some (.inl ((u20.1.1, ((), (u20.1.2.2.1, (u20.1.2.2.2.1, (u20.1.2.2.2.2.1, (false, ())))))), (u20.2.1, ())))))) fun y22 =>
  (match y22 with
  | .inl u23 => (cond u23.1.2.2.2.2.2.1
  (Option.bind (app 8 u23.1.1 [u23.1.2.2.2.2.1]) fun y25 =>
  (some (.inl ((y25, ((), (u23.1.2.2.1, ((Go.IntKind.wrap .i64 (u23.1.2.2.2.1 + 1)), ())))), (u23.2.1, ())))))
  (some (.inl ((u23.1.1, ((), (u23.1.2.2.1, ((Go.IntKind.wrap .i64 (u23.1.2.2.2.1 + 1)), ())))), (u23.2.1, ())))))
  | .inr w24 => (match w24 with
  | .inl u26 => none
  | .inr w27 => (some (.inr (.inr w27))))))
  | .inr w21 => (match w21 with
  | .inl u28 => none
  | .inr w29 => (some (.inr (.inr w29))))))))))
  | .inr w13 => (match w13 with
  | .inl u30 => none
  | .inr w31 => (some (.inr (.inr w31))))))
  (some (.inr (.inl ((u8.1.1, ()), ())))))
  | .inr w9 => (match w9 with
  | .inl u32 => none
  | .inr w33 => (some (.inr (.inr w33))))))
noncomputable def spec_Uniform.l37 (x38 : (((List Int) × Unit) × Unit)) : Option ((((List Int) × Unit) × Unit) ⊕ ((((List Int) × Unit) × Unit) ⊕ (((List Int) × Unit) × Unit))) :=
  (cond (decide ((x38.1.1.length : Int) < 256))
  (Option.bind (app 8 x38.1.1 [0]) fun y39 =>
  (some (.inl ((y39, ()), ()))))
  (some (.inr (.inl ((x38.1.1, ()), ())))))
noncomputable def spec_Uniform.f (x : ((List UInt8) × (Int × (Int × Unit)))) : Option (((List Int) × Unit) × Unit) :=
  (Option.bind (Go.Vi.spec_l06Byte.f (x.2.1, ())) fun y0 =>
  (Option.bind (cat x.1 y0.1.1) fun y1 =>
  (Option.bind (Go.Vi.spec_l06Byte.f (x.2.2.1, ())) fun y2 =>
  (Option.bind (cat y1 y2.1.1) fun y3 =>
  (Option.bind (Go.Vi.spec_StreamNew.f (y3, ())) fun y4 =>
  (Option.bind (iter spec_Uniform.l5 (([], ((), ([], (0, ())))), (y4.1.1, ()))) fun y34 =>
  (match y34 with
  | .inl u35 => (Option.bind (iter spec_Uniform.l37 ((u35.1.1, ()), ())) fun y40 =>
  (match y40 with
  | .inl u41 => (some ((u41.1.1, ()), ()))
  | .inr w42 => (some w42)))
  | .inr w36 => (some w36))))))))
noncomputable def spec_l13Matrix.l2 (x3 : (((List UInt8) × ((List (List Int)) × (Int × (Int × Unit)))) × Unit)) : Option ((((List UInt8) × ((List (List Int)) × (Int × (Int × Unit)))) × Unit) ⊕ ((((List UInt8) × ((List (List Int)) × (Int × Unit))) × Unit) ⊕ (((List (List Int)) × Unit) × Unit))) :=
  (cond (decide (x3.1.2.2.2.1 < 2))
  (Option.bind (Go.Vi.spec_Uniform.f (x3.1.1, (x3.1.2.2.2.1, (x3.1.2.2.1, ())))) fun y4 =>
  (Option.bind (app 24 x3.1.2.1 [y4.1.1]) fun y5 =>
  (some (.inl ((x3.1.1, (y5, (x3.1.2.2.1, ((Go.IntKind.wrap .i64 (x3.1.2.2.2.1 + 1)), ())))), ())))))
  (some (.inr (.inl ((x3.1.1, (x3.1.2.1, (x3.1.2.2.1, ()))), ())))))
noncomputable def spec_l13Matrix.l0 (x1 : (((List UInt8) × ((List (List Int)) × (Int × Unit))) × Unit)) : Option ((((List UInt8) × ((List (List Int)) × (Int × Unit))) × Unit) ⊕ ((((List (List Int)) × Unit) × Unit) ⊕ (((List (List Int)) × Unit) × Unit))) :=
  (cond (decide (x1.1.2.2.1 < 2))
  (Option.bind (iter spec_l13Matrix.l2 ((x1.1.1, (x1.1.2.1, (x1.1.2.2.1, (0, ())))), ())) fun y6 =>
  (match y6 with
  | .inl u7 => (some (.inl ((u7.1.1, (u7.1.2.1, ((Go.IntKind.wrap .i64 (u7.1.2.2.1 + 1)), ()))), ())))
  | .inr w8 => (some (.inr (.inr w8)))))
  (some (.inr (.inl ((x1.1.2.1, ()), ())))))
noncomputable def spec_l13Matrix.f (x : ((List UInt8) × Unit)) : Option (((List (List Int)) × Unit) × Unit) :=
  (Option.bind (iter spec_l13Matrix.l0 ((x.1, ([], (0, ()))), ())) fun y9 =>
  (match y9 with
  | .inl u10 => (some ((u10.1.1, ()), ()))
  | .inr w11 => (some w11)))
noncomputable def spec_PolyOk.l0 (x1 : (((List Int) × (Int × Unit)) × Unit)) : Option ((((List Int) × (Int × Unit)) × Unit) ⊕ ((Unit × Unit) ⊕ ((Bool × Unit) × Unit))) :=
  (cond (decide (x1.1.2.1 < (x1.1.1.length : Int)))
  (Option.bind (geti x1.1.1 x1.1.2.1) fun y2 =>
  (Option.bind (Go.Vi.spec_l01In.f (y2, (0, (3328, ())))) fun y3 =>
  (cond (!y3.1.1)
  (some (.inr (.inr ((false, ()), ()))))
  (some (.inl ((x1.1.1, ((Go.IntKind.wrap .i64 (x1.1.2.1 + 1)), ())), ()))))))
  (some (.inr (.inl ((), ())))))
noncomputable def spec_PolyOk.f (x : ((List Int) × Unit)) : Option ((Bool × Unit) × Unit) :=
  (cond (!(decide ((x.1.length : Int) = 256)))
  (some ((false, ()), ()))
  (Option.bind (iter spec_PolyOk.l0 ((x.1, (0, ())), ())) fun y4 =>
  (match y4 with
  | .inl u5 => (some ((true, ()), ()))
  | .inr w6 => (some w6))))
noncomputable def spec_PowQ.l4 (x5 : ((Int × (Int × (Int × Unit))) × Unit)) : Option (((Int × (Int × (Int × Unit))) × Unit) ⊕ (((Int × Unit) × Unit) ⊕ ((Int × Unit) × Unit))) :=
  (cond (decide (x5.1.2.1 > 0))
  (cond (decide ((Int.tmod x5.1.2.1 2) = 1))
  (some (.inl (((Int.tmod (Go.IntKind.wrap .i64 (x5.1.1 * x5.1.1)) 3329), ((Go.IntKind.wrap .i64 (Int.tdiv x5.1.2.1 2)), ((Int.tmod (Go.IntKind.wrap .i64 (x5.1.2.2.1 * x5.1.1)) 3329), ()))), ())))
  (some (.inl (((Int.tmod (Go.IntKind.wrap .i64 (x5.1.1 * x5.1.1)) 3329), ((Go.IntKind.wrap .i64 (Int.tdiv x5.1.2.1 2)), (x5.1.2.2.1, ()))), ()))))
  (some (.inr (.inl ((x5.1.2.2.1, ()), ())))))
noncomputable def spec_PowQ.f (x : (Int × (Int × Unit))) : Option ((Int × Unit) × Unit) :=
  (Option.bind (Go.Vi.spec_l01In.f (x.2.1, (0, (1000000000, ())))) fun y0 =>
  (cond (!y0.1.1)
  (some ((0, ()), ()))
  (Option.bind (show Option (((Int × (Int × Unit)) × Unit) ⊕ (Unit ⊕ ((Int × Unit) × Unit))) from (cond (decide ((Int.tmod x.1 3329) < 0))
  (some (.inl (((Go.IntKind.wrap .i64 ((Int.tmod x.1 3329) + 3329)), (x.2.1, ())), ())))
  (some (.inl (((Int.tmod x.1 3329), (x.2.1, ())), ()))))) fun y1 =>
  (match y1 with
  | .inl u2 => (Option.bind (iter spec_PowQ.l4 ((u2.1.1, (u2.1.2.1, (1, ()))), ())) fun y6 =>
  (match y6 with
  | .inl u7 => (some ((u7.1.1, ()), ()))
  | .inr w8 => (some w8)))
  | .inr w3 => (match w3 with
  | .inl u9 => none
  | .inr w10 => (some w10))))))
noncomputable def spec_Turn7.l3 (x4 : ((Int × (Int × (Int × Unit))) × Unit)) : Option (((Int × (Int × (Int × Unit))) × Unit) ⊕ (((Int × Unit) × Unit) ⊕ ((Int × Unit) × Unit))) :=
  (cond (decide (x4.1.2.2.1 < 7))
  (some (.inl (((Go.IntKind.wrap .i64 (Int.tdiv x4.1.1 2)), ((Go.IntKind.wrap .i64 ((Go.IntKind.wrap .i64 (2 * x4.1.2.1)) + (Int.tmod x4.1.1 2))), ((Go.IntKind.wrap .i64 (x4.1.2.2.1 + 1)), ()))), ())))
  (some (.inr (.inl ((x4.1.2.1, ()), ())))))
noncomputable def spec_Turn7.f (x : (Int × Unit)) : Option ((Int × Unit) × Unit) :=
  (Option.bind (show Option (((Int × Unit) × Unit) ⊕ (Unit ⊕ ((Int × Unit) × Unit))) from (cond (decide ((Int.tmod x.1 128) < 0))
  (some (.inl (((Go.IntKind.wrap .i64 ((Int.tmod x.1 128) + 128)), ()), ())))
  (some (.inl (((Int.tmod x.1 128), ()), ()))))) fun y0 =>
  (match y0 with
  | .inl u1 => (Option.bind (iter spec_Turn7.l3 ((u1.1.1, (0, (0, ()))), ())) fun y5 =>
  (match y5 with
  | .inl u6 => (some ((u6.1.1, ()), ()))
  | .inr w7 => (some w7)))
  | .inr w2 => (match w2 with
  | .inl u8 => none
  | .inr w9 => (some w9))))
noncomputable def spec_Ntt.l8 (x9 : (((List Int) × (Int × (Int × (Int × (Int × (Int × Unit)))))) × Unit)) : Option ((((List Int) × (Int × (Int × (Int × (Int × (Int × Unit)))))) × Unit) ⊕ ((((List Int) × (Int × (Int × (Int × Unit)))) × Unit) ⊕ (((List Int) × Unit) × Unit))) :=
  (cond (decide (x9.1.2.2.2.2.2.1 < (Go.IntKind.wrap .i64 (x9.1.2.2.2.1 + x9.1.2.2.1))))
  (Option.bind (geti x9.1.1 (Go.IntKind.wrap .i64 (x9.1.2.2.2.2.2.1 + x9.1.2.2.1))) fun y10 =>
  (Option.bind x9.1.1[(Int.toNat (Go.IntKind.wrap .i64 (x9.1.2.2.2.2.2.1 + x9.1.2.2.1)))]? fun y11 =>
  (Option.bind (geti x9.1.1 x9.1.2.2.2.2.2.1) fun y12 =>
  (Option.bind x9.1.1[(Int.toNat x9.1.2.2.2.2.2.1)]? fun y13 =>
  (Option.bind (geti x9.1.1 (Go.IntKind.wrap .i64 (x9.1.2.2.2.2.2.1 + x9.1.2.2.1))) fun y14 =>
  (Option.bind x9.1.1[(Int.toNat (Go.IntKind.wrap .i64 (x9.1.2.2.2.2.2.1 + x9.1.2.2.1)))]? fun y15 =>
  (Option.bind (geti (List.set x9.1.1 (Int.toNat (Go.IntKind.wrap .i64 (x9.1.2.2.2.2.2.1 + x9.1.2.2.1))) (Int.tmod (Go.IntKind.wrap .i64 ((Go.IntKind.wrap .i64 (y13 - (Int.tmod (Go.IntKind.wrap .i64 (x9.1.2.2.2.2.1 * y11)) 3329))) + 3329)) 3329)) x9.1.2.2.2.2.2.1) fun y16 =>
  (Option.bind (List.set x9.1.1 (Int.toNat (Go.IntKind.wrap .i64 (x9.1.2.2.2.2.2.1 + x9.1.2.2.1))) (Int.tmod (Go.IntKind.wrap .i64 ((Go.IntKind.wrap .i64 (y13 - (Int.tmod (Go.IntKind.wrap .i64 (x9.1.2.2.2.2.1 * y11)) 3329))) + 3329)) 3329))[(Int.toNat x9.1.2.2.2.2.2.1)]? fun y17 =>
  (Option.bind (geti (List.set x9.1.1 (Int.toNat (Go.IntKind.wrap .i64 (x9.1.2.2.2.2.2.1 + x9.1.2.2.1))) (Int.tmod (Go.IntKind.wrap .i64 ((Go.IntKind.wrap .i64 (y13 - (Int.tmod (Go.IntKind.wrap .i64 (x9.1.2.2.2.2.1 * y11)) 3329))) + 3329)) 3329)) x9.1.2.2.2.2.2.1) fun y18 =>
  (Option.bind (List.set x9.1.1 (Int.toNat (Go.IntKind.wrap .i64 (x9.1.2.2.2.2.2.1 + x9.1.2.2.1))) (Int.tmod (Go.IntKind.wrap .i64 ((Go.IntKind.wrap .i64 (y13 - (Int.tmod (Go.IntKind.wrap .i64 (x9.1.2.2.2.2.1 * y11)) 3329))) + 3329)) 3329))[(Int.toNat x9.1.2.2.2.2.2.1)]? fun y19 =>
  (some (.inl (((List.set (List.set x9.1.1 (Int.toNat (Go.IntKind.wrap .i64 (x9.1.2.2.2.2.2.1 + x9.1.2.2.1))) (Int.tmod (Go.IntKind.wrap .i64 ((Go.IntKind.wrap .i64 (y13 - (Int.tmod (Go.IntKind.wrap .i64 (x9.1.2.2.2.2.1 * y11)) 3329))) + 3329)) 3329)) (Int.toNat x9.1.2.2.2.2.2.1) (Int.tmod (Go.IntKind.wrap .i64 (y17 + (Int.tmod (Go.IntKind.wrap .i64 (x9.1.2.2.2.2.1 * y11)) 3329))) 3329)), (x9.1.2.1, (x9.1.2.2.1, (x9.1.2.2.2.1, (x9.1.2.2.2.2.1, ((Go.IntKind.wrap .i64 (x9.1.2.2.2.2.2.1 + 1)), ())))))), ())))))))))))))
  (some (.inr (.inl ((x9.1.1, (x9.1.2.1, (x9.1.2.2.1, (x9.1.2.2.2.1, ())))), ())))))
noncomputable def spec_Ntt.l4 (x5 : (((List Int) × (Int × (Int × (Int × Unit)))) × Unit)) : Option ((((List Int) × (Int × (Int × (Int × Unit)))) × Unit) ⊕ ((((List Int) × (Int × (Int × Unit))) × Unit) ⊕ (((List Int) × Unit) × Unit))) :=
  (cond (decide (x5.1.2.2.2.1 < 256))
  (Option.bind (Go.Vi.spec_Turn7.f (x5.1.2.1, ())) fun y6 =>
  (Option.bind (Go.Vi.spec_PowQ.f (17, (y6.1.1, ()))) fun y7 =>
  (Option.bind (iter spec_Ntt.l8 ((x5.1.1, ((Go.IntKind.wrap .i64 (x5.1.2.1 + 1)), (x5.1.2.2.1, (x5.1.2.2.2.1, (y7.1.1, (x5.1.2.2.2.1, ())))))), ())) fun y20 =>
  (match y20 with
  | .inl u21 => (some (.inl ((u21.1.1, (u21.1.2.1, (u21.1.2.2.1, ((Go.IntKind.wrap .i64 (u21.1.2.2.2.1 + (Go.IntKind.wrap .i64 (2 * u21.1.2.2.1)))), ())))), ())))
  | .inr w22 => (some (.inr (.inr w22)))))))
  (some (.inr (.inl ((x5.1.1, (x5.1.2.1, (x5.1.2.2.1, ()))), ())))))
noncomputable def spec_Ntt.l2 (x3 : (((List Int) × (Int × (Int × Unit))) × Unit)) : Option ((((List Int) × (Int × (Int × Unit))) × Unit) ⊕ ((((List Int) × Unit) × Unit) ⊕ (((List Int) × Unit) × Unit))) :=
  (cond (decide (x3.1.2.2.1 ≥ 2))
  (Option.bind (iter spec_Ntt.l4 ((x3.1.1, (x3.1.2.1, (x3.1.2.2.1, (0, ())))), ())) fun y23 =>
  (match y23 with
  | .inl u24 => (some (.inl ((u24.1.1, (u24.1.2.1, ((Go.IntKind.wrap .i64 (Int.tdiv u24.1.2.2.1 2)), ()))), ())))
  | .inr w25 => (some (.inr (.inr w25)))))
  (some (.inr (.inl ((x3.1.1, ()), ())))))
noncomputable def spec_Ntt.f (x : ((List Int) × Unit)) : Option (((List Int) × Unit) × Unit) :=
  (Option.bind (Go.Vi.spec_PolyOk.f (x.1, ())) fun y0 =>
  (cond (!y0.1.1)
  (some (([], ()), ()))
  (Option.bind (app 8 [] x.1) fun y1 =>
  (Option.bind (iter spec_Ntt.l2 ((y1, (1, (128, ()))), ())) fun y26 =>
  (match y26 with
  | .inl u27 => (some ((u27.1.1, ()), ()))
  | .inr w28 => (some w28))))))
noncomputable def spec_ShakeOf.f (x : ((List UInt8) × (Int × Unit))) : Option (((List UInt8) × (Bool × Unit)) × Unit) :=
  (Option.bind (Go.Vi.spec_l01In.f (x.2.1, (0, (4000, ())))) fun y0 =>
  (cond (!y0.1.1)
  (some (([], (false, ())), ()))
  (Option.bind (Go.Vi.spec_StreamNew.f (x.1, ())) fun y1 =>
  (Option.bind (Go.Vi.spec_StreamTake.f (y1.1.1, (x.2.1, ()))) fun y2 =>
  (some ((y2.1.2.1, (true, ())), ()))))))
noncomputable def spec_Small.l3 (x4 : (((List Int) × ((List UInt8) × (Int × Unit))) × Unit)) : Option ((((List Int) × ((List UInt8) × (Int × Unit))) × Unit) ⊕ ((((List Int) × Unit) × Unit) ⊕ (((List Int) × Unit) × Unit))) :=
  (cond (decide (x4.1.2.2.1 < 256))
  (Option.bind (geti x4.1.2.1 (Go.IntKind.wrap .i64 (Int.tdiv x4.1.2.2.1 2))) fun y5 =>
  (Option.bind (show Option ((((List Int) × ((List UInt8) × (Int × (Int × Unit)))) × Unit) ⊕ (Unit ⊕ (((List Int) × Unit) × Unit))) from (cond (decide ((Int.tmod x4.1.2.2.1 2) = 1))
  (some (.inl ((x4.1.1, (x4.1.2.1, (x4.1.2.2.1, ((Go.IntKind.wrap .i64 (Int.tdiv (Go.IntKind.wrap .i64 ((UInt8.toNat y5) : Int)) 16)), ())))), ())))
  (some (.inl ((x4.1.1, (x4.1.2.1, (x4.1.2.2.1, ((Go.IntKind.wrap .i64 ((UInt8.toNat y5) : Int)), ())))), ()))))) fun y6 =>
  (match y6 with
  | .inl u7 => (Option.bind (app 8 u7.1.1 [(Int.tmod (Go.IntKind.wrap .i64 ((Go.IntKind.wrap .i64 ((Go.IntKind.wrap .i64 ((Go.IntKind.wrap .i64 ((Int.tmod u7.1.2.2.2.1 2) + (Int.tmod (Go.IntKind.wrap .i64 (Int.tdiv u7.1.2.2.2.1 2)) 2))) - (Int.tmod (Go.IntKind.wrap .i64 (Int.tdiv u7.1.2.2.2.1 4)) 2))) - (Int.tmod (Go.IntKind.wrap .i64 (Int.tdiv u7.1.2.2.2.1 8)) 2))) + 3329)) 3329)]) fun y9 =>
  (some (.inl ((y9, (u7.1.2.1, ((Go.IntKind.wrap .i64 (u7.1.2.2.1 + 1)), ()))), ()))))
  | .inr w8 => (match w8 with
  | .inl u10 => none
  | .inr w11 => (some (.inr (.inr w11)))))))
  (some (.inr (.inl ((x4.1.1, ()), ())))))
noncomputable def spec_Small.f (x : ((List UInt8) × (Int × Unit))) : Option (((List Int) × Unit) × Unit) :=
  (Option.bind (Go.Vi.spec_l06Byte.f (x.2.1, ())) fun y0 =>
  (Option.bind (cat x.1 y0.1.1) fun y1 =>
  (Option.bind (Go.Vi.spec_ShakeOf.f (y1, (128, ()))) fun y2 =>
  (Option.bind (iter spec_Small.l3 (([], (y2.1.1, (0, ()))), ())) fun y12 =>
  (match y12 with
  | .inl u13 => (some ((u13.1.1, ()), ()))
  | .inr w14 => (some w14))))))
noncomputable def spec_l11Two.l0 (x1 : ((Int × (Int × (Int × Unit))) × Unit)) : Option (((Int × (Int × (Int × Unit))) × Unit) ⊕ (((Int × Unit) × Unit) ⊕ ((Int × Unit) × Unit))) :=
  (cond (decide (x1.1.2.2.1 < x1.1.1))
  (some (.inl ((x1.1.1, ((Go.IntKind.wrap .i64 (2 * x1.1.2.1)), ((Go.IntKind.wrap .i64 (x1.1.2.2.1 + 1)), ()))), ())))
  (some (.inr (.inl ((x1.1.2.1, ()), ())))))
noncomputable def spec_l11Two.f (x : (Int × Unit)) : Option ((Int × Unit) × Unit) :=
  (Option.bind (iter spec_l11Two.l0 ((x.1, (1, (0, ()))), ())) fun y2 =>
  (match y2 with
  | .inl u3 => (some ((u3.1.1, ()), ()))
  | .inr w4 => (some w4)))
noncomputable def spec_Pack.l1 (x2 : (((List Int) × (Int × (Int × Unit))) × Unit)) : Option ((((List Int) × (Int × (Int × Unit))) × Unit) ⊕ ((((List Int) × (Int × Unit)) × Unit) ⊕ (((List UInt8) × (Bool × Unit)) × Unit))) :=
  (cond (decide (x2.1.2.2.1 < (x2.1.1.length : Int)))
  (Option.bind (geti x2.1.1 x2.1.2.2.1) fun y3 =>
  (Option.bind (Go.Vi.spec_l11Two.f (x2.1.2.1, ())) fun y4 =>
  (Option.bind (Go.Vi.spec_l01In.f (y3, (0, ((Go.IntKind.wrap .i64 (y4.1.1 - 1)), ())))) fun y5 =>
  (cond (!y5.1.1)
  (some (.inr (.inr (([], (false, ())), ()))))
  (some (.inl ((x2.1.1, (x2.1.2.1, ((Go.IntKind.wrap .i64 (x2.1.2.2.1 + 1)), ()))), ())))))))
  (some (.inr (.inl ((x2.1.1, (x2.1.2.1, ())), ())))))
noncomputable def spec_Pack.l13 (x14 : (((List Int) × (Int × ((List Int) × (Int × (Int × (Int × Unit)))))) × Unit)) : Option ((((List Int) × (Int × ((List Int) × (Int × (Int × (Int × Unit)))))) × Unit) ⊕ ((((List Int) × (Int × ((List Int) × (Int × (Int × (Int × Unit)))))) × Unit) ⊕ (((List UInt8) × (Bool × Unit)) × Unit))) :=
  (cond (decide (x14.1.2.2.2.2.1 ≥ 8))
  (Option.bind (app 1 x14.1.2.2.1 [(Go.IntKind.wrap .u8 (Int.tmod x14.1.2.2.2.1 256))]) fun y15 =>
  (some (.inl ((x14.1.1, (x14.1.2.1, (y15, ((Go.IntKind.wrap .i64 (Int.tdiv x14.1.2.2.2.1 256)), ((Go.IntKind.wrap .i64 (x14.1.2.2.2.2.1 - 8)), (x14.1.2.2.2.2.2.1, ())))))), ()))))
  (some (.inr (.inl ((x14.1.1, (x14.1.2.1, (x14.1.2.2.1, (x14.1.2.2.2.1, (x14.1.2.2.2.2.1, (x14.1.2.2.2.2.2.1, ())))))), ())))))
noncomputable def spec_Pack.l9 (x10 : (((List Int) × (Int × ((List Int) × (Int × (Int × (Int × Unit)))))) × Unit)) : Option ((((List Int) × (Int × ((List Int) × (Int × (Int × (Int × Unit)))))) × Unit) ⊕ ((((List Int) × (Int × (Int × Unit))) × Unit) ⊕ (((List UInt8) × (Bool × Unit)) × Unit))) :=
  (cond (decide (x10.1.2.2.2.2.2.1 < (x10.1.1.length : Int)))
  (Option.bind (geti x10.1.1 x10.1.2.2.2.2.2.1) fun y11 =>
  (Option.bind (Go.Vi.spec_l11Two.f (x10.1.2.2.2.2.1, ())) fun y12 =>
  (Option.bind (iter spec_Pack.l13 ((x10.1.1, (x10.1.2.1, (x10.1.2.2.1, ((Go.IntKind.wrap .i64 (x10.1.2.2.2.1 + (Go.IntKind.wrap .i64 (y11 * y12.1.1)))), ((Go.IntKind.wrap .i64 (x10.1.2.2.2.2.1 + x10.1.2.1)), (x10.1.2.2.2.2.2.1, ())))))), ())) fun y16 =>
  (match y16 with
  | .inl u17 => (some (.inl ((u17.1.1, (u17.1.2.1, (u17.1.2.2.1, (u17.1.2.2.2.1, (u17.1.2.2.2.2.1, ((Go.IntKind.wrap .i64 (u17.1.2.2.2.2.2.1 + 1)), ())))))), ())))
  | .inr w18 => (some (.inr (.inr w18)))))))
  (some (.inr (.inl ((x10.1.2.2.1, (x10.1.2.2.2.1, (x10.1.2.2.2.2.1, ()))), ())))))
noncomputable def spec_Pack.f (x : ((List Int) × (Int × Unit))) : Option (((List UInt8) × (Bool × Unit)) × Unit) :=
  (Option.bind (Go.Vi.spec_l01In.f (x.2.1, (1, (12, ())))) fun y0 =>
  (cond (!y0.1.1)
  (some (([], (false, ())), ()))
  (Option.bind (iter spec_Pack.l1 ((x.1, (x.2.1, (0, ()))), ())) fun y6 =>
  (match y6 with
  | .inl u7 => (Option.bind (iter spec_Pack.l9 ((u7.1.1, (u7.1.2.1, ([], (0, (0, (0, ())))))), ())) fun y19 =>
  (match y19 with
  | .inl u20 => (cond (decide (u20.1.2.2.1 > 0))
  (Option.bind (app 1 u20.1.1 [(Go.IntKind.wrap .u8 u20.1.2.1)]) fun y22 =>
  (some (((ofBytes y22), (true, ())), ())))
  (some (((ofBytes u20.1.1), (true, ())), ())))
  | .inr w21 => (some w21)))
  | .inr w8 => (some w8)))))
noncomputable def spec_PolyBytes.f (x : ((List Int) × Unit)) : Option (((List UInt8) × Unit) × Unit) :=
  (Option.bind (Go.Vi.spec_PolyOk.f (x.1, ())) fun y0 =>
  (cond (!y0.1.1)
  (some (([], ()), ()))
  (Option.bind (Go.Vi.spec_Pack.f (x.1, (12, ()))) fun y1 =>
  (some ((y1.1.1, ()), ())))))
noncomputable def spec_PolyAdd.l0 (x1 : (((List Int) × ((List Int) × ((List Int) × (Int × Unit)))) × Unit)) : Option ((((List Int) × ((List Int) × ((List Int) × (Int × Unit)))) × Unit) ⊕ ((((List Int) × Unit) × Unit) ⊕ (((List Int) × Unit) × Unit))) :=
  (Option.bind (show Option ((((List Int) × ((List Int) × ((List Int) × (Int × (Bool × Unit))))) × Unit) ⊕ (Unit ⊕ (((List Int) × Unit) × Unit))) from (cond (decide (x1.1.2.2.2.1 < 256))
  (Option.bind (Go.Vi.spec_PolyOk.f (x1.1.1, ())) fun y2 =>
  (cond y2.1.1
  (Option.bind (Go.Vi.spec_PolyOk.f (x1.1.2.1, ())) fun y3 =>
  (some (.inl ((x1.1.1, (x1.1.2.1, (x1.1.2.2.1, (x1.1.2.2.2.1, (y3.1.1, ()))))), ()))))
  (some (.inl ((x1.1.1, (x1.1.2.1, (x1.1.2.2.1, (x1.1.2.2.2.1, (false, ()))))), ())))))
  (some (.inl ((x1.1.1, (x1.1.2.1, (x1.1.2.2.1, (x1.1.2.2.2.1, (false, ()))))), ()))))) fun y4 =>
  (match y4 with
  | .inl u5 => (cond u5.1.2.2.2.2.1
  (Option.bind (geti u5.1.1 u5.1.2.2.2.1) fun y7 =>
  (Option.bind (geti u5.1.2.1 u5.1.2.2.2.1) fun y8 =>
  (Option.bind (app 8 u5.1.2.2.1 [(Int.tmod (Go.IntKind.wrap .i64 (y7 + y8)) 3329)]) fun y9 =>
  (some (.inl ((u5.1.1, (u5.1.2.1, (y9, ((Go.IntKind.wrap .i64 (u5.1.2.2.2.1 + 1)), ())))), ()))))))
  (some (.inr (.inl ((u5.1.2.2.1, ()), ())))))
  | .inr w6 => (match w6 with
  | .inl u10 => none
  | .inr w11 => (some (.inr (.inr w11))))))
noncomputable def spec_PolyAdd.f (x : ((List Int) × ((List Int) × Unit))) : Option (((List Int) × Unit) × Unit) :=
  (Option.bind (iter spec_PolyAdd.l0 ((x.1, (x.2.1, ([], (0, ())))), ())) fun y12 =>
  (match y12 with
  | .inl u13 => (some ((u13.1.1, ()), ()))
  | .inr w14 => (some w14)))
noncomputable def spec_MulNtt.l5 (x6 : (((List Int) × ((List Int) × ((List Int) × (Int × Unit)))) × Unit)) : Option ((((List Int) × ((List Int) × ((List Int) × (Int × Unit)))) × Unit) ⊕ ((((List Int) × Unit) × Unit) ⊕ (((List Int) × Unit) × Unit))) :=
  (cond (decide (x6.1.2.2.2.1 < 128))
  (Option.bind (Go.Vi.spec_Turn7.f (x6.1.2.2.2.1, ())) fun y7 =>
  (Option.bind (Go.Vi.spec_PowQ.f (17, ((Go.IntKind.wrap .i64 ((Go.IntKind.wrap .i64 (2 * y7.1.1)) + 1)), ()))) fun y8 =>
  (Option.bind (geti x6.1.1 (Go.IntKind.wrap .i64 ((Go.IntKind.wrap .i64 (2 * x6.1.2.2.2.1)) + 1))) fun y9 =>
  (Option.bind (geti x6.1.2.1 (Go.IntKind.wrap .i64 ((Go.IntKind.wrap .i64 (2 * x6.1.2.2.2.1)) + 1))) fun y10 =>
  (Option.bind (geti x6.1.1 (Go.IntKind.wrap .i64 (2 * x6.1.2.2.2.1))) fun y11 =>
  (Option.bind (geti x6.1.2.1 (Go.IntKind.wrap .i64 (2 * x6.1.2.2.2.1))) fun y12 =>
  (Option.bind (geti x6.1.1 (Go.IntKind.wrap .i64 (2 * x6.1.2.2.2.1))) fun y13 =>
  (Option.bind (geti x6.1.2.1 (Go.IntKind.wrap .i64 ((Go.IntKind.wrap .i64 (2 * x6.1.2.2.2.1)) + 1))) fun y14 =>
  (Option.bind (geti x6.1.1 (Go.IntKind.wrap .i64 ((Go.IntKind.wrap .i64 (2 * x6.1.2.2.2.1)) + 1))) fun y15 =>
  (Option.bind (geti x6.1.2.1 (Go.IntKind.wrap .i64 (2 * x6.1.2.2.2.1))) fun y16 =>
  (Option.bind (app 8 x6.1.2.2.1 [(Int.tmod (Go.IntKind.wrap .i64 ((Go.IntKind.wrap .i64 (y11 * y12)) + (Go.IntKind.wrap .i64 ((Int.tmod (Go.IntKind.wrap .i64 (y9 * y10)) 3329) * y8.1.1)))) 3329), (Int.tmod (Go.IntKind.wrap .i64 ((Go.IntKind.wrap .i64 (y13 * y14)) + (Go.IntKind.wrap .i64 (y15 * y16)))) 3329)]) fun y17 =>
  (some (.inl ((x6.1.1, (x6.1.2.1, (y17, ((Go.IntKind.wrap .i64 (x6.1.2.2.2.1 + 1)), ())))), ()))))))))))))))
  (some (.inr (.inl ((x6.1.2.2.1, ()), ())))))
noncomputable def spec_MulNtt.f (x : ((List Int) × ((List Int) × Unit))) : Option (((List Int) × Unit) × Unit) :=
  (Option.bind (show Option ((((List Int) × ((List Int) × ((List Int) × (Bool × Unit)))) × Unit) ⊕ (Unit ⊕ (((List Int) × Unit) × Unit))) from (Option.bind (Go.Vi.spec_PolyOk.f (x.1, ())) fun y0 =>
  (cond (!y0.1.1)
  (some (.inl ((x.1, (x.2.1, ([], (true, ())))), ())))
  (Option.bind (Go.Vi.spec_PolyOk.f (x.2.1, ())) fun y1 =>
  (some (.inl ((x.1, (x.2.1, ([], ((!y1.1.1), ())))), ()))))))) fun y2 =>
  (match y2 with
  | .inl u3 => (cond u3.1.2.2.2.1
  (some ((u3.1.2.2.1, ()), ()))
  (Option.bind (iter spec_MulNtt.l5 ((u3.1.1, (u3.1.2.1, (u3.1.2.2.1, (0, ())))), ())) fun y18 =>
  (match y18 with
  | .inl u19 => (some ((u19.1.1, ()), ()))
  | .inr w20 => (some w20))))
  | .inr w4 => (match w4 with
  | .inl u21 => none
  | .inr w22 => (some w22))))
noncomputable def spec_l13Sum.l0 (x1 : (((List (List Int)) × ((List (List Int)) × ((List Int) × (Int × Unit)))) × Unit)) : Option ((((List (List Int)) × ((List (List Int)) × ((List Int) × (Int × Unit)))) × Unit) ⊕ ((((List Int) × Unit) × Unit) ⊕ (((List Int) × Unit) × Unit))) :=
  (cond (decide (x1.1.2.2.2.1 < (x1.1.1.length : Int)))
  (Option.bind (geti x1.1.1 x1.1.2.2.2.1) fun y2 =>
  (Option.bind (geti x1.1.2.1 x1.1.2.2.2.1) fun y3 =>
  (Option.bind (Go.Vi.spec_MulNtt.f (y2, (y3, ()))) fun y4 =>
  (Option.bind (Go.Vi.spec_PolyAdd.f (x1.1.2.2.1, (y4.1.1, ()))) fun y5 =>
  (some (.inl ((x1.1.1, (x1.1.2.1, (y5.1.1, ((Go.IntKind.wrap .i64 (x1.1.2.2.2.1 + 1)), ())))), ())))))))
  (some (.inr (.inl ((x1.1.2.2.1, ()), ())))))
noncomputable def spec_l13Sum.f (x : ((List (List Int)) × ((List (List Int)) × Unit))) : Option (((List Int) × Unit) × Unit) :=
  (Option.bind (iter spec_l13Sum.l0 ((x.1, (x.2.1, ((List.replicate (Int.toNat 256) 0), (0, ())))), ())) fun y6 =>
  (match y6 with
  | .inl u7 => (some ((u7.1.1, ()), ()))
  | .inr w8 => (some w8)))
noncomputable def spec_PairOf.l6 (x7 : ((Unit × ((List UInt8) × ((List UInt8) × ((List UInt8) × ((List (List Int)) × ((List (List Int)) × ((List UInt8) × ((List UInt8) × (Int × Unit))))))))) × (((List UInt8) × ((List UInt8) × Unit)) × Unit))) : Option (((Unit × ((List UInt8) × ((List UInt8) × ((List UInt8) × ((List (List Int)) × ((List (List Int)) × ((List UInt8) × ((List UInt8) × (Int × Unit))))))))) × (((List UInt8) × ((List UInt8) × Unit)) × Unit)) ⊕ (((Unit × ((List UInt8) × ((List UInt8) × ((List UInt8) × ((List (List Int)) × ((List (List Int)) × ((List UInt8) × ((List UInt8) × Unit)))))))) × (((List UInt8) × ((List UInt8) × Unit)) × Unit)) ⊕ ((((List UInt8) × ((List UInt8) × Unit)) × (Bool × Unit)) × Unit))) :=
  (cond (decide (x7.1.2.2.2.2.2.2.2.2.1 < 2))
  (Option.bind (Go.Vi.spec_Small.f (x7.1.2.2.2.1, (x7.1.2.2.2.2.2.2.2.2.1, ()))) fun y8 =>
  (Option.bind (Go.Vi.spec_Ntt.f (y8.1.1, ())) fun y9 =>
  (Option.bind (app 24 x7.1.2.2.2.2.2.1 [y9.1.1]) fun y10 =>
  (Option.bind (Go.Vi.spec_PolyBytes.f (y9.1.1, ())) fun y11 =>
  (Option.bind (cat x7.1.2.2.2.2.2.2.2.1 y11.1.1) fun y12 =>
  (some (.inl (((), (x7.1.2.1, (x7.1.2.2.1, (x7.1.2.2.2.1, (x7.1.2.2.2.2.1, (y10, (x7.1.2.2.2.2.2.2.1, (y12, ((Go.IntKind.wrap .i64 (x7.1.2.2.2.2.2.2.2.2.1 + 1)), ()))))))))), (x7.2.1, ())))))))))
  (some (.inr (.inl (((), (x7.1.2.1, (x7.1.2.2.1, (x7.1.2.2.2.1, (x7.1.2.2.2.2.1, (x7.1.2.2.2.2.2.1, (x7.1.2.2.2.2.2.2.1, (x7.1.2.2.2.2.2.2.2.1, ())))))))), (x7.2.1, ()))))))
noncomputable def spec_PairOf.l16 (x17 : ((Unit × ((List UInt8) × ((List UInt8) × ((List UInt8) × ((List (List Int)) × ((List (List Int)) × ((List UInt8) × ((List UInt8) × (Int × Unit))))))))) × (((List UInt8) × ((List UInt8) × Unit)) × Unit))) : Option (((Unit × ((List UInt8) × ((List UInt8) × ((List UInt8) × ((List (List Int)) × ((List (List Int)) × ((List UInt8) × ((List UInt8) × (Int × Unit))))))))) × (((List UInt8) × ((List UInt8) × Unit)) × Unit)) ⊕ (((Unit × ((List UInt8) × ((List UInt8) × ((List UInt8) × ((List UInt8) × Unit))))) × (((List UInt8) × ((List UInt8) × Unit)) × Unit)) ⊕ ((((List UInt8) × ((List UInt8) × Unit)) × (Bool × Unit)) × Unit))) :=
  (cond (decide (x17.1.2.2.2.2.2.2.2.2.1 < 2))
  (Option.bind (slc x17.1.2.2.2.2.1 (Go.IntKind.wrap .i64 (x17.1.2.2.2.2.2.2.2.2.1 * 2)) (Go.IntKind.wrap .i64 ((Go.IntKind.wrap .i64 (x17.1.2.2.2.2.2.2.2.2.1 * 2)) + 2))) fun y18 =>
  (Option.bind (Go.Vi.spec_l13Sum.f (y18, (x17.1.2.2.2.2.2.1, ()))) fun y19 =>
  (Option.bind (Go.Vi.spec_Small.f (x17.1.2.2.2.1, ((Go.IntKind.wrap .i64 (2 + x17.1.2.2.2.2.2.2.2.2.1)), ()))) fun y20 =>
  (Option.bind (Go.Vi.spec_Ntt.f (y20.1.1, ())) fun y21 =>
  (Option.bind (Go.Vi.spec_PolyAdd.f (y19.1.1, (y21.1.1, ()))) fun y22 =>
  (Option.bind (Go.Vi.spec_PolyBytes.f (y22.1.1, ())) fun y23 =>
  (Option.bind (cat x17.1.2.2.2.2.2.2.1 y23.1.1) fun y24 =>
  (some (.inl (((), (x17.1.2.1, (x17.1.2.2.1, (x17.1.2.2.2.1, (x17.1.2.2.2.2.1, (x17.1.2.2.2.2.2.1, (y24, (x17.1.2.2.2.2.2.2.2.1, ((Go.IntKind.wrap .i64 (x17.1.2.2.2.2.2.2.2.2.1 + 1)), ()))))))))), (x17.2.1, ())))))))))))
  (some (.inr (.inl (((), (x17.1.2.1, (x17.1.2.2.1, (x17.1.2.2.2.2.2.2.1, (x17.1.2.2.2.2.2.2.2.1, ()))))), (x17.2.1, ()))))))
noncomputable def spec_PairOf.f (x : ((List UInt8) × Unit)) : Option ((((List UInt8) × ((List UInt8) × Unit)) × (Bool × Unit)) × Unit) :=
  (cond (!(decide ((x.1.length : Int) = 32)))
  (some ((([], ([], ())), (false, ())), ()))
  (Option.bind (Go.Vi.spec_DigestOf.f (x.1, ())) fun y0 =>
  (Option.bind (cat y0.1.1 [114]) fun y1 =>
  (Option.bind (Go.Vi.spec_DigestOf.f (y1, ())) fun y2 =>
  (Option.bind (cat y0.1.1 [115]) fun y3 =>
  (Option.bind (Go.Vi.spec_DigestOf.f (y3, ())) fun y4 =>
  (Option.bind (Go.Vi.spec_l13Matrix.f (y2.1.1, ())) fun y5 =>
  (Option.bind (iter spec_PairOf.l6 (((), (y0.1.1, (y2.1.1, (y4.1.1, (y5.1.1, ([], ([], ([], (0, ()))))))))), (([], ([], ())), ()))) fun y13 =>
  (match y13 with
  | .inl u14 => (Option.bind (iter spec_PairOf.l16 (((), (u14.1.2.1, (u14.1.2.2.1, (u14.1.2.2.2.1, (u14.1.2.2.2.2.1, (u14.1.2.2.2.2.2.1, (u14.1.2.2.2.2.2.2.1, (u14.1.2.2.2.2.2.2.2.1, (0, ()))))))))), (u14.2.1, ()))) fun y25 =>
  (match y25 with
  | .inl u26 => (Option.bind (cat u26.1.2.2.2.1 u26.1.2.2.1) fun y28 =>
  (Option.bind (cat u26.1.2.2.2.2.1 y28) fun y29 =>
  (Option.bind (Go.Vi.spec_DigestOf.f (y28, ())) fun y30 =>
  (Option.bind (cat y29 y30.1.1) fun y31 =>
  (Option.bind (cat u26.1.2.1 [122]) fun y32 =>
  (Option.bind (Go.Vi.spec_DigestOf.f (y32, ())) fun y33 =>
  (Option.bind (cat y31 y33.1.1) fun y34 =>
  (some (((y28, (y34, ())), (true, ())), ())))))))))
  | .inr w27 => (some w27)))
  | .inr w15 => (some w15))))))))))
noncomputable def spec_Chop.f (x : ((List UInt8) × Unit)) : Option (((List UInt8) × Unit) × Unit) :=
  (Option.bind (Go.Vi.spec_DigestOf.f (x.1, ())) fun y0 =>
  (Option.bind (slc y0.1.1 0 4) fun y1 =>
  (some ((y1, ()), ()))))
noncomputable def spec_Node.f (x : (Int × (Int × ((List UInt8) × ((List UInt8) × Unit))))) : Option (((List UInt8) × Unit) × Unit) :=
  (Option.bind (Go.Vi.spec_l06Byte.f (x.1, ())) fun y0 =>
  (Option.bind (Go.Vi.spec_l06Byte.f (x.2.1, ())) fun y1 =>
  (Option.bind (cat y0.1.1 y1.1.1) fun y2 =>
  (Option.bind (cat y2 x.2.2.1) fun y3 =>
  (Option.bind (cat y3 x.2.2.2.1) fun y4 =>
  (Option.bind (cat y4 [110]) fun y5 =>
  (Option.bind (Go.Vi.spec_Chop.f (y5, ())) fun y6 =>
  (some ((y6.1.1, ()), ())))))))))
noncomputable def spec_LevelUp.l0 (x1 : ((Int × ((List (List UInt8)) × ((List (List UInt8)) × (Int × Unit)))) × Unit)) : Option (((Int × ((List (List UInt8)) × ((List (List UInt8)) × (Int × Unit)))) × Unit) ⊕ ((((List (List UInt8)) × Unit) × Unit) ⊕ (((List (List UInt8)) × Unit) × Unit))) :=
  (cond (decide ((Go.IntKind.wrap .i64 ((Go.IntKind.wrap .i64 (2 * x1.1.2.2.2.1)) + 1)) < (x1.1.2.1.length : Int)))
  (Option.bind (geti x1.1.2.1 (Go.IntKind.wrap .i64 (2 * x1.1.2.2.2.1))) fun y2 =>
  (Option.bind (geti x1.1.2.1 (Go.IntKind.wrap .i64 ((Go.IntKind.wrap .i64 (2 * x1.1.2.2.2.1)) + 1))) fun y3 =>
  (Option.bind (Go.Vi.spec_Node.f (x1.1.1, (x1.1.2.2.2.1, (y2, (y3, ()))))) fun y4 =>
  (Option.bind (app 16 x1.1.2.2.1 [y4.1.1]) fun y5 =>
  (some (.inl ((x1.1.1, (x1.1.2.1, (y5, ((Go.IntKind.wrap .i64 (x1.1.2.2.2.1 + 1)), ())))), ())))))))
  (some (.inr (.inl ((x1.1.2.2.1, ()), ())))))
noncomputable def spec_LevelUp.f (x : (Int × ((List (List UInt8)) × Unit))) : Option (((List (List UInt8)) × Unit) × Unit) :=
  (Option.bind (iter spec_LevelUp.l0 ((x.1, (x.2.1, ([], (0, ())))), ())) fun y6 =>
  (match y6 with
  | .inl u7 => (some ((u7.1.1, ()), ()))
  | .inr w8 => (some w8)))
noncomputable def spec_RootOf.l0 (x1 : (((List (List UInt8)) × (Int × Unit)) × Unit)) : Option ((((List (List UInt8)) × (Int × Unit)) × Unit) ⊕ ((((List (List UInt8)) × Unit) × Unit) ⊕ (((List UInt8) × Unit) × Unit))) :=
  (cond (decide (x1.1.2.1 ≤ 2))
  (Option.bind (Go.Vi.spec_LevelUp.f (x1.1.2.1, (x1.1.1, ()))) fun y2 =>
  (some (.inl ((y2.1.1, ((Go.IntKind.wrap .i64 (x1.1.2.1 + 1)), ())), ()))))
  (some (.inr (.inl ((x1.1.1, ()), ())))))
noncomputable def spec_RootOf.f (x : ((List (List UInt8)) × Unit)) : Option (((List UInt8) × Unit) × Unit) :=
  (cond (!(decide ((x.1.length : Int) = 4)))
  (some (([], ()), ()))
  (Option.bind (iter spec_RootOf.l0 ((x.1, (1, ())), ())) fun y3 =>
  (match y3 with
  | .inl u4 => (Option.bind (geti u4.1.1 0) fun y6 =>
  (some ((y6, ()), ())))
  | .inr w5 => (some w5))))
noncomputable def spec_ChainOf.l0 (x1 : (((List UInt8) × (Int × (Int × (Int × (Int × (Int × Unit)))))) × Unit)) : Option ((((List UInt8) × (Int × (Int × (Int × (Int × (Int × Unit)))))) × Unit) ⊕ ((((List UInt8) × Unit) × Unit) ⊕ (((List UInt8) × Unit) × Unit))) :=
  (Option.bind (show Option ((((List UInt8) × (Int × (Int × (Int × (Int × (Int × (Bool × Unit))))))) × Unit) ⊕ (Unit ⊕ (((List UInt8) × Unit) × Unit))) from (cond (decide (x1.1.2.2.2.2.2.1 < x1.1.2.2.2.2.1))
  (some (.inl ((x1.1.1, (x1.1.2.1, (x1.1.2.2.1, (x1.1.2.2.2.1, (x1.1.2.2.2.2.1, (x1.1.2.2.2.2.2.1, ((decide (x1.1.2.2.2.2.2.1 < 15)), ()))))))), ())))
  (some (.inl ((x1.1.1, (x1.1.2.1, (x1.1.2.2.1, (x1.1.2.2.2.1, (x1.1.2.2.2.2.1, (x1.1.2.2.2.2.2.1, (false, ()))))))), ()))))) fun y2 =>
  (match y2 with
  | .inl u3 => (cond u3.1.2.2.2.2.2.2.1
  (Option.bind (Go.Vi.spec_l06Byte.f (u3.1.2.1, ())) fun y5 =>
  (Option.bind (Go.Vi.spec_l06Byte.f (u3.1.2.2.1, ())) fun y6 =>
  (Option.bind (cat y5.1.1 y6.1.1) fun y7 =>
  (Option.bind (Go.Vi.spec_l06Byte.f ((Go.IntKind.wrap .i64 ((Int.tmod u3.1.2.2.2.1 256) + u3.1.2.2.2.2.2.1)), ())) fun y8 =>
  (Option.bind (cat y7 y8.1.1) fun y9 =>
  (Option.bind (cat y9 u3.1.1) fun y10 =>
  (Option.bind (Go.Vi.spec_Chop.f (y10, ())) fun y11 =>
  (some (.inl ((y11.1.1, (u3.1.2.1, (u3.1.2.2.1, (u3.1.2.2.2.1, (u3.1.2.2.2.2.1, ((Go.IntKind.wrap .i64 (u3.1.2.2.2.2.2.1 + 1)), ())))))), ()))))))))))
  (some (.inr (.inl ((u3.1.1, ()), ())))))
  | .inr w4 => (match w4 with
  | .inl u12 => none
  | .inr w13 => (some (.inr (.inr w13))))))
noncomputable def spec_ChainOf.f (x : ((List UInt8) × (Int × (Int × (Int × (Int × Unit)))))) : Option (((List UInt8) × Unit) × Unit) :=
  (Option.bind (iter spec_ChainOf.l0 ((x.1, (x.2.1, (x.2.2.1, (x.2.2.2.1, (x.2.2.2.2.1, (0, ())))))), ())) fun y14 =>
  (match y14 with
  | .inl u15 => (some ((u15.1.1, ()), ()))
  | .inr w16 => (some w16)))
noncomputable def spec_OncePublic.l0 (x1 : (((List (List UInt8)) × (Int × ((List UInt8) × (Int × Unit)))) × Unit)) : Option ((((List (List UInt8)) × (Int × ((List UInt8) × (Int × Unit)))) × Unit) ⊕ ((((List UInt8) × Unit) × Unit) ⊕ (((List UInt8) × Unit) × Unit))) :=
  (cond (decide (x1.1.2.2.2.1 < 10))
  (Option.bind (geti x1.1.1 x1.1.2.2.2.1) fun y2 =>
  (Option.bind (Go.Vi.spec_ChainOf.f (y2, (x1.1.2.1, (x1.1.2.2.2.1, (0, (15, ())))))) fun y3 =>
  (Option.bind (cat x1.1.2.2.1 y3.1.1) fun y4 =>
  (some (.inl ((x1.1.1, (x1.1.2.1, (y4, ((Go.IntKind.wrap .i64 (x1.1.2.2.2.1 + 1)), ())))), ()))))))
  (some (.inr (.inl ((x1.1.2.2.1, ()), ())))))
noncomputable def spec_OncePublic.f (x : ((List (List UInt8)) × (Int × Unit))) : Option (((List UInt8) × Unit) × Unit) :=
  (cond (!(decide ((x.1.length : Int) = 10)))
  (some (([], ()), ()))
  (Option.bind (iter spec_OncePublic.l0 ((x.1, (x.2.1, ([], (0, ())))), ())) fun y5 =>
  (match y5 with
  | .inl u6 => (Option.bind (Go.Vi.spec_Chop.f (u6.1.1, ())) fun y8 =>
  (some ((y8.1.1, ()), ())))
  | .inr w7 => (some w7))))
noncomputable def spec_OnceKey.l0 (x1 : (((List UInt8) × (Int × ((List (List UInt8)) × (Int × Unit)))) × Unit)) : Option ((((List UInt8) × (Int × ((List (List UInt8)) × (Int × Unit)))) × Unit) ⊕ ((((List (List UInt8)) × Unit) × Unit) ⊕ (((List (List UInt8)) × Unit) × Unit))) :=
  (cond (decide (x1.1.2.2.2.1 < 10))
  (Option.bind (Go.Vi.spec_l06Byte.f (x1.1.2.1, ())) fun y2 =>
  (Option.bind (cat x1.1.1 y2.1.1) fun y3 =>
  (Option.bind (Go.Vi.spec_l06Byte.f (x1.1.2.2.2.1, ())) fun y4 =>
  (Option.bind (cat y3 y4.1.1) fun y5 =>
  (Option.bind (cat y5 [111]) fun y6 =>
  (Option.bind (Go.Vi.spec_Chop.f (y6, ())) fun y7 =>
  (Option.bind (app 16 x1.1.2.2.1 [y7.1.1]) fun y8 =>
  (some (.inl ((x1.1.1, (x1.1.2.1, (y8, ((Go.IntKind.wrap .i64 (x1.1.2.2.2.1 + 1)), ())))), ()))))))))))
  (some (.inr (.inl ((x1.1.2.2.1, ()), ())))))
noncomputable def spec_OnceKey.f (x : ((List UInt8) × (Int × Unit))) : Option (((List (List UInt8)) × Unit) × Unit) :=
  (Option.bind (iter spec_OnceKey.l0 ((x.1, (x.2.1, ([], (0, ())))), ())) fun y9 =>
  (match y9 with
  | .inl u10 => (some ((u10.1.1, ()), ()))
  | .inr w11 => (some w11)))
noncomputable def spec_l16Leaves.l0 (x1 : (((List UInt8) × ((List (List UInt8)) × (Int × Unit))) × Unit)) : Option ((((List UInt8) × ((List (List UInt8)) × (Int × Unit))) × Unit) ⊕ ((((List (List UInt8)) × Unit) × Unit) ⊕ (((List (List UInt8)) × Unit) × Unit))) :=
  (cond (decide (x1.1.2.2.1 < 4))
  (Option.bind (Go.Vi.spec_OnceKey.f (x1.1.1, (x1.1.2.2.1, ()))) fun y2 =>
  (Option.bind (Go.Vi.spec_OncePublic.f (y2.1.1, (x1.1.2.2.1, ()))) fun y3 =>
  (Option.bind (app 16 x1.1.2.1 [y3.1.1]) fun y4 =>
  (some (.inl ((x1.1.1, (y4, ((Go.IntKind.wrap .i64 (x1.1.2.2.1 + 1)), ()))), ()))))))
  (some (.inr (.inl ((x1.1.2.1, ()), ())))))
noncomputable def spec_l16Leaves.f (x : ((List UInt8) × Unit)) : Option (((List (List UInt8)) × Unit) × Unit) :=
  (Option.bind (iter spec_l16Leaves.l0 ((x.1, ([], (0, ()))), ())) fun y5 =>
  (match y5 with
  | .inl u6 => (some ((u6.1.1, ()), ()))
  | .inr w7 => (some w7)))
noncomputable def spec_PublicOf.f (x : ((List UInt8) × Unit)) : Option (((List UInt8) × Unit) × Unit) :=
  (Option.bind (Go.Vi.spec_l16Leaves.f (x.1, ())) fun y0 =>
  (Option.bind (Go.Vi.spec_RootOf.f (y0.1.1, ())) fun y1 =>
  (some ((y1.1.1, ()), ()))))
noncomputable def spec_HyperPublic.f (x : ((List UInt8) × Unit)) : Option (((List UInt8) × Unit) × Unit) :=
  (Option.bind (cat x.1 [116]) fun y0 =>
  (Option.bind (Go.Vi.spec_PublicOf.f (y0, ())) fun y1 =>
  (some ((y1.1.1, ()), ()))))
noncomputable def spec_PublicPart.f (x : ((Int × (Int × (Bool × (Bool × (Bool × (Bool × ((List UInt8) × (Int × Unit)))))))) × Unit)) : Option (((List UInt8) × Unit) × Unit) :=
  (Option.bind (Go.Vi.spec_ThingOk.f (x.1, ())) fun y0 =>
  (cond (!y0.1.1)
  (some (([], ()), ()))
  (cond (decide (x.1.2.1 = 1))
  (Option.bind (Go.Vi.spec_PairOf.f (x.1.2.2.2.2.2.2.1, ())) fun y1 =>
  (some ((y1.1.1.1, ()), ())))
  (cond (decide (x.1.2.1 = 2))
  (Option.bind (Go.Vi.spec_HyperPublic.f (x.1.2.2.2.2.2.2.1, ())) fun y2 =>
  (some ((y2.1.1, ()), ())))
  (some (([], ()), ()))))))
noncomputable def laws_toThing.f (x : ((Int × (Int × (Bool × (Bool × (Bool × (Bool × ((List UInt8) × (Int × Unit)))))))) × Unit)) : Option (((Int × (Int × (Bool × (Bool × (Bool × (Bool × ((List UInt8) × (Int × Unit)))))))) × Unit) × Unit) :=
  (some (((x.1.1, (x.1.2.1, (x.1.2.2.1, (x.1.2.2.2.1, (x.1.2.2.2.2.1, (x.1.2.2.2.2.2.1, (x.1.2.2.2.2.2.2.1, (x.1.2.2.2.2.2.2.2.1, ())))))))), ()), ()))
noncomputable def impl_in.f (x : (Int × (Int × (Int × Unit)))) : Option ((Bool × Unit) × Unit) :=
  (cond (decide (x.1 ≥ x.2.1))
  (some (((decide (x.1 ≤ x.2.2.1)), ()), ()))
  (some ((false, ()), ())))
noncomputable def impl_ThingOk.f (x : ((Int × (Int × (Bool × (Bool × (Bool × (Bool × ((List UInt8) × (Int × Unit)))))))) × Unit)) : Option ((Bool × Unit) × Unit) :=
  (Option.bind (show Option (((Unit × (Bool × Unit)) × ((Int × (Int × (Bool × (Bool × (Bool × (Bool × ((List UInt8) × (Int × Unit)))))))) × Unit)) ⊕ (Unit ⊕ ((Bool × Unit) × Unit))) from (Option.bind (Go.Vi.impl_in.f (x.1.1, (1, (1000, ())))) fun y0 =>
  (cond (!y0.1.1)
  (some (.inl (((), (true, ())), (x.1, ()))))
  (Option.bind (Go.Vi.impl_in.f (x.1.2.2.2.2.2.2.2.1, (0, (16, ())))) fun y1 =>
  (cond (!y1.1.1)
  (some (.inl (((), (true, ())), (x.1, ()))))
  (cond (!(decide (x.1.2.1 = 2)))
  (cond (!(decide (x.1.2.2.2.2.2.2.2.1 = 0)))
  (some (.inl (((), (true, ())), (x.1, ()))))
  (cond x.1.2.2.2.2.1
  (some (.inl (((), (true, ())), (x.1, ()))))
  (cond (!(decide (x.1.2.1 = 1)))
  (some (.inl (((), (x.1.2.2.2.2.2.1, ())), (x.1, ()))))
  (some (.inl (((), (false, ())), (x.1, ())))))))
  (cond (!(decide (x.1.2.1 = 1)))
  (some (.inl (((), (x.1.2.2.2.2.2.1, ())), (x.1, ()))))
  (some (.inl (((), (false, ())), (x.1, ()))))))))))) fun y2 =>
  (match y2 with
  | .inl u3 => (cond u3.1.2.1
  (some ((false, ()), ()))
  (Option.bind (show Option (((Unit × (Int × (Bool × Unit))) × ((Int × (Int × (Bool × (Bool × (Bool × (Bool × ((List UInt8) × (Int × Unit)))))))) × Unit)) ⊕ (Unit ⊕ ((Bool × Unit) × Unit))) from (cond (decide (u3.2.1.2.1 = 1))
  (some (.inl (((), (u3.2.1.2.1, ((decide (u3.2.1.2.1 = 1)), ()))), (u3.2.1, ()))))
  (some (.inl (((), (u3.2.1.2.1, ((decide (u3.2.1.2.1 = 2)), ()))), (u3.2.1, ())))))) fun y5 =>
  (match y5 with
  | .inl u6 => (cond u6.1.2.2.1
  (some (((decide ((u6.2.1.2.2.2.2.2.2.1.length : Int) = 32)), ()), ()))
  (cond (decide (u6.1.2.1 = 3))
  (some (((decide ((u6.2.1.2.2.2.2.2.2.1.length : Int) ≤ 100)), ()), ()))
  (some ((false, ()), ()))))
  | .inr w7 => (match w7 with
  | .inl u8 => none
  | .inr w9 => (some w9)))))
  | .inr w4 => (match w4 with
  | .inl u10 => none
  | .inr w11 => (some w11))))
noncomputable def math_bits_RotateLeft32.f (x : (Int × (Int × Unit))) : Option ((Int × Unit) × Unit) :=
  (cond (decide ((ibits .and .u64 (Go.IntKind.wrap .u64 x.2.1) 31) < 0))
  none
  (cond (decide ((Go.IntKind.wrap .u64 (32 - (ibits .and .u64 (Go.IntKind.wrap .u64 x.2.1) 31))) < 0))
  none
  (some (((ibits .or .u32 (ishl .u32 x.1 (ibits .and .u64 (Go.IntKind.wrap .u64 x.2.1) 31)) (ishr .u32 x.1 (Go.IntKind.wrap .u64 (32 - (ibits .and .u64 (Go.IntKind.wrap .u64 x.2.1) 31))))), ()), ()))))
noncomputable def impl_right.f (x : (Int × (Int × Unit))) : Option ((Int × Unit) × Unit) :=
  (Option.bind (Go.Vi.math_bits_RotateLeft32.f (x.1, ((Go.IntKind.wrap .i64 (0 - x.2.1)), ()))) fun y0 =>
  (some ((y0.1.1, ()), ())))
noncomputable def impl_wordsOf.l2 (x3 : (((List UInt8) × (Unit × (Unit × (Int × (Int × (Int × Unit)))))) × ((List Int) × ((List Int) × Unit)))) : Option ((((List UInt8) × (Unit × (Unit × (Int × (Int × (Int × Unit)))))) × ((List Int) × ((List Int) × Unit))) ⊕ ((((List UInt8) × (Unit × (Unit × (Int × Unit)))) × ((List Int) × ((List Int) × Unit))) ⊕ (((List Int) × Unit) × Unit))) :=
  (cond (decide (x3.1.2.2.2.2.2.1 < 4))
  (cond (inb x3.1.2.2.2.1 64)
  (Option.bind x3.2.2.1[(Int.toNat x3.1.2.2.2.1)]? fun y4 =>
  (Option.bind (geti x3.1.1 (Go.IntKind.wrap .i64 ((Go.IntKind.wrap .i64 (4 * x3.1.2.2.2.1)) + x3.1.2.2.2.2.2.1))) fun y5 =>
  (cond (inb x3.1.2.2.2.1 64)
  (Option.bind x3.2.2.1[(Int.toNat x3.1.2.2.2.1)]? fun y6 =>
  (some (.inl ((x3.1.1, ((), ((), (x3.1.2.2.2.1, (x3.1.2.2.2.2.1, ((Go.IntKind.wrap .i64 (x3.1.2.2.2.2.2.1 + 1)), ())))))), (x3.2.1, ((List.set x3.2.2.1 (Int.toNat x3.1.2.2.2.1) (ibits .or .u32 (ishl .u32 y4 8) (Go.IntKind.wrap .u32 ((UInt8.toNat y5) : Int)))), ()))))))
  none)))
  none)
  (some (.inr (.inl ((x3.1.1, ((), ((), (x3.1.2.2.2.2.1, ())))), (x3.2.1, (x3.2.2.1, ())))))))
noncomputable def impl_wordsOf.l0 (x1 : (((List UInt8) × (Unit × (Unit × (Int × Unit)))) × ((List Int) × ((List Int) × Unit)))) : Option ((((List UInt8) × (Unit × (Unit × (Int × Unit)))) × ((List Int) × ((List Int) × Unit))) ⊕ (((Unit × (Unit × Unit)) × ((List Int) × ((List Int) × Unit))) ⊕ (((List Int) × Unit) × Unit))) :=
  (cond (decide (x1.1.2.2.2.1 < 16))
  (Option.bind (iter impl_wordsOf.l2 ((x1.1.1, ((), ((), (x1.1.2.2.2.1, (x1.1.2.2.2.1, (0, ())))))), (x1.2.1, (x1.2.2.1, ())))) fun y7 =>
  (match y7 with
  | .inl u8 => (some (.inl ((u8.1.1, ((), ((), ((Go.IntKind.wrap .i64 (u8.1.2.2.2.1 + 1)), ())))), (u8.2.1, (u8.2.2.1, ())))))
  | .inr w9 => (some (.inr (.inr w9)))))
  (some (.inr (.inl (((), ((), ())), (x1.2.1, (x1.2.2.1, ())))))))
noncomputable def impl_wordsOf.l13 (x14 : ((Unit × (Unit × (Int × Unit))) × ((List Int) × ((List Int) × Unit)))) : Option (((Unit × (Unit × (Int × Unit))) × ((List Int) × ((List Int) × Unit))) ⊕ (((Unit × (Unit × Unit)) × ((List Int) × ((List Int) × Unit))) ⊕ (((List Int) × Unit) × Unit))) :=
  (cond (decide (x14.1.2.2.1 < 64))
  (cond (inb (Go.IntKind.wrap .i64 (x14.1.2.2.1 - 15)) 64)
  (Option.bind x14.2.2.1[(Int.toNat (Go.IntKind.wrap .i64 (x14.1.2.2.1 - 15)))]? fun y15 =>
  (cond (inb (Go.IntKind.wrap .i64 (x14.1.2.2.1 - 2)) 64)
  (Option.bind x14.2.2.1[(Int.toNat (Go.IntKind.wrap .i64 (x14.1.2.2.1 - 2)))]? fun y16 =>
  (Option.bind (Go.Vi.impl_right.f (y15, (7, ()))) fun y17 =>
  (Option.bind (Go.Vi.impl_right.f (y15, (18, ()))) fun y18 =>
  (Option.bind (Go.Vi.impl_right.f (y16, (17, ()))) fun y19 =>
  (Option.bind (Go.Vi.impl_right.f (y16, (19, ()))) fun y20 =>
  (cond (inb (Go.IntKind.wrap .i64 (x14.1.2.2.1 - 7)) 64)
  (Option.bind x14.2.2.1[(Int.toNat (Go.IntKind.wrap .i64 (x14.1.2.2.1 - 7)))]? fun y21 =>
  (cond (inb (Go.IntKind.wrap .i64 (x14.1.2.2.1 - 16)) 64)
  (Option.bind x14.2.2.1[(Int.toNat (Go.IntKind.wrap .i64 (x14.1.2.2.1 - 16)))]? fun y22 =>
  (cond (inb x14.1.2.2.1 64)
  (Option.bind x14.2.2.1[(Int.toNat x14.1.2.2.1)]? fun y23 =>
  (some (.inl (((), ((), ((Go.IntKind.wrap .i64 (x14.1.2.2.1 + 1)), ()))), (x14.2.1, ((List.set x14.2.2.1 (Int.toNat x14.1.2.2.1) (Go.IntKind.wrap .u32 ((Go.IntKind.wrap .u32 ((Go.IntKind.wrap .u32 ((ibits .xor .u32 (ibits .xor .u32 y19.1.1 y20.1.1) (ishr .u32 y16 10)) + y21)) + (ibits .xor .u32 (ibits .xor .u32 y17.1.1 y18.1.1) (ishr .u32 y15 3)))) + y22))), ()))))))
  none))
  none))
  none))))))
  none))
  none)
  (some (.inr (.inl (((), ((), ())), (x14.2.1, (x14.2.2.1, ())))))))
noncomputable def impl_wordsOf.f (x : ((List UInt8) × Unit)) : Option (((List Int) × Unit) × Unit) :=
  (Option.bind (iter impl_wordsOf.l0 ((x.1, ((), ((), (0, ())))), ((List.replicate 64 0), ((List.replicate 64 0), ())))) fun y10 =>
  (match y10 with
  | .inl u11 => (Option.bind (iter impl_wordsOf.l13 (((), ((), (16, ()))), (u11.2.1, (u11.2.2.1, ())))) fun y24 =>
  (match y24 with
  | .inl u25 => (some ((u25.2.2.1, ()), ()))
  | .inr w26 => (some w26)))
  | .inr w12 => (some w12)))
noncomputable def impl_oneBlock.l9 (x10 : ((Unit × (Unit × (Unit × (Int × (Int × (Int × (Int × (Int × (Int × (Int × (Int × (Int × Unit)))))))))))) × ((List Int) × ((List Int) × ((List Int) × Unit))))) : Option (((Unit × (Unit × (Unit × (Int × (Int × (Int × (Int × (Int × (Int × (Int × (Int × (Int × Unit)))))))))))) × ((List Int) × ((List Int) × ((List Int) × Unit)))) ⊕ (((Unit × (Unit × (Int × (Int × (Int × (Int × (Int × (Int × (Int × (Int × Unit)))))))))) × ((List Int) × ((List Int) × Unit))) ⊕ (((List Int) × Unit) × Unit))) :=
  (cond (decide (x10.1.2.2.2.2.2.2.2.2.2.2.2.1 < 64))
  (Option.bind (Go.Vi.impl_right.f (x10.1.2.2.2.2.2.2.2.1, (6, ()))) fun y11 =>
  (Option.bind (Go.Vi.impl_right.f (x10.1.2.2.2.2.2.2.2.1, (11, ()))) fun y12 =>
  (Option.bind (Go.Vi.impl_right.f (x10.1.2.2.2.2.2.2.2.1, (25, ()))) fun y13 =>
  (Option.bind (geti Go.Vi.keysData x10.1.2.2.2.2.2.2.2.2.2.2.2.1) fun y14 =>
  (cond (inb x10.1.2.2.2.2.2.2.2.2.2.2.2.1 64)
  (Option.bind x10.2.2.2.1[(Int.toNat x10.1.2.2.2.2.2.2.2.2.2.2.2.1)]? fun y15 =>
  (Option.bind (Go.Vi.impl_right.f (x10.1.2.2.2.1, (2, ()))) fun y16 =>
  (Option.bind (Go.Vi.impl_right.f (x10.1.2.2.2.1, (13, ()))) fun y17 =>
  (Option.bind (Go.Vi.impl_right.f (x10.1.2.2.2.1, (22, ()))) fun y18 =>
  (some (.inl (((), ((), ((), ((Go.IntKind.wrap .u32 ((Go.IntKind.wrap .u32 ((Go.IntKind.wrap .u32 ((Go.IntKind.wrap .u32 ((Go.IntKind.wrap .u32 (x10.1.2.2.2.2.2.2.2.2.2.2.1 + (ibits .xor .u32 (ibits .xor .u32 y11.1.1 y12.1.1) y13.1.1))) + (ibits .xor .u32 (ibits .and .u32 x10.1.2.2.2.2.2.2.2.1 x10.1.2.2.2.2.2.2.2.2.1) (ibits .and .u32 (ibits .xor .u32 (Go.IntKind.max .u32) x10.1.2.2.2.2.2.2.2.1) x10.1.2.2.2.2.2.2.2.2.2.1)))) + y14)) + y15)) + (Go.IntKind.wrap .u32 ((ibits .xor .u32 (ibits .xor .u32 y16.1.1 y17.1.1) y18.1.1) + (ibits .xor .u32 (ibits .xor .u32 (ibits .and .u32 x10.1.2.2.2.1 x10.1.2.2.2.2.1) (ibits .and .u32 x10.1.2.2.2.1 x10.1.2.2.2.2.2.1)) (ibits .and .u32 x10.1.2.2.2.2.1 x10.1.2.2.2.2.2.1)))))), (x10.1.2.2.2.1, (x10.1.2.2.2.2.1, (x10.1.2.2.2.2.2.1, ((Go.IntKind.wrap .u32 (x10.1.2.2.2.2.2.2.1 + (Go.IntKind.wrap .u32 ((Go.IntKind.wrap .u32 ((Go.IntKind.wrap .u32 ((Go.IntKind.wrap .u32 (x10.1.2.2.2.2.2.2.2.2.2.2.1 + (ibits .xor .u32 (ibits .xor .u32 y11.1.1 y12.1.1) y13.1.1))) + (ibits .xor .u32 (ibits .and .u32 x10.1.2.2.2.2.2.2.2.1 x10.1.2.2.2.2.2.2.2.2.1) (ibits .and .u32 (ibits .xor .u32 (Go.IntKind.max .u32) x10.1.2.2.2.2.2.2.2.1) x10.1.2.2.2.2.2.2.2.2.2.1)))) + y14)) + y15)))), (x10.1.2.2.2.2.2.2.2.1, (x10.1.2.2.2.2.2.2.2.2.1, (x10.1.2.2.2.2.2.2.2.2.2.1, ((Go.IntKind.wrap .i64 (x10.1.2.2.2.2.2.2.2.2.2.2.2.1 + 1)), ())))))))))))), (x10.2.1, (x10.2.2.1, (x10.2.2.2.1, ()))))))))))
  none)))))
  (some (.inr (.inl (((), ((), (x10.1.2.2.2.1, (x10.1.2.2.2.2.1, (x10.1.2.2.2.2.2.1, (x10.1.2.2.2.2.2.2.1, (x10.1.2.2.2.2.2.2.2.1, (x10.1.2.2.2.2.2.2.2.2.1, (x10.1.2.2.2.2.2.2.2.2.2.1, (x10.1.2.2.2.2.2.2.2.2.2.2.1, ())))))))))), (x10.2.1, (x10.2.2.1, ())))))))
noncomputable def impl_oneBlock.l22 (x23 : ((Unit × (Unit × (Unit × (Int × Unit)))) × ((List Int) × ((List Int) × ((List Int) × Unit))))) : Option (((Unit × (Unit × (Unit × (Int × Unit)))) × ((List Int) × ((List Int) × ((List Int) × Unit)))) ⊕ (((Unit × (Unit × Unit)) × ((List Int) × ((List Int) × Unit))) ⊕ (((List Int) × Unit) × Unit))) :=
  (cond (decide (x23.1.2.2.2.1 < 8))
  (cond (inb x23.1.2.2.2.1 8)
  (Option.bind x23.2.2.2.1[(Int.toNat x23.1.2.2.2.1)]? fun y24 =>
  (cond (inb x23.1.2.2.2.1 8)
  (Option.bind x23.2.1[(Int.toNat x23.1.2.2.2.1)]? fun y25 =>
  (cond (inb x23.1.2.2.2.1 8)
  (Option.bind x23.2.2.2.1[(Int.toNat x23.1.2.2.2.1)]? fun y26 =>
  (some (.inl (((), ((), ((), ((Go.IntKind.wrap .i64 (x23.1.2.2.2.1 + 1)), ())))), (x23.2.1, (x23.2.2.1, ((List.set x23.2.2.2.1 (Int.toNat x23.1.2.2.2.1) (Go.IntKind.wrap .u32 (y24 + y25))), ())))))))
  none))
  none))
  none)
  (some (.inr (.inl (((), ((), ())), (x23.2.2.1, (x23.2.2.2.1, ())))))))
noncomputable def impl_oneBlock.f (x : ((List Int) × ((List UInt8) × Unit))) : Option (((List Int) × Unit) × Unit) :=
  (Option.bind (Go.Vi.impl_wordsOf.f (x.2.1, ())) fun y0 =>
  (cond (inb 0 8)
  (Option.bind x.1[(Int.toNat 0)]? fun y1 =>
  (cond (inb 1 8)
  (Option.bind x.1[(Int.toNat 1)]? fun y2 =>
  (cond (inb 2 8)
  (Option.bind x.1[(Int.toNat 2)]? fun y3 =>
  (cond (inb 3 8)
  (Option.bind x.1[(Int.toNat 3)]? fun y4 =>
  (cond (inb 4 8)
  (Option.bind x.1[(Int.toNat 4)]? fun y5 =>
  (cond (inb 5 8)
  (Option.bind x.1[(Int.toNat 5)]? fun y6 =>
  (cond (inb 6 8)
  (Option.bind x.1[(Int.toNat 6)]? fun y7 =>
  (cond (inb 7 8)
  (Option.bind x.1[(Int.toNat 7)]? fun y8 =>
  (Option.bind (iter impl_oneBlock.l9 (((), ((), ((), (y1, (y2, (y3, (y4, (y5, (y6, (y7, (y8, (0, ())))))))))))), (x.1, ((List.replicate 8 0), (y0.1.1, ()))))) fun y19 =>
  (match y19 with
  | .inl u20 => (Option.bind (iter impl_oneBlock.l22 (((), ((), ((), (0, ())))), (u20.2.1, (u20.2.2.1, ((List.set (List.set (List.set (List.set (List.set (List.set (List.set (List.set (List.replicate 8 0) 0 u20.1.2.2.1) 1 u20.1.2.2.2.1) 2 u20.1.2.2.2.2.1) 3 u20.1.2.2.2.2.2.1) 4 u20.1.2.2.2.2.2.2.1) 5 u20.1.2.2.2.2.2.2.2.1) 6 u20.1.2.2.2.2.2.2.2.2.1) 7 u20.1.2.2.2.2.2.2.2.2.2.1), ()))))) fun y27 =>
  (match y27 with
  | .inl u28 => (some ((u28.2.2.1, ()), ()))
  | .inr w29 => (some w29)))
  | .inr w21 => (some w21))))
  none))
  none))
  none))
  none))
  none))
  none))
  none))
  none))
noncomputable def impl_blocks.l0 (x1 : (((List UInt8) × (Unit × (Unit × Unit))) × ((List Int) × ((List Int) × Unit)))) : Option ((((List UInt8) × (Unit × (Unit × Unit))) × ((List Int) × ((List Int) × Unit))) ⊕ ((((List UInt8) × (Unit × (Unit × Unit))) × ((List Int) × ((List Int) × Unit))) ⊕ (((List Int) × ((List UInt8) × Unit)) × Unit))) :=
  (cond (decide ((x1.1.1.length : Int) ≥ 64))
  (Option.bind (slc x1.1.1 0 64) fun y2 =>
  (Option.bind (Go.Vi.impl_oneBlock.f (x1.2.1, (y2, ()))) fun y3 =>
  (Option.bind (slc x1.1.1 64 (x1.1.1.length : Int)) fun y4 =>
  (some (.inl ((y4, ((), ((), ()))), (y3.1.1, (x1.2.2.1, ()))))))))
  (some (.inr (.inl ((x1.1.1, ((), ((), ()))), (x1.2.1, (x1.2.2.1, ())))))))
noncomputable def impl_blocks.f (x : ((List Int) × ((List UInt8) × Unit))) : Option (((List Int) × ((List UInt8) × Unit)) × Unit) :=
  (Option.bind (iter impl_blocks.l0 ((x.2.1, ((), ((), ()))), (x.1, ((List.replicate 8 0), ())))) fun y5 =>
  (match y5 with
  | .inl u6 => (some ((u6.2.1, (u6.1.1, ())), ()))
  | .inr w7 => (some w7)))
noncomputable def impl_firstState.f (x : Unit) : Option (((List Int) × Unit) × Unit) :=
  (some (((List.set (List.set (List.set (List.set (List.set (List.set (List.set (List.set (List.replicate 8 0) 0 1779033703) 1 3144134277) 2 1013904242) 3 2773480762) 4 1359893119) 5 2600822924) 6 528734635) 7 1541459225), ()), ()))
noncomputable def impl_zeros.f (x : (Int × Unit)) : Option (((List UInt8) × Unit) × Unit) :=
  (cond (decide ((0 ≤ x.1) ∧ ((x.1 * (1 : Int)) ≤ 140737488355328)))
  (some (((ofBytes (List.replicate (Int.toNat x.1) 0)), ()), ()))
  none)
noncomputable def impl_fourBytes.f (x : (Int × Unit)) : Option (((List UInt8) × Unit) × Unit) :=
  (some (((ofBytes [(Go.IntKind.wrap .u8 (ishr .u32 x.1 24)), (Go.IntKind.wrap .u8 (ishr .u32 x.1 16)), (Go.IntKind.wrap .u8 (ishr .u32 x.1 8)), (Go.IntKind.wrap .u8 x.1)]), ()), ()))
noncomputable def impl_eightBytes.f (x : (Int × Unit)) : Option (((List UInt8) × Unit) × Unit) :=
  (Option.bind (Go.Vi.impl_fourBytes.f ((Go.IntKind.wrap .u32 (ishr .i64 x.1 32)), ())) fun y0 =>
  (Option.bind (Go.Vi.impl_fourBytes.f ((Go.IntKind.wrap .u32 x.1), ())) fun y1 =>
  (Option.bind (cat y0.1.1 y1.1.1) fun y2 =>
  (some ((y2, ()), ())))))
noncomputable def impl_ending.f (x : (Int × Unit)) : Option (((List UInt8) × Unit) × Unit) :=
  (Option.bind (Go.Vi.impl_zeros.f ((Int.tmod (Go.IntKind.wrap .i64 (119 - (Int.tmod x.1 64))) 64), ())) fun y0 =>
  (Option.bind (cat [128] y0.1.1) fun y1 =>
  (Option.bind (Go.Vi.impl_eightBytes.f ((Go.IntKind.wrap .i64 (8 * x.1)), ())) fun y2 =>
  (Option.bind (cat y1 y2.1.1) fun y3 =>
  (some ((y3, ()), ()))))))
noncomputable def impl_stateText.l0 (x1 : (((List UInt8) × ((List Int) × (Int × Unit))) × Unit)) : Option ((((List UInt8) × ((List Int) × (Int × Unit))) × Unit) ⊕ ((((List UInt8) × Unit) × Unit) ⊕ (((List UInt8) × Unit) × Unit))) :=
  (cond (decide (x1.1.2.2.1 < 8))
  (Option.bind (geti x1.1.2.1 x1.1.2.2.1) fun y2 =>
  (Option.bind (Go.Vi.impl_fourBytes.f (y2, ())) fun y3 =>
  (Option.bind (cat x1.1.1 y3.1.1) fun y4 =>
  (some (.inl ((y4, (x1.1.2.1, ((Go.IntKind.wrap .i64 (x1.1.2.2.1 + 1)), ()))), ()))))))
  (some (.inr (.inl ((x1.1.1, ()), ())))))
noncomputable def impl_stateText.f (x : ((List Int) × Unit)) : Option (((List UInt8) × Unit) × Unit) :=
  (Option.bind (iter impl_stateText.l0 (([], (x.1, (0, ()))), ())) fun y5 =>
  (match y5 with
  | .inl u6 => (some ((u6.1.1, ()), ()))
  | .inr w7 => (some w7)))
noncomputable def impl_DigestOf.f (x : ((List UInt8) × Unit)) : Option (((List UInt8) × Unit) × Unit) :=
  (Option.bind (Go.Vi.impl_firstState.f ()) fun y0 =>
  (Option.bind (Go.Vi.impl_ending.f ((x.1.length : Int), ())) fun y1 =>
  (Option.bind (cat x.1 y1.1.1) fun y2 =>
  (Option.bind (Go.Vi.impl_blocks.f (y0.1.1, (y2, ()))) fun y3 =>
  (Option.bind (Go.Vi.impl_stateText.f (y3.1.1, ())) fun y4 =>
  (some ((y4.1.1, ()), ())))))))
noncomputable def impl_PolyOk.l0 (x1 : (((List Int) × ((List Int) × (Int × (Int × Unit)))) × Unit)) : Option ((((List Int) × ((List Int) × (Int × (Int × Unit)))) × Unit) ⊕ ((((List Int) × Unit) × Unit) ⊕ ((Bool × Unit) × Unit))) :=
  (cond (decide (x1.1.2.2.2.1 < x1.1.2.2.1))
  (Option.bind (geti x1.1.2.1 x1.1.2.2.2.1) fun y2 =>
  (Option.bind (Go.Vi.impl_in.f (y2, (0, (3328, ())))) fun y3 =>
  (cond (!y3.1.1)
  (some (.inr (.inr ((false, ()), ()))))
  (some (.inl ((x1.1.1, (x1.1.2.1, (x1.1.2.2.1, ((Go.IntKind.wrap .i64 (x1.1.2.2.2.1 + 1)), ())))), ()))))))
  (some (.inr (.inl ((x1.1.1, ()), ())))))
noncomputable def impl_PolyOk.f (x : ((List Int) × Unit)) : Option ((Bool × Unit) × Unit) :=
  (Option.bind (iter impl_PolyOk.l0 ((x.1, (x.1, ((x.1.length : Int), (0, ())))), ())) fun y4 =>
  (match y4 with
  | .inl u5 => (some (((decide ((u5.1.1.length : Int) = 256)), ()), ()))
  | .inr w6 => (some w6)))
noncomputable def impl_copyInts.f (x : ((List Int) × Unit)) : Option (((List Int) × Unit) × Unit) :=
  (Option.bind (app 8 [] x.1) fun y0 =>
  (some ((y0, ()), ())))
noncomputable def impl_modQ.f (x : (Int × Unit)) : Option ((Int × Unit) × Unit) :=
  (some (((Int.tmod (Go.IntKind.wrap .i64 ((Int.tmod x.1 3329) + 3329)) 3329), ()), ()))
noncomputable def impl_PowQ.l2 (x3 : ((Int × (Int × (Int × Unit))) × Unit)) : Option (((Int × (Int × (Int × Unit))) × Unit) ⊕ (((Int × Unit) × Unit) ⊕ ((Int × Unit) × Unit))) :=
  (cond (decide (x3.1.2.1 > 0))
  (cond (decide ((Int.tmod x3.1.2.1 2) = 1))
  (some (.inl (((Int.tmod (Go.IntKind.wrap .i64 (x3.1.1 * x3.1.1)) 3329), ((Go.IntKind.wrap .i64 (Int.tdiv x3.1.2.1 2)), ((Int.tmod (Go.IntKind.wrap .i64 (x3.1.2.2.1 * x3.1.1)) 3329), ()))), ())))
  (some (.inl (((Int.tmod (Go.IntKind.wrap .i64 (x3.1.1 * x3.1.1)) 3329), ((Go.IntKind.wrap .i64 (Int.tdiv x3.1.2.1 2)), (x3.1.2.2.1, ()))), ()))))
  (some (.inr (.inl ((x3.1.2.2.1, ()), ())))))
noncomputable def impl_PowQ.f (x : (Int × (Int × Unit))) : Option ((Int × Unit) × Unit) :=
  (Option.bind (Go.Vi.impl_in.f (x.2.1, (0, (1000000000, ())))) fun y0 =>
  (cond (!y0.1.1)
  (some ((0, ()), ()))
  (Option.bind (Go.Vi.impl_modQ.f (x.1, ())) fun y1 =>
  (Option.bind (iter impl_PowQ.l2 ((y1.1.1, (x.2.1, (1, ()))), ())) fun y4 =>
  (match y4 with
  | .inl u5 => (some ((u5.1.1, ()), ()))
  | .inr w6 => (some w6))))))
noncomputable def impl_Turn7.l0 (x1 : ((Int × (Int × (Int × Unit))) × Unit)) : Option (((Int × (Int × (Int × Unit))) × Unit) ⊕ (((Int × Unit) × Unit) ⊕ ((Int × Unit) × Unit))) :=
  (cond (decide (x1.1.2.2.1 < 7))
  (cond (decide (x1.1.2.2.1 < 0))
  none
  (some (.inl ((x1.1.1, ((Go.IntKind.wrap .i64 ((Go.IntKind.wrap .i64 (2 * x1.1.2.1)) + (ibits .and .i64 (ishr .i64 x1.1.1 x1.1.2.2.1) 1))), ((Go.IntKind.wrap .i64 (x1.1.2.2.1 + 1)), ()))), ()))))
  (some (.inr (.inl ((x1.1.2.1, ()), ())))))
noncomputable def impl_Turn7.f (x : (Int × Unit)) : Option ((Int × Unit) × Unit) :=
  (Option.bind (iter impl_Turn7.l0 ((x.1, (0, (0, ()))), ())) fun y2 =>
  (match y2 with
  | .inl u3 => (some ((u3.1.1, ()), ()))
  | .inr w4 => (some w4)))
noncomputable def impl_Ntt.l8 (x9 : (((List Int) × (Int × (Int × (Int × (Int × (Int × Unit)))))) × Unit)) : Option ((((List Int) × (Int × (Int × (Int × (Int × (Int × Unit)))))) × Unit) ⊕ ((((List Int) × (Int × (Int × (Int × Unit)))) × Unit) ⊕ (((List Int) × Unit) × Unit))) :=
  (cond (decide (x9.1.2.2.2.2.2.1 < (Go.IntKind.wrap .i64 (x9.1.2.2.2.1 + x9.1.2.2.1))))
  (Option.bind (geti x9.1.1 (Go.IntKind.wrap .i64 (x9.1.2.2.2.2.2.1 + x9.1.2.2.1))) fun y10 =>
  (Option.bind x9.1.1[(Int.toNat (Go.IntKind.wrap .i64 (x9.1.2.2.2.2.2.1 + x9.1.2.2.1)))]? fun y11 =>
  (Option.bind (geti x9.1.1 x9.1.2.2.2.2.2.1) fun y12 =>
  (Option.bind x9.1.1[(Int.toNat x9.1.2.2.2.2.2.1)]? fun y13 =>
  (Option.bind (Go.Vi.impl_modQ.f ((Go.IntKind.wrap .i64 (y13 + (Go.IntKind.wrap .i64 (x9.1.2.2.2.2.1 * y11)))), ())) fun y14 =>
  (Option.bind (geti x9.1.1 x9.1.2.2.2.2.2.1) fun y15 =>
  (Option.bind x9.1.1[(Int.toNat x9.1.2.2.2.2.2.1)]? fun y16 =>
  (Option.bind (Go.Vi.impl_modQ.f ((Go.IntKind.wrap .i64 (y16 - (Go.IntKind.wrap .i64 (x9.1.2.2.2.2.1 * y11)))), ())) fun y17 =>
  (Option.bind (geti x9.1.1 x9.1.2.2.2.2.2.1) fun y18 =>
  (Option.bind x9.1.1[(Int.toNat x9.1.2.2.2.2.2.1)]? fun y19 =>
  (Option.bind (geti (List.set x9.1.1 (Int.toNat x9.1.2.2.2.2.2.1) y14.1.1) (Go.IntKind.wrap .i64 (x9.1.2.2.2.2.2.1 + x9.1.2.2.1))) fun y20 =>
  (Option.bind (List.set x9.1.1 (Int.toNat x9.1.2.2.2.2.2.1) y14.1.1)[(Int.toNat (Go.IntKind.wrap .i64 (x9.1.2.2.2.2.2.1 + x9.1.2.2.1)))]? fun y21 =>
  (some (.inl (((List.set (List.set x9.1.1 (Int.toNat x9.1.2.2.2.2.2.1) y14.1.1) (Int.toNat (Go.IntKind.wrap .i64 (x9.1.2.2.2.2.2.1 + x9.1.2.2.1))) y17.1.1), (x9.1.2.1, (x9.1.2.2.1, (x9.1.2.2.2.1, (x9.1.2.2.2.2.1, ((Go.IntKind.wrap .i64 (x9.1.2.2.2.2.2.1 + 1)), ())))))), ())))))))))))))))
  (some (.inr (.inl ((x9.1.1, (x9.1.2.1, (x9.1.2.2.1, (x9.1.2.2.2.1, ())))), ())))))
noncomputable def impl_Ntt.l4 (x5 : (((List Int) × (Int × (Int × (Int × Unit)))) × Unit)) : Option ((((List Int) × (Int × (Int × (Int × Unit)))) × Unit) ⊕ ((((List Int) × (Int × (Int × Unit))) × Unit) ⊕ (((List Int) × Unit) × Unit))) :=
  (cond (decide (x5.1.2.2.2.1 < 256))
  (Option.bind (Go.Vi.impl_Turn7.f (x5.1.2.1, ())) fun y6 =>
  (Option.bind (Go.Vi.impl_PowQ.f (17, (y6.1.1, ()))) fun y7 =>
  (Option.bind (iter impl_Ntt.l8 ((x5.1.1, ((Go.IntKind.wrap .i64 (x5.1.2.1 + 1)), (x5.1.2.2.1, (x5.1.2.2.2.1, (y7.1.1, (x5.1.2.2.2.1, ())))))), ())) fun y22 =>
  (match y22 with
  | .inl u23 => (some (.inl ((u23.1.1, (u23.1.2.1, (u23.1.2.2.1, ((Go.IntKind.wrap .i64 (u23.1.2.2.2.1 + (Go.IntKind.wrap .i64 (2 * u23.1.2.2.1)))), ())))), ())))
  | .inr w24 => (some (.inr (.inr w24)))))))
  (some (.inr (.inl ((x5.1.1, (x5.1.2.1, (x5.1.2.2.1, ()))), ())))))
noncomputable def impl_Ntt.l2 (x3 : (((List Int) × (Int × (Int × Unit))) × Unit)) : Option ((((List Int) × (Int × (Int × Unit))) × Unit) ⊕ ((((List Int) × Unit) × Unit) ⊕ (((List Int) × Unit) × Unit))) :=
  (cond (decide (x3.1.2.2.1 ≥ 2))
  (Option.bind (iter impl_Ntt.l4 ((x3.1.1, (x3.1.2.1, (x3.1.2.2.1, (0, ())))), ())) fun y25 =>
  (match y25 with
  | .inl u26 => (some (.inl ((u26.1.1, (u26.1.2.1, ((Go.IntKind.wrap .i64 (Int.tdiv u26.1.2.2.1 2)), ()))), ())))
  | .inr w27 => (some (.inr (.inr w27)))))
  (some (.inr (.inl ((x3.1.1, ()), ())))))
noncomputable def impl_Ntt.f (x : ((List Int) × Unit)) : Option (((List Int) × Unit) × Unit) :=
  (Option.bind (Go.Vi.impl_PolyOk.f (x.1, ())) fun y0 =>
  (cond (!y0.1.1)
  (some (([], ()), ()))
  (Option.bind (Go.Vi.impl_copyInts.f (x.1, ())) fun y1 =>
  (Option.bind (iter impl_Ntt.l2 ((y1.1.1, (1, (128, ()))), ())) fun y28 =>
  (match y28 with
  | .inl u29 => (some ((u29.1.1, ()), ()))
  | .inr w30 => (some w30))))))
noncomputable def impl_ntts.l0 (x1 : (((List (List Int)) × ((List (List Int)) × (Int × (Int × Unit)))) × Unit)) : Option ((((List (List Int)) × ((List (List Int)) × (Int × (Int × Unit)))) × Unit) ⊕ ((((List (List Int)) × Unit) × Unit) ⊕ (((List (List Int)) × Unit) × Unit))) :=
  (cond (decide (x1.1.2.2.2.1 < x1.1.2.2.1))
  (Option.bind (geti x1.1.2.1 x1.1.2.2.2.1) fun y2 =>
  (Option.bind (Go.Vi.impl_Ntt.f (y2, ())) fun y3 =>
  (Option.bind (app 24 x1.1.1 [y3.1.1]) fun y4 =>
  (some (.inl ((y4, (x1.1.2.1, (x1.1.2.2.1, ((Go.IntKind.wrap .i64 (x1.1.2.2.2.1 + 1)), ())))), ()))))))
  (some (.inr (.inl ((x1.1.1, ()), ())))))
noncomputable def impl_ntts.f (x : ((List (List Int)) × Unit)) : Option (((List (List Int)) × Unit) × Unit) :=
  (Option.bind (iter impl_ntts.l0 (([], (x.1, ((x.1.length : Int), (0, ())))), ())) fun y5 =>
  (match y5 with
  | .inl u6 => (some ((u6.1.1, ()), ()))
  | .inr w7 => (some w7)))
noncomputable def impl_oneByte.f (x : (Int × Unit)) : Option (((List UInt8) × Unit) × Unit) :=
  (some (((ofBytes [(Go.IntKind.wrap .u8 x.1)]), ()), ()))
noncomputable def math_bits_RotateLeft64.f (x : (Int × (Int × Unit))) : Option ((Int × Unit) × Unit) :=
  (cond (decide ((ibits .and .u64 (Go.IntKind.wrap .u64 x.2.1) 63) < 0))
  none
  (cond (decide ((Go.IntKind.wrap .u64 (64 - (ibits .and .u64 (Go.IntKind.wrap .u64 x.2.1) 63))) < 0))
  none
  (some (((ibits .or .u64 (ishl .u64 x.1 (ibits .and .u64 (Go.IntKind.wrap .u64 x.2.1) 63)) (ishr .u64 x.1 (Go.IntKind.wrap .u64 (64 - (ibits .and .u64 (Go.IntKind.wrap .u64 x.2.1) 63))))), ()), ()))))
noncomputable def impl_lanes_theta.l0 (x1 : ((Unit × (Unit × (Unit × ((List Int) × (Int × Unit))))) × ((List Int) × ((List Int) × ((List Int) × Unit))))) : Option (((Unit × (Unit × (Unit × ((List Int) × (Int × Unit))))) × ((List Int) × ((List Int) × ((List Int) × Unit)))) ⊕ (((Unit × (Unit × (Unit × Unit))) × ((List Int) × ((List Int) × ((List Int) × Unit)))) ⊕ (((List Int) × Unit) × Unit))) :=
  (cond (decide (x1.1.2.2.2.2.1 < 25))
  (Option.bind (geti x1.1.2.2.2.1 x1.1.2.2.2.2.1) fun y2 =>
  (cond (inb (Int.tmod x1.1.2.2.2.2.1 5) 5)
  (Option.bind x1.2.2.2.1[(Int.toNat (Int.tmod x1.1.2.2.2.2.1 5))]? fun y3 =>
  (cond (inb (Int.tmod x1.1.2.2.2.2.1 5) 5)
  (Option.bind x1.2.2.2.1[(Int.toNat (Int.tmod x1.1.2.2.2.2.1 5))]? fun y4 =>
  (some (.inl (((), ((), ((), (x1.1.2.2.2.1, ((Go.IntKind.wrap .i64 (x1.1.2.2.2.2.1 + 1)), ()))))), (x1.2.1, (x1.2.2.1, ((List.set x1.2.2.2.1 (Int.toNat (Int.tmod x1.1.2.2.2.2.1 5)) (ibits .xor .u64 y3 y2)), ())))))))
  none))
  none))
  (some (.inr (.inl (((), ((), ((), ()))), (x1.2.1, (x1.2.2.1, (x1.2.2.2.1, ()))))))))
noncomputable def impl_lanes_theta.l8 (x9 : ((Unit × (Unit × (Unit × (Int × Unit)))) × ((List Int) × ((List Int) × ((List Int) × Unit))))) : Option (((Unit × (Unit × (Unit × (Int × Unit)))) × ((List Int) × ((List Int) × ((List Int) × Unit)))) ⊕ (((Unit × (Unit × Unit)) × ((List Int) × ((List Int) × Unit))) ⊕ (((List Int) × Unit) × Unit))) :=
  (cond (decide (x9.1.2.2.2.1 < 25))
  (cond (inb x9.1.2.2.2.1 25)
  (Option.bind x9.2.1[(Int.toNat x9.1.2.2.2.1)]? fun y10 =>
  (cond (inb (Int.tmod (Go.IntKind.wrap .i64 ((Int.tmod x9.1.2.2.2.1 5) + 4)) 5) 5)
  (Option.bind x9.2.2.2.1[(Int.toNat (Int.tmod (Go.IntKind.wrap .i64 ((Int.tmod x9.1.2.2.2.1 5) + 4)) 5))]? fun y11 =>
  (cond (inb (Int.tmod (Go.IntKind.wrap .i64 ((Int.tmod x9.1.2.2.2.1 5) + 1)) 5) 5)
  (Option.bind x9.2.2.2.1[(Int.toNat (Int.tmod (Go.IntKind.wrap .i64 ((Int.tmod x9.1.2.2.2.1 5) + 1)) 5))]? fun y12 =>
  (Option.bind (Go.Vi.math_bits_RotateLeft64.f (y12, (1, ()))) fun y13 =>
  (cond (inb x9.1.2.2.2.1 25)
  (Option.bind x9.2.1[(Int.toNat x9.1.2.2.2.1)]? fun y14 =>
  (some (.inl (((), ((), ((), ((Go.IntKind.wrap .i64 (x9.1.2.2.2.1 + 1)), ())))), ((List.set x9.2.1 (Int.toNat x9.1.2.2.2.1) (ibits .xor .u64 y10 (ibits .xor .u64 y11 y13.1.1))), (x9.2.2.1, (x9.2.2.2.1, ())))))))
  none)))
  none))
  none))
  none)
  (some (.inr (.inl (((), ((), ())), (x9.2.1, (x9.2.2.1, ())))))))
noncomputable def impl_lanes_theta.f (x : ((List Int) × Unit)) : Option (((List Int) × Unit) × Unit) :=
  (Option.bind (iter impl_lanes_theta.l0 (((), ((), ((), (x.1, (0, ()))))), (x.1, ((List.replicate 25 0), ((List.replicate 5 0), ()))))) fun y5 =>
  (match y5 with
  | .inl u6 => (Option.bind (iter impl_lanes_theta.l8 (((), ((), ((), (0, ())))), (u6.2.1, (u6.2.2.1, (u6.2.2.2.1, ()))))) fun y15 =>
  (match y15 with
  | .inl u16 => (some ((u16.2.1, ()), ()))
  | .inr w17 => (some w17)))
  | .inr w7 => (some w7)))
noncomputable def impl_lanes_rhoPi.l1 (x2 : ((Unit × (Unit × (Unit × (Int × (Int × (Int × Unit)))))) × ((List Int) × ((List Int) × ((List Int) × Unit))))) : Option (((Unit × (Unit × (Unit × (Int × (Int × (Int × Unit)))))) × ((List Int) × ((List Int) × ((List Int) × Unit)))) ⊕ (((Unit × (Unit × Unit)) × ((List Int) × ((List Int) × Unit))) ⊕ (((List Int) × Unit) × Unit))) :=
  (cond (decide (x2.1.2.2.2.2.2.1 < 24))
  (cond (inb (Go.IntKind.wrap .i64 (x2.1.2.2.2.1 + (Go.IntKind.wrap .i64 (5 * x2.1.2.2.2.2.1)))) 25)
  (Option.bind x2.2.1[(Int.toNat (Go.IntKind.wrap .i64 (x2.1.2.2.2.1 + (Go.IntKind.wrap .i64 (5 * x2.1.2.2.2.2.1)))))]? fun y3 =>
  (Option.bind (Go.Vi.math_bits_RotateLeft64.f (y3, ((Int.tmod (Go.IntKind.wrap .i64 (Int.tdiv (Go.IntKind.wrap .i64 ((Go.IntKind.wrap .i64 (x2.1.2.2.2.2.2.1 + 1)) * (Go.IntKind.wrap .i64 (x2.1.2.2.2.2.2.1 + 2)))) 2)) 64), ()))) fun y4 =>
  (cond (inb (Go.IntKind.wrap .i64 (x2.1.2.2.2.2.1 + (Go.IntKind.wrap .i64 (5 * (Int.tmod (Go.IntKind.wrap .i64 ((Go.IntKind.wrap .i64 (2 * x2.1.2.2.2.1)) + (Go.IntKind.wrap .i64 (3 * x2.1.2.2.2.2.1)))) 5))))) 25)
  (Option.bind x2.2.2.2.1[(Int.toNat (Go.IntKind.wrap .i64 (x2.1.2.2.2.2.1 + (Go.IntKind.wrap .i64 (5 * (Int.tmod (Go.IntKind.wrap .i64 ((Go.IntKind.wrap .i64 (2 * x2.1.2.2.2.1)) + (Go.IntKind.wrap .i64 (3 * x2.1.2.2.2.2.1)))) 5))))))]? fun y5 =>
  (some (.inl (((), ((), ((), (x2.1.2.2.2.2.1, ((Int.tmod (Go.IntKind.wrap .i64 ((Go.IntKind.wrap .i64 (2 * x2.1.2.2.2.1)) + (Go.IntKind.wrap .i64 (3 * x2.1.2.2.2.2.1)))) 5), ((Go.IntKind.wrap .i64 (x2.1.2.2.2.2.2.1 + 1)), ())))))), (x2.2.1, (x2.2.2.1, ((List.set x2.2.2.2.1 (Int.toNat (Go.IntKind.wrap .i64 (x2.1.2.2.2.2.1 + (Go.IntKind.wrap .i64 (5 * (Int.tmod (Go.IntKind.wrap .i64 ((Go.IntKind.wrap .i64 (2 * x2.1.2.2.2.1)) + (Go.IntKind.wrap .i64 (3 * x2.1.2.2.2.2.1)))) 5)))))) y4.1.1), ())))))))
  none)))
  none)
  (some (.inr (.inl (((), ((), ())), (x2.2.2.1, (x2.2.2.2.1, ())))))))
noncomputable def impl_lanes_rhoPi.f (x : ((List Int) × Unit)) : Option (((List Int) × Unit) × Unit) :=
  (cond (inb 0 25)
  (Option.bind x.1[(Int.toNat 0)]? fun y0 =>
  (cond (inb 0 25)
  (Option.bind (iter impl_lanes_rhoPi.l1 (((), ((), ((), (1, (0, (0, ())))))), (x.1, ((List.replicate 25 0), ((List.set (List.replicate 25 0) (Int.toNat 0) y0), ()))))) fun y6 =>
  (match y6 with
  | .inl u7 => (some ((u7.2.2.1, ()), ()))
  | .inr w8 => (some w8)))
  none))
  none)
noncomputable def impl_lanes_chi.l2 (x3 : ((Unit × (Unit × (Unit × (Int × (Int × (Int × Unit)))))) × ((List Int) × ((List Int) × ((List Int) × Unit))))) : Option (((Unit × (Unit × (Unit × (Int × (Int × (Int × Unit)))))) × ((List Int) × ((List Int) × ((List Int) × Unit)))) ⊕ (((Unit × (Unit × (Unit × (Int × Unit)))) × ((List Int) × ((List Int) × ((List Int) × Unit)))) ⊕ (((List Int) × Unit) × Unit))) :=
  (cond (decide (x3.1.2.2.2.2.2.1 < 5))
  (cond (inb (Go.IntKind.wrap .i64 (x3.1.2.2.2.2.2.1 + (Go.IntKind.wrap .i64 (5 * x3.1.2.2.2.1)))) 25)
  (Option.bind x3.2.1[(Int.toNat (Go.IntKind.wrap .i64 (x3.1.2.2.2.2.2.1 + (Go.IntKind.wrap .i64 (5 * x3.1.2.2.2.1)))))]? fun y4 =>
  (cond (inb (Go.IntKind.wrap .i64 ((Int.tmod (Go.IntKind.wrap .i64 (x3.1.2.2.2.2.2.1 + 1)) 5) + (Go.IntKind.wrap .i64 (5 * x3.1.2.2.2.1)))) 25)
  (Option.bind x3.2.1[(Int.toNat (Go.IntKind.wrap .i64 ((Int.tmod (Go.IntKind.wrap .i64 (x3.1.2.2.2.2.2.1 + 1)) 5) + (Go.IntKind.wrap .i64 (5 * x3.1.2.2.2.1)))))]? fun y5 =>
  (cond (inb (Go.IntKind.wrap .i64 ((Int.tmod (Go.IntKind.wrap .i64 (x3.1.2.2.2.2.2.1 + 2)) 5) + (Go.IntKind.wrap .i64 (5 * x3.1.2.2.2.1)))) 25)
  (Option.bind x3.2.1[(Int.toNat (Go.IntKind.wrap .i64 ((Int.tmod (Go.IntKind.wrap .i64 (x3.1.2.2.2.2.2.1 + 2)) 5) + (Go.IntKind.wrap .i64 (5 * x3.1.2.2.2.1)))))]? fun y6 =>
  (cond (inb (Go.IntKind.wrap .i64 (x3.1.2.2.2.2.2.1 + (Go.IntKind.wrap .i64 (5 * x3.1.2.2.2.1)))) 25)
  (Option.bind x3.2.2.2.1[(Int.toNat (Go.IntKind.wrap .i64 (x3.1.2.2.2.2.2.1 + (Go.IntKind.wrap .i64 (5 * x3.1.2.2.2.1)))))]? fun y7 =>
  (some (.inl (((), ((), ((), (x3.1.2.2.2.1, (x3.1.2.2.2.2.1, ((Go.IntKind.wrap .i64 (x3.1.2.2.2.2.2.1 + 1)), ())))))), (x3.2.1, (x3.2.2.1, ((List.set x3.2.2.2.1 (Int.toNat (Go.IntKind.wrap .i64 (x3.1.2.2.2.2.2.1 + (Go.IntKind.wrap .i64 (5 * x3.1.2.2.2.1))))) (ibits .xor .u64 y4 (ibits .and .u64 (ibits .xor .u64 (Go.IntKind.max .u64) y5) y6))), ())))))))
  none))
  none))
  none))
  none)
  (some (.inr (.inl (((), ((), ((), (x3.1.2.2.2.2.1, ())))), (x3.2.1, (x3.2.2.1, (x3.2.2.2.1, ()))))))))
noncomputable def impl_lanes_chi.l0 (x1 : ((Unit × (Unit × (Unit × (Int × Unit)))) × ((List Int) × ((List Int) × ((List Int) × Unit))))) : Option (((Unit × (Unit × (Unit × (Int × Unit)))) × ((List Int) × ((List Int) × ((List Int) × Unit)))) ⊕ (((Unit × (Unit × Unit)) × ((List Int) × ((List Int) × Unit))) ⊕ (((List Int) × Unit) × Unit))) :=
  (cond (decide (x1.1.2.2.2.1 < 5))
  (Option.bind (iter impl_lanes_chi.l2 (((), ((), ((), (x1.1.2.2.2.1, (x1.1.2.2.2.1, (0, ())))))), (x1.2.1, (x1.2.2.1, (x1.2.2.2.1, ()))))) fun y8 =>
  (match y8 with
  | .inl u9 => (some (.inl (((), ((), ((), ((Go.IntKind.wrap .i64 (u9.1.2.2.2.1 + 1)), ())))), (u9.2.1, (u9.2.2.1, (u9.2.2.2.1, ()))))))
  | .inr w10 => (some (.inr (.inr w10)))))
  (some (.inr (.inl (((), ((), ())), (x1.2.2.1, (x1.2.2.2.1, ())))))))
noncomputable def impl_lanes_chi.f (x : ((List Int) × Unit)) : Option (((List Int) × Unit) × Unit) :=
  (Option.bind (iter impl_lanes_chi.l0 (((), ((), ((), (0, ())))), (x.1, ((List.replicate 25 0), ((List.replicate 25 0), ()))))) fun y11 =>
  (match y11 with
  | .inl u12 => (some ((u12.2.2.1, ()), ()))
  | .inr w13 => (some w13)))
noncomputable def impl_roundBit.l0 (x1 : ((Int × (Int × (Int × Unit))) × Unit)) : Option (((Int × (Int × (Int × Unit))) × Unit) ⊕ (((Int × Unit) × Unit) ⊕ ((Int × Unit) × Unit))) :=
  (cond (decide (x1.1.2.2.1 < x1.1.2.1))
  (cond (decide ((ishl .i64 x1.1.1 1) ≥ 256))
  (some (.inl (((ibits .and .i64 (ibits .xor .i64 (ishl .i64 x1.1.1 1) 113) 255), (x1.1.2.1, ((Go.IntKind.wrap .i64 (x1.1.2.2.1 + 1)), ()))), ())))
  (some (.inl (((ishl .i64 x1.1.1 1), (x1.1.2.1, ((Go.IntKind.wrap .i64 (x1.1.2.2.1 + 1)), ()))), ()))))
  (some (.inr (.inl ((x1.1.1, ()), ())))))
noncomputable def impl_roundBit.f (x : (Int × Unit)) : Option ((Int × Unit) × Unit) :=
  (Option.bind (iter impl_roundBit.l0 ((1, (x.1, (0, ()))), ())) fun y2 =>
  (match y2 with
  | .inl u3 => (some (((Go.IntKind.wrap .u64 (ibits .and .i64 u3.1.1 1)), ()), ()))
  | .inr w4 => (some w4)))
noncomputable def impl_roundLane.l0 (x1 : ((Int × (Int × (Int × Unit))) × Unit)) : Option (((Int × (Int × (Int × Unit))) × Unit) ⊕ (((Int × Unit) × Unit) ⊕ ((Int × Unit) × Unit))) :=
  (cond (decide (x1.1.2.2.1 < 7))
  (Option.bind (Go.Vi.impl_roundBit.f ((Go.IntKind.wrap .i64 (x1.1.2.2.1 + (Go.IntKind.wrap .i64 (7 * x1.1.1)))), ())) fun y2 =>
  (cond (decide (x1.1.2.2.1 < 0))
  none
  (cond (decide ((Go.IntKind.wrap .u64 ((ishl .u64 1 x1.1.2.2.1) - 1)) < 0))
  none
  (some (.inl ((x1.1.1, ((ibits .or .u64 x1.1.2.1 (ishl .u64 y2.1.1 (Go.IntKind.wrap .u64 ((ishl .u64 1 x1.1.2.2.1) - 1)))), ((Go.IntKind.wrap .i64 (x1.1.2.2.1 + 1)), ()))), ()))))))
  (some (.inr (.inl ((x1.1.2.1, ()), ())))))
noncomputable def impl_roundLane.f (x : (Int × Unit)) : Option ((Int × Unit) × Unit) :=
  (Option.bind (iter impl_roundLane.l0 ((x.1, (0, (0, ()))), ())) fun y3 =>
  (match y3 with
  | .inl u4 => (some ((u4.1.1, ()), ()))
  | .inr w5 => (some w5)))
noncomputable def impl_permuted.l0 (x1 : ((Unit × (Unit × (Int × Unit))) × ((List Int) × ((List Int) × Unit)))) : Option (((Unit × (Unit × (Int × Unit))) × ((List Int) × ((List Int) × Unit))) ⊕ (((Unit × (Unit × Unit)) × ((List Int) × ((List Int) × Unit))) ⊕ (((List Int) × Unit) × Unit))) :=
  (cond (decide (x1.1.2.2.1 < 24))
  (Option.bind (Go.Vi.impl_lanes_theta.f (x1.2.1, ())) fun y2 =>
  (Option.bind (Go.Vi.impl_lanes_rhoPi.f (y2.1.1, ())) fun y3 =>
  (Option.bind (Go.Vi.impl_lanes_chi.f (y3.1.1, ())) fun y4 =>
  (cond (inb 0 25)
  (Option.bind y4.1.1[(Int.toNat 0)]? fun y5 =>
  (Option.bind (Go.Vi.impl_roundLane.f (x1.1.2.2.1, ())) fun y6 =>
  (cond (inb 0 25)
  (Option.bind y4.1.1[(Int.toNat 0)]? fun y7 =>
  (some (.inl (((), ((), ((Go.IntKind.wrap .i64 (x1.1.2.2.1 + 1)), ()))), ((List.set y4.1.1 (Int.toNat 0) (ibits .xor .u64 y5 y6.1.1)), (x1.2.2.1, ()))))))
  none)))
  none))))
  (some (.inr (.inl (((), ((), ())), (x1.2.1, (x1.2.2.1, ())))))))
noncomputable def impl_permuted.f (x : ((List Int) × Unit)) : Option (((List Int) × Unit) × Unit) :=
  (Option.bind (iter impl_permuted.l0 (((), ((), (0, ()))), (x.1, ((List.replicate 25 0), ())))) fun y8 =>
  (match y8 with
  | .inl u9 => (some ((u9.2.1, ()), ()))
  | .inr w10 => (some w10)))
noncomputable def impl_lanesOf.l0 (x1 : (((List UInt8) × (Unit × (Unit × (Int × Unit)))) × ((List Int) × ((List Int) × Unit)))) : Option ((((List UInt8) × (Unit × (Unit × (Int × Unit)))) × ((List Int) × ((List Int) × Unit))) ⊕ (((Unit × (Unit × Unit)) × ((List Int) × ((List Int) × Unit))) ⊕ (((List Int) × Unit) × Unit))) :=
  (cond (decide (x1.1.2.2.2.1 < 200))
  (cond (inb (Go.IntKind.wrap .i64 (Int.tdiv x1.1.2.2.2.1 8)) 25)
  (Option.bind x1.2.2.1[(Int.toNat (Go.IntKind.wrap .i64 (Int.tdiv x1.1.2.2.2.1 8)))]? fun y2 =>
  (Option.bind (geti x1.1.1 x1.1.2.2.2.1) fun y3 =>
  (cond (decide ((Go.IntKind.wrap .i64 (8 * (Int.tmod x1.1.2.2.2.1 8))) < 0))
  none
  (cond (inb (Go.IntKind.wrap .i64 (Int.tdiv x1.1.2.2.2.1 8)) 25)
  (Option.bind x1.2.2.1[(Int.toNat (Go.IntKind.wrap .i64 (Int.tdiv x1.1.2.2.2.1 8)))]? fun y4 =>
  (some (.inl ((x1.1.1, ((), ((), ((Go.IntKind.wrap .i64 (x1.1.2.2.2.1 + 1)), ())))), (x1.2.1, ((List.set x1.2.2.1 (Int.toNat (Go.IntKind.wrap .i64 (Int.tdiv x1.1.2.2.2.1 8))) (ibits .or .u64 y2 (ishl .u64 (Go.IntKind.wrap .u64 ((UInt8.toNat y3) : Int)) (Go.IntKind.wrap .i64 (8 * (Int.tmod x1.1.2.2.2.1 8)))))), ()))))))
  none))))
  none)
  (some (.inr (.inl (((), ((), ())), (x1.2.1, (x1.2.2.1, ())))))))
noncomputable def impl_lanesOf.f (x : ((List UInt8) × Unit)) : Option (((List Int) × Unit) × Unit) :=
  (Option.bind (iter impl_lanesOf.l0 ((x.1, ((), ((), (0, ())))), ((List.replicate 25 0), ((List.replicate 25 0), ())))) fun y5 =>
  (match y5 with
  | .inl u6 => (some ((u6.2.2.1, ()), ()))
  | .inr w7 => (some w7)))
noncomputable def impl_lanes_text.l0 (x1 : ((Unit × ((List Int) × (Int × (Int × Unit)))) × ((List Int) × Unit))) : Option (((Unit × ((List Int) × (Int × (Int × Unit)))) × ((List Int) × Unit)) ⊕ ((((List Int) × Unit) × Unit) ⊕ (((List UInt8) × Unit) × Unit))) :=
  (cond (decide (x1.1.2.2.2.1 < x1.1.2.2.1))
  (cond (inb (Go.IntKind.wrap .i64 (Int.tdiv x1.1.2.2.2.1 8)) 25)
  (Option.bind x1.2.1[(Int.toNat (Go.IntKind.wrap .i64 (Int.tdiv x1.1.2.2.2.1 8)))]? fun y2 =>
  (cond (decide ((Go.IntKind.wrap .i64 (8 * (Int.tmod x1.1.2.2.2.1 8))) < 0))
  none
  (Option.bind (geti x1.1.2.1 x1.1.2.2.2.1) fun y3 =>
  (Option.bind x1.1.2.1[(Int.toNat x1.1.2.2.2.1)]? fun y4 =>
  (some (.inl (((), ((List.set x1.1.2.1 (Int.toNat x1.1.2.2.2.1) (Go.IntKind.wrap .u8 (ishr .u64 y2 (Go.IntKind.wrap .i64 (8 * (Int.tmod x1.1.2.2.2.1 8)))))), (x1.1.2.2.1, ((Go.IntKind.wrap .i64 (x1.1.2.2.2.1 + 1)), ())))), (x1.2.1, ()))))))))
  none)
  (some (.inr (.inl ((x1.1.2.1, ()), ())))))
noncomputable def impl_lanes_text.f (x : ((List Int) × Unit)) : Option (((List UInt8) × Unit) × Unit) :=
  (Option.bind (iter impl_lanes_text.l0 (((), ((List.replicate (Int.toNat 200) 0), (((List.replicate (Int.toNat 200) 0).length : Int), (0, ())))), (x.1, ()))) fun y5 =>
  (match y5 with
  | .inl u6 => (some (((ofBytes u6.1.1), ()), ()))
  | .inr w7 => (some w7)))
noncomputable def impl_Permute.f (x : ((List UInt8) × Unit)) : Option (((List UInt8) × Unit) × Unit) :=
  (cond (!(decide ((x.1.length : Int) = 200)))
  (some ((x.1, ()), ()))
  (Option.bind (Go.Vi.impl_lanesOf.f (x.1, ())) fun y0 =>
  (Option.bind (Go.Vi.impl_permuted.f (y0.1.1, ())) fun y1 =>
  (Option.bind (Go.Vi.impl_lanes_text.f (y1.1.1, ())) fun y2 =>
  (some ((y2.1.1, ()), ()))))))
noncomputable def impl_absorbed.l1 (x2 : ((Int × ((List Int) × Unit)) × Unit)) : Option (((Int × ((List Int) × Unit)) × Unit) ⊕ (((Int × ((List Int) × Unit)) × Unit) ⊕ (((List UInt8) × Unit) × Unit))) :=
  (cond (decide (x2.1.1 = 0))
  none
  (cond (!(decide ((Int.tmod (x2.1.2.1.length : Int) x2.1.1) = 0)))
  (Option.bind (app 1 x2.1.2.1 [0]) fun y3 =>
  (some (.inl ((x2.1.1, (y3, ())), ()))))
  (some (.inr (.inl ((x2.1.1, (x2.1.2.1, ())), ()))))))
noncomputable def impl_absorbed.l13 (x14 : ((Int × ((List Int) × ((List Int) × (Int × (Int × (Int × Unit)))))) × Unit)) : Option (((Int × ((List Int) × ((List Int) × (Int × (Int × (Int × Unit)))))) × Unit) ⊕ (((Int × ((List Int) × ((List Int) × (Int × Unit)))) × Unit) ⊕ (((List UInt8) × Unit) × Unit))) :=
  (cond (decide (x14.1.2.2.2.2.2.1 < x14.1.2.2.2.2.1))
  (Option.bind (geti x14.1.2.2.1 x14.1.2.2.2.2.2.1) fun y15 =>
  (Option.bind x14.1.2.2.1[(Int.toNat x14.1.2.2.2.2.2.1)]? fun y16 =>
  (Option.bind (geti x14.1.2.1 (Go.IntKind.wrap .i64 (x14.1.2.2.2.1 + x14.1.2.2.2.2.2.1))) fun y17 =>
  (Option.bind x14.1.2.1[(Int.toNat (Go.IntKind.wrap .i64 (x14.1.2.2.2.1 + x14.1.2.2.2.2.2.1)))]? fun y18 =>
  (Option.bind (geti x14.1.2.2.1 x14.1.2.2.2.2.2.1) fun y19 =>
  (Option.bind x14.1.2.2.1[(Int.toNat x14.1.2.2.2.2.2.1)]? fun y20 =>
  (some (.inl ((x14.1.1, (x14.1.2.1, ((List.set x14.1.2.2.1 (Int.toNat x14.1.2.2.2.2.2.1) (ibits .xor .u8 y16 y18)), (x14.1.2.2.2.1, (x14.1.2.2.2.2.1, ((Go.IntKind.wrap .i64 (x14.1.2.2.2.2.2.1 + 1)), ())))))), ())))))))))
  (some (.inr (.inl ((x14.1.1, (x14.1.2.1, (x14.1.2.2.1, (x14.1.2.2.2.1, ())))), ())))))
noncomputable def impl_absorbed.l11 (x12 : ((Int × ((List Int) × ((List Int) × (Int × Unit)))) × Unit)) : Option (((Int × ((List Int) × ((List Int) × (Int × Unit)))) × Unit) ⊕ ((((List Int) × Unit) × Unit) ⊕ (((List UInt8) × Unit) × Unit))) :=
  (cond (decide (x12.1.2.2.2.1 < (x12.1.2.1.length : Int)))
  (Option.bind (iter impl_absorbed.l13 ((x12.1.1, (x12.1.2.1, (x12.1.2.2.1, (x12.1.2.2.2.1, (x12.1.1, (0, ())))))), ())) fun y21 =>
  (match y21 with
  | .inl u22 => (Option.bind (Go.Vi.impl_Permute.f ((ofBytes u22.1.2.2.1), ())) fun y24 =>
  (some (.inl ((u22.1.1, (u22.1.2.1, ((toBytes y24.1.1), ((Go.IntKind.wrap .i64 (u22.1.2.2.2.1 + u22.1.1)), ())))), ()))))
  | .inr w23 => (some (.inr (.inr w23)))))
  (some (.inr (.inl ((x12.1.2.2.1, ()), ())))))
noncomputable def impl_absorbed.f (x : ((List UInt8) × (Int × (Int × Unit)))) : Option (((List UInt8) × Unit) × Unit) :=
  (Option.bind (app 1 (toBytes x.1) [x.2.2.1]) fun y0 =>
  (Option.bind (iter impl_absorbed.l1 ((x.2.1, (y0, ())), ())) fun y4 =>
  (match y4 with
  | .inl u5 => (Option.bind (geti u5.1.2.1 (Go.IntKind.wrap .i64 ((u5.1.2.1.length : Int) - 1))) fun y7 =>
  (Option.bind u5.1.2.1[(Int.toNat (Go.IntKind.wrap .i64 ((u5.1.2.1.length : Int) - 1)))]? fun y8 =>
  (Option.bind (geti u5.1.2.1 (Go.IntKind.wrap .i64 ((u5.1.2.1.length : Int) - 1))) fun y9 =>
  (Option.bind u5.1.2.1[(Int.toNat (Go.IntKind.wrap .i64 ((u5.1.2.1.length : Int) - 1)))]? fun y10 =>
  (Option.bind (iter impl_absorbed.l11 ((u5.1.1, ((List.set u5.1.2.1 (Int.toNat (Go.IntKind.wrap .i64 ((u5.1.2.1.length : Int) - 1))) (ibits .xor .u8 y8 128)), ((List.replicate (Int.toNat 200) 0), (0, ())))), ())) fun y25 =>
  (match y25 with
  | .inl u26 => (some (((ofBytes u26.1.1), ()), ()))
  | .inr w27 => (some w27)))))))
  | .inr w6 => (some w6))))
noncomputable def impl_StreamNew.f (x : ((List UInt8) × Unit)) : Option ((((List UInt8) × (Int × Unit)) × Unit) × Unit) :=
  (Option.bind (Go.Vi.impl_absorbed.f (x.1, (168, (31, ())))) fun y0 =>
  (some (((y0.1.1, (0, ())), ()), ())))
noncomputable def impl_StreamTake.l5 (x6 : ((Int × (Unit × (Unit × ((List UInt8) × Unit)))) × (((List UInt8) × (Int × Unit)) × (((List UInt8) × (Int × Unit)) × Unit)))) : Option (((Int × (Unit × (Unit × ((List UInt8) × Unit)))) × (((List UInt8) × (Int × Unit)) × (((List UInt8) × (Int × Unit)) × Unit))) ⊕ (((Unit × (Unit × ((List UInt8) × Unit))) × (((List UInt8) × (Int × Unit)) × (((List UInt8) × (Int × Unit)) × Unit))) ⊕ ((((List UInt8) × (Int × Unit)) × ((List UInt8) × Unit)) × Unit))) :=
  (cond (decide ((x6.1.2.2.2.1.length : Int) < x6.1.1))
  (Option.bind (show Option (((Int × (Unit × (Unit × ((List UInt8) × Unit)))) × (((List UInt8) × (Int × Unit)) × (((List UInt8) × (Int × Unit)) × Unit))) ⊕ (Unit ⊕ ((((List UInt8) × (Int × Unit)) × ((List UInt8) × Unit)) × Unit))) from (cond (decide (x6.2.1.2.1 = 168))
  (Option.bind (Go.Vi.impl_Permute.f (x6.2.1.1, ())) fun y7 =>
  (some (.inl ((x6.1.1, ((), ((), (x6.1.2.2.2.1, ())))), ((y7.1.1, (0, ())), (x6.2.2.1, ()))))))
  (some (.inl ((x6.1.1, ((), ((), (x6.1.2.2.2.1, ())))), (x6.2.1, (x6.2.2.1, ()))))))) fun y8 =>
  (match y8 with
  | .inl u9 => (Option.bind (slc u9.2.1.1 u9.2.1.2.1 (Go.IntKind.wrap .i64 (u9.2.1.2.1 + (mn (Go.IntKind.wrap .i64 (u9.1.1 - (u9.1.2.2.2.1.length : Int))) (Go.IntKind.wrap .i64 (168 - u9.2.1.2.1)))))) fun y11 =>
  (Option.bind (cat u9.1.2.2.2.1 y11) fun y12 =>
  (some (.inl ((u9.1.1, ((), ((), (y12, ())))), ((u9.2.1.1, ((Go.IntKind.wrap .i64 (u9.2.1.2.1 + (mn (Go.IntKind.wrap .i64 (u9.1.1 - (u9.1.2.2.2.1.length : Int))) (Go.IntKind.wrap .i64 (168 - u9.2.1.2.1))))), u9.2.1.2.2)), (u9.2.2.1, ())))))))
  | .inr w10 => (match w10 with
  | .inl u13 => none
  | .inr w14 => (some (.inr (.inr w14))))))
  (some (.inr (.inl (((), ((), (x6.1.2.2.2.1, ()))), (x6.2.1, (x6.2.2.1, ())))))))
noncomputable def impl_StreamTake.f (x : (((List UInt8) × (Int × Unit)) × (Int × Unit))) : Option ((((List UInt8) × (Int × Unit)) × ((List UInt8) × Unit)) × Unit) :=
  (Option.bind (show Option (((Int × (Unit × (Unit × (Bool × Unit)))) × (((List UInt8) × (Int × Unit)) × (((List UInt8) × (Int × Unit)) × Unit))) ⊕ (Unit ⊕ ((((List UInt8) × (Int × Unit)) × ((List UInt8) × Unit)) × Unit))) from (Option.bind (Go.Vi.impl_in.f (x.2.1, (0, (4000, ())))) fun y0 =>
  (cond (!y0.1.1)
  (some (.inl ((x.2.1, ((), ((), (true, ())))), (x.1, (([], (0, ())), ())))))
  (cond (!(decide ((x.1.1.length : Int) = 200)))
  (some (.inl ((x.2.1, ((), ((), (true, ())))), (x.1, (([], (0, ())), ())))))
  (Option.bind (Go.Vi.impl_in.f (x.1.2.1, (0, (168, ())))) fun y1 =>
  (some (.inl ((x.2.1, ((), ((), ((!y1.1.1), ())))), (x.1, (([], (0, ())), ())))))))))) fun y2 =>
  (match y2 with
  | .inl u3 => (cond u3.1.2.2.2.1
  (some ((u3.2.1, ([], ())), ()))
  (Option.bind (iter impl_StreamTake.l5 ((u3.1.1, ((), ((), ([], ())))), (u3.2.1, (u3.2.2.1, ())))) fun y15 =>
  (match y15 with
  | .inl u16 => (some ((u16.2.1, (u16.1.2.2.1, ())), ()))
  | .inr w17 => (some w17))))
  | .inr w4 => (match w4 with
  | .inl u18 => none
  | .inr w19 => (some w19))))
noncomputable def impl_ShakeOf.f (x : ((List UInt8) × (Int × Unit))) : Option (((List UInt8) × (Bool × Unit)) × Unit) :=
  (Option.bind (Go.Vi.impl_in.f (x.2.1, (0, (4000, ())))) fun y0 =>
  (cond (!y0.1.1)
  (some (([], (false, ())), ()))
  (Option.bind (Go.Vi.impl_StreamNew.f (x.1, ())) fun y1 =>
  (Option.bind (Go.Vi.impl_StreamTake.f (y1.1.1, (x.2.1, ()))) fun y2 =>
  (some ((y2.1.2.1, (true, ())), ()))))))
noncomputable def impl_Small.l3 (x4 : (((List UInt8) × ((List Int) × (Int × (Int × Unit)))) × Unit)) : Option ((((List UInt8) × ((List Int) × (Int × (Int × Unit)))) × Unit) ⊕ ((((List Int) × Unit) × Unit) ⊕ (((List Int) × Unit) × Unit))) :=
  (cond (decide (x4.1.2.2.2.1 < x4.1.2.2.1))
  (Option.bind (geti x4.1.1 (Go.IntKind.wrap .i64 (Int.tdiv x4.1.2.2.2.1 2))) fun y5 =>
  (cond (decide ((Go.IntKind.wrap .i64 (4 * (Int.tmod x4.1.2.2.2.1 2))) < 0))
  none
  (Option.bind (Go.Vi.impl_modQ.f ((Go.IntKind.wrap .i64 ((Go.IntKind.wrap .i64 ((Go.IntKind.wrap .i64 ((ibits .and .i64 (Go.IntKind.wrap .i64 (ishr .u8 ((UInt8.toNat y5) : Int) (Go.IntKind.wrap .i64 (4 * (Int.tmod x4.1.2.2.2.1 2))))) 1) + (ibits .and .i64 (ishr .i64 (Go.IntKind.wrap .i64 (ishr .u8 ((UInt8.toNat y5) : Int) (Go.IntKind.wrap .i64 (4 * (Int.tmod x4.1.2.2.2.1 2))))) 1) 1))) - (ibits .and .i64 (ishr .i64 (Go.IntKind.wrap .i64 (ishr .u8 ((UInt8.toNat y5) : Int) (Go.IntKind.wrap .i64 (4 * (Int.tmod x4.1.2.2.2.1 2))))) 2) 1))) - (ibits .and .i64 (ishr .i64 (Go.IntKind.wrap .i64 (ishr .u8 ((UInt8.toNat y5) : Int) (Go.IntKind.wrap .i64 (4 * (Int.tmod x4.1.2.2.2.1 2))))) 3) 1))), ())) fun y6 =>
  (Option.bind (geti x4.1.2.1 x4.1.2.2.2.1) fun y7 =>
  (Option.bind x4.1.2.1[(Int.toNat x4.1.2.2.2.1)]? fun y8 =>
  (some (.inl ((x4.1.1, ((List.set x4.1.2.1 (Int.toNat x4.1.2.2.2.1) y6.1.1), (x4.1.2.2.1, ((Go.IntKind.wrap .i64 (x4.1.2.2.2.1 + 1)), ())))), ()))))))))
  (some (.inr (.inl ((x4.1.2.1, ()), ())))))
noncomputable def impl_Small.f (x : ((List UInt8) × (Int × Unit))) : Option (((List Int) × Unit) × Unit) :=
  (Option.bind (Go.Vi.impl_oneByte.f (x.2.1, ())) fun y0 =>
  (Option.bind (cat x.1 y0.1.1) fun y1 =>
  (Option.bind (Go.Vi.impl_ShakeOf.f (y1, (128, ()))) fun y2 =>
  (Option.bind (iter impl_Small.l3 ((y2.1.1, ((List.replicate (Int.toNat 256) 0), (((List.replicate (Int.toNat 256) 0).length : Int), (0, ())))), ())) fun y9 =>
  (match y9 with
  | .inl u10 => (some ((u10.1.1, ()), ()))
  | .inr w11 => (some w11))))))
noncomputable def impl_smalls.l0 (x1 : (((List UInt8) × (Int × ((List (List Int)) × (Int × Unit)))) × Unit)) : Option ((((List UInt8) × (Int × ((List (List Int)) × (Int × Unit)))) × Unit) ⊕ ((((List (List Int)) × Unit) × Unit) ⊕ (((List (List Int)) × Unit) × Unit))) :=
  (cond (decide (x1.1.2.2.2.1 < 2))
  (Option.bind (Go.Vi.impl_Small.f (x1.1.1, ((Go.IntKind.wrap .i64 (x1.1.2.1 + x1.1.2.2.2.1)), ()))) fun y2 =>
  (Option.bind (app 24 x1.1.2.2.1 [y2.1.1]) fun y3 =>
  (some (.inl ((x1.1.1, (x1.1.2.1, (y3, ((Go.IntKind.wrap .i64 (x1.1.2.2.2.1 + 1)), ())))), ())))))
  (some (.inr (.inl ((x1.1.2.2.1, ()), ())))))
noncomputable def impl_smalls.f (x : ((List UInt8) × (Int × Unit))) : Option (((List (List Int)) × Unit) × Unit) :=
  (Option.bind (iter impl_smalls.l0 ((x.1, (x.2.1, ([], (0, ())))), ())) fun y4 =>
  (match y4 with
  | .inl u5 => (some ((u5.1.1, ()), ()))
  | .inr w6 => (some w6)))
noncomputable def impl_packed.l3 (x4 : ((Int × ((List Int) × (Int × (Int × ((List Int) × (Int × (Int × (Int × (Int × Unit))))))))) × Unit)) : Option (((Int × ((List Int) × (Int × (Int × ((List Int) × (Int × (Int × (Int × (Int × Unit))))))))) × Unit) ⊕ (((Int × ((List Int) × ((List Int) × (Int × (Int × Unit))))) × Unit) ⊕ (((List UInt8) × Unit) × Unit))) :=
  (cond (decide (x4.1.2.2.2.2.2.2.2.2.1 < x4.1.2.2.2.2.2.2.2.1))
  (Option.bind (geti x4.1.2.1 (Go.IntKind.wrap .i64 (Int.tdiv (Go.IntKind.wrap .i64 ((Go.IntKind.wrap .i64 (x4.1.2.2.1 * x4.1.1)) + x4.1.2.2.2.2.2.2.2.2.1)) 8))) fun y5 =>
  (Option.bind x4.1.2.1[(Int.toNat (Go.IntKind.wrap .i64 (Int.tdiv (Go.IntKind.wrap .i64 ((Go.IntKind.wrap .i64 (x4.1.2.2.1 * x4.1.1)) + x4.1.2.2.2.2.2.2.2.2.1)) 8)))]? fun y6 =>
  (cond (decide (x4.1.2.2.2.2.2.2.2.2.1 < 0))
  none
  (cond (decide ((Int.tmod (Go.IntKind.wrap .i64 ((Go.IntKind.wrap .i64 (x4.1.2.2.1 * x4.1.1)) + x4.1.2.2.2.2.2.2.2.2.1)) 8) < 0))
  none
  (Option.bind (geti x4.1.2.1 (Go.IntKind.wrap .i64 (Int.tdiv (Go.IntKind.wrap .i64 ((Go.IntKind.wrap .i64 (x4.1.2.2.1 * x4.1.1)) + x4.1.2.2.2.2.2.2.2.2.1)) 8))) fun y7 =>
  (Option.bind x4.1.2.1[(Int.toNat (Go.IntKind.wrap .i64 (Int.tdiv (Go.IntKind.wrap .i64 ((Go.IntKind.wrap .i64 (x4.1.2.2.1 * x4.1.1)) + x4.1.2.2.2.2.2.2.2.2.1)) 8)))]? fun y8 =>
  (some (.inl ((x4.1.1, ((List.set x4.1.2.1 (Int.toNat (Go.IntKind.wrap .i64 (Int.tdiv (Go.IntKind.wrap .i64 ((Go.IntKind.wrap .i64 (x4.1.2.2.1 * x4.1.1)) + x4.1.2.2.2.2.2.2.2.2.1)) 8))) (ibits .or .u8 y6 (ishl .u8 (Go.IntKind.wrap .u8 (ibits .and .i64 (ishr .i64 x4.1.2.2.2.1 x4.1.2.2.2.2.2.2.2.2.1) 1)) (Int.tmod (Go.IntKind.wrap .i64 ((Go.IntKind.wrap .i64 (x4.1.2.2.1 * x4.1.1)) + x4.1.2.2.2.2.2.2.2.2.1)) 8)))), (x4.1.2.2.1, (x4.1.2.2.2.1, (x4.1.2.2.2.2.1, (x4.1.2.2.2.2.2.1, (x4.1.2.2.2.2.2.2.1, (x4.1.2.2.2.2.2.2.2.1, ((Go.IntKind.wrap .i64 (x4.1.2.2.2.2.2.2.2.2.1 + 1)), ()))))))))), ())))))))))
  (some (.inr (.inl ((x4.1.1, (x4.1.2.1, (x4.1.2.2.2.2.1, (x4.1.2.2.2.2.2.1, (x4.1.2.2.2.2.2.2.1, ()))))), ())))))
noncomputable def impl_packed.l0 (x1 : ((Int × ((List Int) × ((List Int) × (Int × (Int × Unit))))) × Unit)) : Option (((Int × ((List Int) × ((List Int) × (Int × (Int × Unit))))) × Unit) ⊕ ((((List Int) × Unit) × Unit) ⊕ (((List UInt8) × Unit) × Unit))) :=
  (cond (decide (x1.1.2.2.2.2.1 < x1.1.2.2.2.1))
  (Option.bind (geti x1.1.2.2.1 x1.1.2.2.2.2.1) fun y2 =>
  (Option.bind (iter impl_packed.l3 ((x1.1.1, (x1.1.2.1, (x1.1.2.2.2.2.1, (y2, (x1.1.2.2.1, (x1.1.2.2.2.1, (x1.1.2.2.2.2.1, (x1.1.1, (0, ()))))))))), ())) fun y9 =>
  (match y9 with
  | .inl u10 => (some (.inl ((u10.1.1, (u10.1.2.1, (u10.1.2.2.1, (u10.1.2.2.2.1, ((Go.IntKind.wrap .i64 (u10.1.2.2.2.2.1 + 1)), ()))))), ())))
  | .inr w11 => (some (.inr (.inr w11))))))
  (some (.inr (.inl ((x1.1.2.1, ()), ())))))
noncomputable def impl_packed.f (x : ((List Int) × (Int × Unit))) : Option (((List UInt8) × Unit) × Unit) :=
  (cond (decide ((0 ≤ (Go.IntKind.wrap .i64 (Int.tdiv (Go.IntKind.wrap .i64 ((Go.IntKind.wrap .i64 ((x.1.length : Int) * x.2.1)) + 7)) 8))) ∧ (((Go.IntKind.wrap .i64 (Int.tdiv (Go.IntKind.wrap .i64 ((Go.IntKind.wrap .i64 ((x.1.length : Int) * x.2.1)) + 7)) 8)) * (1 : Int)) ≤ 140737488355328)))
  (Option.bind (iter impl_packed.l0 ((x.2.1, ((List.replicate (Int.toNat (Go.IntKind.wrap .i64 (Int.tdiv (Go.IntKind.wrap .i64 ((Go.IntKind.wrap .i64 ((x.1.length : Int) * x.2.1)) + 7)) 8))) 0), (x.1, ((x.1.length : Int), (0, ()))))), ())) fun y12 =>
  (match y12 with
  | .inl u13 => (some (((ofBytes u13.1.1), ()), ()))
  | .inr w14 => (some w14)))
  none)
noncomputable def impl_PolyBytes.f (x : ((List Int) × Unit)) : Option (((List UInt8) × Unit) × Unit) :=
  (Option.bind (Go.Vi.impl_PolyOk.f (x.1, ())) fun y0 =>
  (cond (!y0.1.1)
  (some (([], ()), ()))
  (Option.bind (Go.Vi.impl_packed.f (x.1, (12, ()))) fun y1 =>
  (some ((y1.1.1, ()), ())))))
noncomputable def impl_PolyAdd_1.f (x : (Int × (Int × Unit))) : Option ((Int × Unit) × Unit) :=
  (some (((Go.IntKind.wrap .i64 (x.1 + x.2.1)), ()), ()))
noncomputable def impl_each.l5 (x6 : (((List Int) × ((List Int) × (Unit × ((List Int) × (Int × (Int × Unit)))))) × Unit)) : Option ((((List Int) × ((List Int) × (Unit × ((List Int) × (Int × (Int × Unit)))))) × Unit) ⊕ ((((List Int) × Unit) × Unit) ⊕ (((List Int) × Unit) × Unit))) :=
  (cond (decide (x6.1.2.2.2.2.2.1 < x6.1.2.2.2.2.1))
  (Option.bind (geti x6.1.1 x6.1.2.2.2.2.2.1) fun y7 =>
  (Option.bind (geti x6.1.2.1 x6.1.2.2.2.2.2.1) fun y8 =>
  (Option.bind (Go.Vi.impl_PolyAdd_1.f (y7, (y8, ()))) fun y9 =>
  (Option.bind (Go.Vi.impl_modQ.f (y9.1.1, ())) fun y10 =>
  (Option.bind (geti x6.1.2.2.2.1 x6.1.2.2.2.2.2.1) fun y11 =>
  (Option.bind x6.1.2.2.2.1[(Int.toNat x6.1.2.2.2.2.2.1)]? fun y12 =>
  (some (.inl ((x6.1.1, (x6.1.2.1, ((), ((List.set x6.1.2.2.2.1 (Int.toNat x6.1.2.2.2.2.2.1) y10.1.1), (x6.1.2.2.2.2.1, ((Go.IntKind.wrap .i64 (x6.1.2.2.2.2.2.1 + 1)), ())))))), ())))))))))
  (some (.inr (.inl ((x6.1.2.2.2.1, ()), ())))))
noncomputable def impl_each.f (x : ((List Int) × ((List Int) × Unit))) : Option (((List Int) × Unit) × Unit) :=
  (Option.bind (show Option ((((List Int) × ((List Int) × (Unit × (Bool × Unit)))) × Unit) ⊕ (Unit ⊕ (((List Int) × Unit) × Unit))) from (Option.bind (Go.Vi.impl_PolyOk.f (x.1, ())) fun y0 =>
  (cond (!y0.1.1)
  (some (.inl ((x.1, (x.2.1, ((), (true, ())))), ())))
  (Option.bind (Go.Vi.impl_PolyOk.f (x.2.1, ())) fun y1 =>
  (some (.inl ((x.1, (x.2.1, ((), ((!y1.1.1), ())))), ()))))))) fun y2 =>
  (match y2 with
  | .inl u3 => (cond u3.1.2.2.2.1
  (some (([], ()), ()))
  (Option.bind (iter impl_each.l5 ((u3.1.1, (u3.1.2.1, ((), ((List.replicate (Int.toNat 256) 0), (((List.replicate (Int.toNat 256) 0).length : Int), (0, ())))))), ())) fun y13 =>
  (match y13 with
  | .inl u14 => (some ((u14.1.1, ()), ()))
  | .inr w15 => (some w15))))
  | .inr w4 => (match w4 with
  | .inl u16 => none
  | .inr w17 => (some w17))))
noncomputable def impl_PolyAdd.f (x : ((List Int) × ((List Int) × Unit))) : Option (((List Int) × Unit) × Unit) :=
  (Option.bind (Go.Vi.impl_each.f (x.1, (x.2.1, ()))) fun y0 =>
  (some ((y0.1.1, ()), ())))
noncomputable def impl_MulNtt.l5 (x6 : (((List Int) × ((List Int) × ((List Int) × (Int × Unit)))) × Unit)) : Option ((((List Int) × ((List Int) × ((List Int) × (Int × Unit)))) × Unit) ⊕ ((((List Int) × Unit) × Unit) ⊕ (((List Int) × Unit) × Unit))) :=
  (cond (decide (x6.1.2.2.2.1 < 128))
  (Option.bind (Go.Vi.impl_Turn7.f (x6.1.2.2.2.1, ())) fun y7 =>
  (Option.bind (Go.Vi.impl_PowQ.f (17, ((Go.IntKind.wrap .i64 ((Go.IntKind.wrap .i64 (2 * y7.1.1)) + 1)), ()))) fun y8 =>
  (Option.bind (geti x6.1.1 (Go.IntKind.wrap .i64 (2 * x6.1.2.2.2.1))) fun y9 =>
  (Option.bind (geti x6.1.1 (Go.IntKind.wrap .i64 ((Go.IntKind.wrap .i64 (2 * x6.1.2.2.2.1)) + 1))) fun y10 =>
  (Option.bind (geti x6.1.2.1 (Go.IntKind.wrap .i64 (2 * x6.1.2.2.2.1))) fun y11 =>
  (Option.bind (geti x6.1.2.1 (Go.IntKind.wrap .i64 ((Go.IntKind.wrap .i64 (2 * x6.1.2.2.2.1)) + 1))) fun y12 =>
  (Option.bind (Go.Vi.impl_modQ.f ((Go.IntKind.wrap .i64 ((Go.IntKind.wrap .i64 (y9 * y11)) + (Go.IntKind.wrap .i64 ((Int.tmod (Go.IntKind.wrap .i64 (y10 * y12)) 3329) * y8.1.1)))), ())) fun y13 =>
  (Option.bind (geti x6.1.2.2.1 (Go.IntKind.wrap .i64 (2 * x6.1.2.2.2.1))) fun y14 =>
  (Option.bind x6.1.2.2.1[(Int.toNat (Go.IntKind.wrap .i64 (2 * x6.1.2.2.2.1)))]? fun y15 =>
  (Option.bind (Go.Vi.impl_modQ.f ((Go.IntKind.wrap .i64 ((Go.IntKind.wrap .i64 (y9 * y12)) + (Go.IntKind.wrap .i64 (y10 * y11)))), ())) fun y16 =>
  (Option.bind (geti (List.set x6.1.2.2.1 (Int.toNat (Go.IntKind.wrap .i64 (2 * x6.1.2.2.2.1))) y13.1.1) (Go.IntKind.wrap .i64 ((Go.IntKind.wrap .i64 (2 * x6.1.2.2.2.1)) + 1))) fun y17 =>
  (Option.bind (List.set x6.1.2.2.1 (Int.toNat (Go.IntKind.wrap .i64 (2 * x6.1.2.2.2.1))) y13.1.1)[(Int.toNat (Go.IntKind.wrap .i64 ((Go.IntKind.wrap .i64 (2 * x6.1.2.2.2.1)) + 1)))]? fun y18 =>
  (some (.inl ((x6.1.1, (x6.1.2.1, ((List.set (List.set x6.1.2.2.1 (Int.toNat (Go.IntKind.wrap .i64 (2 * x6.1.2.2.2.1))) y13.1.1) (Int.toNat (Go.IntKind.wrap .i64 ((Go.IntKind.wrap .i64 (2 * x6.1.2.2.2.1)) + 1))) y16.1.1), ((Go.IntKind.wrap .i64 (x6.1.2.2.2.1 + 1)), ())))), ())))))))))))))))
  (some (.inr (.inl ((x6.1.2.2.1, ()), ())))))
noncomputable def impl_MulNtt.f (x : ((List Int) × ((List Int) × Unit))) : Option (((List Int) × Unit) × Unit) :=
  (Option.bind (show Option ((((List Int) × ((List Int) × (Bool × Unit))) × Unit) ⊕ (Unit ⊕ (((List Int) × Unit) × Unit))) from (Option.bind (Go.Vi.impl_PolyOk.f (x.1, ())) fun y0 =>
  (cond (!y0.1.1)
  (some (.inl ((x.1, (x.2.1, (true, ()))), ())))
  (Option.bind (Go.Vi.impl_PolyOk.f (x.2.1, ())) fun y1 =>
  (some (.inl ((x.1, (x.2.1, ((!y1.1.1), ()))), ()))))))) fun y2 =>
  (match y2 with
  | .inl u3 => (cond u3.1.2.2.1
  (some (([], ()), ()))
  (Option.bind (iter impl_MulNtt.l5 ((u3.1.1, (u3.1.2.1, ((List.replicate (Int.toNat 256) 0), (0, ())))), ())) fun y19 =>
  (match y19 with
  | .inl u20 => (some ((u20.1.1, ()), ()))
  | .inr w21 => (some w21))))
  | .inr w4 => (match w4 with
  | .inl u22 => none
  | .inr w23 => (some w23))))
noncomputable def impl_dot.l0 (x1 : (((List (List Int)) × ((List (List Int)) × ((List Int) × (Int × (Int × Unit))))) × Unit)) : Option ((((List (List Int)) × ((List (List Int)) × ((List Int) × (Int × (Int × Unit))))) × Unit) ⊕ ((((List Int) × Unit) × Unit) ⊕ (((List Int) × Unit) × Unit))) :=
  (cond (decide (x1.1.2.2.2.2.1 < x1.1.2.2.2.1))
  (Option.bind (geti x1.1.1 x1.1.2.2.2.2.1) fun y2 =>
  (Option.bind (geti x1.1.2.1 x1.1.2.2.2.2.1) fun y3 =>
  (Option.bind (Go.Vi.impl_MulNtt.f (y2, (y3, ()))) fun y4 =>
  (Option.bind (Go.Vi.impl_PolyAdd.f (x1.1.2.2.1, (y4.1.1, ()))) fun y5 =>
  (some (.inl ((x1.1.1, (x1.1.2.1, (y5.1.1, (x1.1.2.2.2.1, ((Go.IntKind.wrap .i64 (x1.1.2.2.2.2.1 + 1)), ()))))), ())))))))
  (some (.inr (.inl ((x1.1.2.2.1, ()), ())))))
noncomputable def impl_dot.f (x : ((List (List Int)) × ((List (List Int)) × Unit))) : Option (((List Int) × Unit) × Unit) :=
  (Option.bind (iter impl_dot.l0 ((x.1, (x.2.1, ((List.replicate (Int.toNat 256) 0), ((x.1.length : Int), (0, ()))))), ())) fun y6 =>
  (match y6 with
  | .inl u7 => (some ((u7.1.1, ()), ()))
  | .inr w8 => (some w8)))
noncomputable def impl_Uniform.l14 (x15 : ((Unit × ((List Int) × (Int × (Int × ((List Int) × (Int × (Int × Unit))))))) × (((List UInt8) × (Int × Unit)) × Unit))) : Option (((Unit × ((List Int) × (Int × (Int × ((List Int) × (Int × (Int × Unit))))))) × (((List UInt8) × (Int × Unit)) × Unit)) ⊕ (((Unit × ((List Int) × (Int × (Int × Unit)))) × (((List UInt8) × (Int × Unit)) × Unit)) ⊕ (((List Int) × Unit) × Unit))) :=
  (cond (decide (x15.1.2.2.2.2.2.2.1 < x15.1.2.2.2.2.2.1))
  (Option.bind (geti x15.1.2.2.2.2.1 x15.1.2.2.2.2.2.2.1) fun y16 =>
  (Option.bind x15.1.2.2.2.2.1[(Int.toNat x15.1.2.2.2.2.2.2.1)]? fun y17 =>
  (cond (decide (y17 < 3329))
  (cond (decide (x15.1.2.2.1 < 256))
  (Option.bind (geti x15.1.2.1 x15.1.2.2.1) fun y18 =>
  (Option.bind x15.1.2.1[(Int.toNat x15.1.2.2.1)]? fun y19 =>
  (some (.inl (((), ((List.set x15.1.2.1 (Int.toNat x15.1.2.2.1) y17), ((Go.IntKind.wrap .i64 (x15.1.2.2.1 + 1)), (x15.1.2.2.2.1, (x15.1.2.2.2.2.1, (x15.1.2.2.2.2.2.1, ((Go.IntKind.wrap .i64 (x15.1.2.2.2.2.2.2.1 + 1)), ()))))))), (x15.2.1, ()))))))
  (some (.inl (((), (x15.1.2.1, (x15.1.2.2.1, (x15.1.2.2.2.1, (x15.1.2.2.2.2.1, (x15.1.2.2.2.2.2.1, ((Go.IntKind.wrap .i64 (x15.1.2.2.2.2.2.2.1 + 1)), ()))))))), (x15.2.1, ())))))
  (some (.inl (((), (x15.1.2.1, (x15.1.2.2.1, (x15.1.2.2.2.1, (x15.1.2.2.2.2.1, (x15.1.2.2.2.2.2.1, ((Go.IntKind.wrap .i64 (x15.1.2.2.2.2.2.2.1 + 1)), ()))))))), (x15.2.1, ())))))))
  (some (.inr (.inl (((), (x15.1.2.1, (x15.1.2.2.1, (x15.1.2.2.2.1, ())))), (x15.2.1, ()))))))
noncomputable def impl_Uniform.l5 (x6 : ((Unit × ((List Int) × (Int × (Int × Unit)))) × (((List UInt8) × (Int × Unit)) × Unit))) : Option (((Unit × ((List Int) × (Int × (Int × Unit)))) × (((List UInt8) × (Int × Unit)) × Unit)) ⊕ ((((List Int) × Unit) × Unit) ⊕ (((List Int) × Unit) × Unit))) :=
  (Option.bind (show Option (((Unit × ((List Int) × (Int × (Int × (Bool × Unit))))) × (((List UInt8) × (Int × Unit)) × Unit)) ⊕ (Unit ⊕ (((List Int) × Unit) × Unit))) from (cond (decide (x6.1.2.2.2.1 < 4000))
  (some (.inl (((), (x6.1.2.1, (x6.1.2.2.1, (x6.1.2.2.2.1, ((decide (x6.1.2.2.1 < 256)), ()))))), (x6.2.1, ()))))
  (some (.inl (((), (x6.1.2.1, (x6.1.2.2.1, (x6.1.2.2.2.1, (false, ()))))), (x6.2.1, ())))))) fun y7 =>
  (match y7 with
  | .inl u8 => (cond u8.1.2.2.2.2.1
  (Option.bind (Go.Vi.impl_StreamTake.f (u8.2.1, (3, ()))) fun y10 =>
  (Option.bind (geti y10.1.2.1 0) fun y11 =>
  (Option.bind (geti y10.1.2.1 1) fun y12 =>
  (Option.bind (geti y10.1.2.1 2) fun y13 =>
  (Option.bind (iter impl_Uniform.l14 (((), (u8.1.2.1, (u8.1.2.2.1, (u8.1.2.2.2.1, ([(Go.IntKind.wrap .i64 ((Go.IntKind.wrap .i64 ((UInt8.toNat y11) : Int)) + (Go.IntKind.wrap .i64 ((Int.tmod (Go.IntKind.wrap .i64 ((UInt8.toNat y12) : Int)) 16) * 256)))), (Go.IntKind.wrap .i64 ((Go.IntKind.wrap .i64 (Int.tdiv (Go.IntKind.wrap .i64 ((UInt8.toNat y12) : Int)) 16)) + (Go.IntKind.wrap .i64 (16 * (Go.IntKind.wrap .i64 ((UInt8.toNat y13) : Int))))))], (([(Go.IntKind.wrap .i64 ((Go.IntKind.wrap .i64 ((UInt8.toNat y11) : Int)) + (Go.IntKind.wrap .i64 ((Int.tmod (Go.IntKind.wrap .i64 ((UInt8.toNat y12) : Int)) 16) * 256)))), (Go.IntKind.wrap .i64 ((Go.IntKind.wrap .i64 (Int.tdiv (Go.IntKind.wrap .i64 ((UInt8.toNat y12) : Int)) 16)) + (Go.IntKind.wrap .i64 (16 * (Go.IntKind.wrap .i64 ((UInt8.toNat y13) : Int))))))].length : Int), (0, ()))))))), (y10.1.1, ()))) fun y20 =>
  (match y20 with
  | .inl u21 => (some (.inl (((), (u21.1.2.1, (u21.1.2.2.1, ((Go.IntKind.wrap .i64 (u21.1.2.2.2.1 + 1)), ())))), (u21.2.1, ()))))
  | .inr w22 => (some (.inr (.inr w22)))))))))
  (some (.inr (.inl ((u8.1.2.1, ()), ())))))
  | .inr w9 => (match w9 with
  | .inl u23 => none
  | .inr w24 => (some (.inr (.inr w24))))))
noncomputable def impl_Uniform.f (x : ((List UInt8) × (Int × (Int × Unit)))) : Option (((List Int) × Unit) × Unit) :=
  (Option.bind (Go.Vi.impl_oneByte.f (x.2.1, ())) fun y0 =>
  (Option.bind (cat x.1 y0.1.1) fun y1 =>
  (Option.bind (Go.Vi.impl_oneByte.f (x.2.2.1, ())) fun y2 =>
  (Option.bind (cat y1 y2.1.1) fun y3 =>
  (Option.bind (Go.Vi.impl_StreamNew.f (y3, ())) fun y4 =>
  (Option.bind (iter impl_Uniform.l5 (((), ((List.replicate (Int.toNat 256) 0), (0, (0, ())))), (y4.1.1, ()))) fun y25 =>
  (match y25 with
  | .inl u26 => (some ((u26.1.1, ()), ()))
  | .inr w27 => (some w27))))))))
noncomputable def impl_row.l0 (x1 : (((List UInt8) × (Int × (Bool × ((List (List Int)) × (Int × Unit))))) × Unit)) : Option ((((List UInt8) × (Int × (Bool × ((List (List Int)) × (Int × Unit))))) × Unit) ⊕ ((((List (List Int)) × Unit) × Unit) ⊕ (((List (List Int)) × Unit) × Unit))) :=
  (cond (decide (x1.1.2.2.2.2.1 < 2))
  (cond x1.1.2.2.1
  (Option.bind (Go.Vi.impl_Uniform.f (x1.1.1, (x1.1.2.1, (x1.1.2.2.2.2.1, ())))) fun y2 =>
  (Option.bind (app 24 x1.1.2.2.2.1 [y2.1.1]) fun y3 =>
  (some (.inl ((x1.1.1, (x1.1.2.1, (x1.1.2.2.1, (y3, ((Go.IntKind.wrap .i64 (x1.1.2.2.2.2.1 + 1)), ()))))), ())))))
  (Option.bind (Go.Vi.impl_Uniform.f (x1.1.1, (x1.1.2.2.2.2.1, (x1.1.2.1, ())))) fun y4 =>
  (Option.bind (app 24 x1.1.2.2.2.1 [y4.1.1]) fun y5 =>
  (some (.inl ((x1.1.1, (x1.1.2.1, (x1.1.2.2.1, (y5, ((Go.IntKind.wrap .i64 (x1.1.2.2.2.2.1 + 1)), ()))))), ()))))))
  (some (.inr (.inl ((x1.1.2.2.2.1, ()), ())))))
noncomputable def impl_row.f (x : ((List UInt8) × (Int × (Bool × Unit)))) : Option (((List (List Int)) × Unit) × Unit) :=
  (Option.bind (iter impl_row.l0 ((x.1, (x.2.1, (x.2.2.1, ([], (0, ()))))), ())) fun y6 =>
  (match y6 with
  | .inl u7 => (some ((u7.1.1, ()), ()))
  | .inr w8 => (some w8)))
noncomputable def impl_PairOf.l9 (x10 : ((Unit × ((List UInt8) × ((List UInt8) × ((List (List Int)) × ((List (List Int)) × ((List UInt8) × ((List UInt8) × (Int × Unit)))))))) × (((List UInt8) × ((List UInt8) × Unit)) × Unit))) : Option (((Unit × ((List UInt8) × ((List UInt8) × ((List (List Int)) × ((List (List Int)) × ((List UInt8) × ((List UInt8) × (Int × Unit)))))))) × (((List UInt8) × ((List UInt8) × Unit)) × Unit)) ⊕ (((Unit × ((List UInt8) × ((List UInt8) × ((List UInt8) × ((List UInt8) × Unit))))) × (((List UInt8) × ((List UInt8) × Unit)) × Unit)) ⊕ ((((List UInt8) × ((List UInt8) × Unit)) × (Bool × Unit)) × Unit))) :=
  (cond (decide (x10.1.2.2.2.2.2.2.2.1 < 2))
  (Option.bind (Go.Vi.impl_row.f (x10.1.2.2.1, (x10.1.2.2.2.2.2.2.2.1, (false, ())))) fun y11 =>
  (Option.bind (Go.Vi.impl_dot.f (y11.1.1, (x10.1.2.2.2.1, ()))) fun y12 =>
  (Option.bind (geti x10.1.2.2.2.2.1 x10.1.2.2.2.2.2.2.2.1) fun y13 =>
  (Option.bind (Go.Vi.impl_PolyAdd.f (y12.1.1, (y13, ()))) fun y14 =>
  (Option.bind (Go.Vi.impl_PolyBytes.f (y14.1.1, ())) fun y15 =>
  (Option.bind (cat x10.1.2.2.2.2.2.1 y15.1.1) fun y16 =>
  (Option.bind (geti x10.1.2.2.2.1 x10.1.2.2.2.2.2.2.2.1) fun y17 =>
  (Option.bind (Go.Vi.impl_PolyBytes.f (y17, ())) fun y18 =>
  (Option.bind (cat x10.1.2.2.2.2.2.2.1 y18.1.1) fun y19 =>
  (some (.inl (((), (x10.1.2.1, (x10.1.2.2.1, (x10.1.2.2.2.1, (x10.1.2.2.2.2.1, (y16, (y19, ((Go.IntKind.wrap .i64 (x10.1.2.2.2.2.2.2.2.1 + 1)), ())))))))), (x10.2.1, ())))))))))))))
  (some (.inr (.inl (((), (x10.1.2.1, (x10.1.2.2.1, (x10.1.2.2.2.2.2.1, (x10.1.2.2.2.2.2.2.1, ()))))), (x10.2.1, ()))))))
noncomputable def impl_PairOf.f (x : ((List UInt8) × Unit)) : Option ((((List UInt8) × ((List UInt8) × Unit)) × (Bool × Unit)) × Unit) :=
  (cond (!(decide ((x.1.length : Int) = 32)))
  (some ((([], ([], ())), (false, ())), ()))
  (Option.bind (Go.Vi.impl_DigestOf.f (x.1, ())) fun y0 =>
  (Option.bind (cat y0.1.1 [114]) fun y1 =>
  (Option.bind (Go.Vi.impl_DigestOf.f (y1, ())) fun y2 =>
  (Option.bind (cat y0.1.1 [115]) fun y3 =>
  (Option.bind (Go.Vi.impl_DigestOf.f (y3, ())) fun y4 =>
  (Option.bind (Go.Vi.impl_smalls.f (y4.1.1, (0, ()))) fun y5 =>
  (Option.bind (Go.Vi.impl_ntts.f (y5.1.1, ())) fun y6 =>
  (Option.bind (Go.Vi.impl_smalls.f (y4.1.1, (2, ()))) fun y7 =>
  (Option.bind (Go.Vi.impl_ntts.f (y7.1.1, ())) fun y8 =>
  (Option.bind (iter impl_PairOf.l9 (((), (y0.1.1, (y2.1.1, (y6.1.1, (y8.1.1, ([], ([], (0, ())))))))), (([], ([], ())), ()))) fun y20 =>
  (match y20 with
  | .inl u21 => (Option.bind (cat u21.1.2.2.2.1 u21.1.2.2.1) fun y23 =>
  (Option.bind (cat u21.1.2.2.2.2.1 y23) fun y24 =>
  (Option.bind (Go.Vi.impl_DigestOf.f (y23, ())) fun y25 =>
  (Option.bind (cat y24 y25.1.1) fun y26 =>
  (Option.bind (cat u21.1.2.1 [122]) fun y27 =>
  (Option.bind (Go.Vi.impl_DigestOf.f (y27, ())) fun y28 =>
  (Option.bind (cat y26 y28.1.1) fun y29 =>
  (some (((y23, (y29, ())), (true, ())), ())))))))))
  | .inr w22 => (some w22)))))))))))))
noncomputable def impl_Chop.f (x : ((List UInt8) × Unit)) : Option (((List UInt8) × Unit) × Unit) :=
  (Option.bind (Go.Vi.impl_DigestOf.f (x.1, ())) fun y0 =>
  (Option.bind (slc y0.1.1 0 4) fun y1 =>
  (some ((y1, ()), ()))))
noncomputable def impl_Node.f (x : (Int × (Int × ((List UInt8) × ((List UInt8) × Unit))))) : Option (((List UInt8) × Unit) × Unit) :=
  (Option.bind (Go.Vi.impl_oneByte.f (x.1, ())) fun y0 =>
  (Option.bind (Go.Vi.impl_oneByte.f (x.2.1, ())) fun y1 =>
  (Option.bind (cat y0.1.1 y1.1.1) fun y2 =>
  (Option.bind (cat y2 x.2.2.1) fun y3 =>
  (Option.bind (cat y3 x.2.2.2.1) fun y4 =>
  (Option.bind (cat y4 [110]) fun y5 =>
  (Option.bind (Go.Vi.impl_Chop.f (y5, ())) fun y6 =>
  (some ((y6.1.1, ()), ())))))))))
noncomputable def impl_LevelUp.l0 (x1 : ((Int × ((List (List UInt8)) × ((List (List UInt8)) × (Int × Unit)))) × Unit)) : Option (((Int × ((List (List UInt8)) × ((List (List UInt8)) × (Int × Unit)))) × Unit) ⊕ ((((List (List UInt8)) × Unit) × Unit) ⊕ (((List (List UInt8)) × Unit) × Unit))) :=
  (cond (decide ((Go.IntKind.wrap .i64 (x1.1.2.2.2.1 + 1)) < (x1.1.2.1.length : Int)))
  (Option.bind (geti x1.1.2.1 x1.1.2.2.2.1) fun y2 =>
  (Option.bind (geti x1.1.2.1 (Go.IntKind.wrap .i64 (x1.1.2.2.2.1 + 1))) fun y3 =>
  (Option.bind (Go.Vi.impl_Node.f (x1.1.1, ((Go.IntKind.wrap .i64 (Int.tdiv x1.1.2.2.2.1 2)), (y2, (y3, ()))))) fun y4 =>
  (Option.bind (app 16 x1.1.2.2.1 [y4.1.1]) fun y5 =>
  (some (.inl ((x1.1.1, (x1.1.2.1, (y5, ((Go.IntKind.wrap .i64 (x1.1.2.2.2.1 + 2)), ())))), ())))))))
  (some (.inr (.inl ((x1.1.2.2.1, ()), ())))))
noncomputable def impl_LevelUp.f (x : (Int × ((List (List UInt8)) × Unit))) : Option (((List (List UInt8)) × Unit) × Unit) :=
  (Option.bind (iter impl_LevelUp.l0 ((x.1, (x.2.1, ([], (0, ())))), ())) fun y6 =>
  (match y6 with
  | .inl u7 => (some ((u7.1.1, ()), ()))
  | .inr w8 => (some w8)))
noncomputable def impl_RootOf.l0 (x1 : (((List (List UInt8)) × (Int × Unit)) × Unit)) : Option ((((List (List UInt8)) × (Int × Unit)) × Unit) ⊕ ((((List (List UInt8)) × Unit) × Unit) ⊕ (((List UInt8) × Unit) × Unit))) :=
  (cond (decide ((x1.1.1.length : Int) > 1))
  (Option.bind (Go.Vi.impl_LevelUp.f (x1.1.2.1, (x1.1.1, ()))) fun y2 =>
  (some (.inl ((y2.1.1, ((Go.IntKind.wrap .i64 (x1.1.2.1 + 1)), ())), ()))))
  (some (.inr (.inl ((x1.1.1, ()), ())))))
noncomputable def impl_RootOf.f (x : ((List (List UInt8)) × Unit)) : Option (((List UInt8) × Unit) × Unit) :=
  (cond (!(decide ((x.1.length : Int) = 4)))
  (some (([], ()), ()))
  (Option.bind (iter impl_RootOf.l0 ((x.1, (1, ())), ())) fun y3 =>
  (match y3 with
  | .inl u4 => (Option.bind (geti u4.1.1 0) fun y6 =>
  (some ((y6, ()), ())))
  | .inr w5 => (some w5))))
noncomputable def impl_OncePublic_1.f (x : (Int × Unit)) : Option ((Int × Unit) × Unit) :=
  (some ((0, ()), ()))
noncomputable def impl_OncePublic_2.f (x : (Int × Unit)) : Option ((Int × Unit) × Unit) :=
  (some ((15, ()), ()))
noncomputable def impl_ChainOf.l0 (x1 : (((List UInt8) × (Int × (Int × (Int × (Int × (Int × Unit)))))) × Unit)) : Option ((((List UInt8) × (Int × (Int × (Int × (Int × (Int × Unit)))))) × Unit) ⊕ ((((List UInt8) × Unit) × Unit) ⊕ (((List UInt8) × Unit) × Unit))) :=
  (cond (decide (x1.1.2.2.2.2.2.1 < x1.1.2.2.2.2.1))
  (Option.bind (Go.Vi.impl_oneByte.f (x1.1.2.1, ())) fun y2 =>
  (Option.bind (Go.Vi.impl_oneByte.f (x1.1.2.2.1, ())) fun y3 =>
  (Option.bind (cat y2.1.1 y3.1.1) fun y4 =>
  (Option.bind (Go.Vi.impl_oneByte.f ((Go.IntKind.wrap .i64 (x1.1.2.2.2.1 + x1.1.2.2.2.2.2.1)), ())) fun y5 =>
  (Option.bind (cat y4 y5.1.1) fun y6 =>
  (Option.bind (cat y6 x1.1.1) fun y7 =>
  (Option.bind (Go.Vi.impl_Chop.f (y7, ())) fun y8 =>
  (some (.inl ((y8.1.1, (x1.1.2.1, (x1.1.2.2.1, (x1.1.2.2.2.1, (x1.1.2.2.2.2.1, ((Go.IntKind.wrap .i64 (x1.1.2.2.2.2.2.1 + 1)), ())))))), ()))))))))))
  (some (.inr (.inl ((x1.1.1, ()), ())))))
noncomputable def impl_ChainOf.f (x : ((List UInt8) × (Int × (Int × (Int × (Int × Unit)))))) : Option (((List UInt8) × Unit) × Unit) :=
  (Option.bind (iter impl_ChainOf.l0 ((x.1, (x.2.1, (x.2.2.1, (x.2.2.2.1, ((mn x.2.2.2.2.1 15), (0, ())))))), ())) fun y9 =>
  (match y9 with
  | .inl u10 => (some ((u10.1.1, ()), ()))
  | .inr w11 => (some w11)))
noncomputable def impl_chopped.l0 (x1 : ((Int × (Unit × (Unit × ((List UInt8) × ((List (List UInt8)) × (Int × (Int × Unit))))))) × Unit)) : Option (((Int × (Unit × (Unit × ((List UInt8) × ((List (List UInt8)) × (Int × (Int × Unit))))))) × Unit) ⊕ ((((List UInt8) × Unit) × Unit) ⊕ (((List UInt8) × Unit) × Unit))) :=
  (cond (decide (x1.1.2.2.2.2.2.2.1 < x1.1.2.2.2.2.2.1))
  (Option.bind (geti x1.1.2.2.2.2.1 x1.1.2.2.2.2.2.2.1) fun y2 =>
  (Option.bind (Go.Vi.impl_OncePublic_1.f (x1.1.2.2.2.2.2.2.1, ())) fun y3 =>
  (Option.bind (Go.Vi.impl_OncePublic_2.f (x1.1.2.2.2.2.2.2.1, ())) fun y4 =>
  (Option.bind (Go.Vi.impl_ChainOf.f (y2, (x1.1.1, (x1.1.2.2.2.2.2.2.1, (y3.1.1, (y4.1.1, ())))))) fun y5 =>
  (Option.bind (cat x1.1.2.2.2.1 y5.1.1) fun y6 =>
  (some (.inl ((x1.1.1, ((), ((), (y6, (x1.1.2.2.2.2.1, (x1.1.2.2.2.2.2.1, ((Go.IntKind.wrap .i64 (x1.1.2.2.2.2.2.2.1 + 1)), ()))))))), ()))))))))
  (some (.inr (.inl ((x1.1.2.2.2.1, ()), ())))))
noncomputable def impl_chopped.f (x : ((List (List UInt8)) × (Int × Unit))) : Option (((List UInt8) × Unit) × Unit) :=
  (cond (!(decide ((x.1.length : Int) = 10)))
  (some (([], ()), ()))
  (Option.bind (iter impl_chopped.l0 ((x.2.1, ((), ((), ([], (x.1, ((x.1.length : Int), (0, ()))))))), ())) fun y7 =>
  (match y7 with
  | .inl u8 => (Option.bind (Go.Vi.impl_Chop.f (u8.1.1, ())) fun y10 =>
  (some ((y10.1.1, ()), ())))
  | .inr w9 => (some w9))))
noncomputable def impl_OncePublic.f (x : ((List (List UInt8)) × (Int × Unit))) : Option (((List UInt8) × Unit) × Unit) :=
  (Option.bind (Go.Vi.impl_chopped.f (x.1, (x.2.1, ()))) fun y0 =>
  (some ((y0.1.1, ()), ())))
noncomputable def impl_OnceKey.l0 (x1 : (((List UInt8) × (Int × ((List (List UInt8)) × (Int × Unit)))) × Unit)) : Option ((((List UInt8) × (Int × ((List (List UInt8)) × (Int × Unit)))) × Unit) ⊕ ((((List (List UInt8)) × Unit) × Unit) ⊕ (((List (List UInt8)) × Unit) × Unit))) :=
  (cond (decide (x1.1.2.2.2.1 < 10))
  (Option.bind (Go.Vi.impl_oneByte.f (x1.1.2.1, ())) fun y2 =>
  (Option.bind (cat x1.1.1 y2.1.1) fun y3 =>
  (Option.bind (Go.Vi.impl_oneByte.f (x1.1.2.2.2.1, ())) fun y4 =>
  (Option.bind (cat y3 y4.1.1) fun y5 =>
  (Option.bind (cat y5 [111]) fun y6 =>
  (Option.bind (Go.Vi.impl_Chop.f (y6, ())) fun y7 =>
  (Option.bind (app 16 x1.1.2.2.1 [y7.1.1]) fun y8 =>
  (some (.inl ((x1.1.1, (x1.1.2.1, (y8, ((Go.IntKind.wrap .i64 (x1.1.2.2.2.1 + 1)), ())))), ()))))))))))
  (some (.inr (.inl ((x1.1.2.2.1, ()), ())))))
noncomputable def impl_OnceKey.f (x : ((List UInt8) × (Int × Unit))) : Option (((List (List UInt8)) × Unit) × Unit) :=
  (Option.bind (iter impl_OnceKey.l0 ((x.1, (x.2.1, ([], (0, ())))), ())) fun y9 =>
  (match y9 with
  | .inl u10 => (some ((u10.1.1, ()), ()))
  | .inr w11 => (some w11)))
noncomputable def impl_leavesOf.l0 (x1 : (((List UInt8) × ((List (List UInt8)) × (Int × Unit))) × Unit)) : Option ((((List UInt8) × ((List (List UInt8)) × (Int × Unit))) × Unit) ⊕ ((((List (List UInt8)) × Unit) × Unit) ⊕ (((List (List UInt8)) × Unit) × Unit))) :=
  (cond (decide (x1.1.2.2.1 < 4))
  (Option.bind (Go.Vi.impl_OnceKey.f (x1.1.1, (x1.1.2.2.1, ()))) fun y2 =>
  (Option.bind (Go.Vi.impl_OncePublic.f (y2.1.1, (x1.1.2.2.1, ()))) fun y3 =>
  (Option.bind (app 16 x1.1.2.1 [y3.1.1]) fun y4 =>
  (some (.inl ((x1.1.1, (y4, ((Go.IntKind.wrap .i64 (x1.1.2.2.1 + 1)), ()))), ()))))))
  (some (.inr (.inl ((x1.1.2.1, ()), ())))))
noncomputable def impl_leavesOf.f (x : ((List UInt8) × Unit)) : Option (((List (List UInt8)) × Unit) × Unit) :=
  (Option.bind (iter impl_leavesOf.l0 ((x.1, ([], (0, ()))), ())) fun y5 =>
  (match y5 with
  | .inl u6 => (some ((u6.1.1, ()), ()))
  | .inr w7 => (some w7)))
noncomputable def impl_PublicOf.f (x : ((List UInt8) × Unit)) : Option (((List UInt8) × Unit) × Unit) :=
  (Option.bind (Go.Vi.impl_leavesOf.f (x.1, ())) fun y0 =>
  (Option.bind (Go.Vi.impl_RootOf.f (y0.1.1, ())) fun y1 =>
  (some ((y1.1.1, ()), ()))))
noncomputable def impl_HyperPublic.f (x : ((List UInt8) × Unit)) : Option (((List UInt8) × Unit) × Unit) :=
  (Option.bind (cat x.1 [116]) fun y0 =>
  (Option.bind (Go.Vi.impl_PublicOf.f (y0, ())) fun y1 =>
  (some ((y1.1.1, ()), ()))))
noncomputable def impl_PublicPart.f (x : ((Int × (Int × (Bool × (Bool × (Bool × (Bool × ((List UInt8) × (Int × Unit)))))))) × Unit)) : Option (((List UInt8) × Unit) × Unit) :=
  (Option.bind (Go.Vi.impl_ThingOk.f (x.1, ())) fun y0 =>
  (cond (!y0.1.1)
  (some (([], ()), ()))
  (cond (decide (x.1.2.1 = 1))
  (Option.bind (Go.Vi.impl_PairOf.f (x.1.2.2.2.2.2.2.1, ())) fun y1 =>
  (some ((y1.1.1.1, ()), ())))
  (cond (decide (x.1.2.1 = 2))
  (Option.bind (Go.Vi.impl_HyperPublic.f (x.1.2.2.2.2.2.2.1, ())) fun y2 =>
  (some ((y2.1.1, ()), ())))
  (some (([], ()), ()))))))
noncomputable def laws_FnExactPublicPart.f (x : ((Int × (Int × (Bool × (Bool × (Bool × (Bool × ((List UInt8) × (Int × Unit)))))))) × Unit)) : Option ((Bool × Unit) × Unit) :=
  (Option.bind (Go.Vi.laws_szThing.f (x.1, (1048576, ()))) fun y0 =>
  (cond (decide (y0.1.1 < 0))
  (some ((true, ()), ()))
  (Option.bind (Go.Vi.laws_toThing.f (x.1, ())) fun y1 =>
  (Option.bind (Go.Vi.spec_PublicPart.f (y1.1.1, ())) fun y2 =>
  (Option.bind (Go.Vi.laws_toThing.f (x.1, ())) fun y3 =>
  (Option.bind (Go.Vi.impl_PublicPart.f (y3.1.1, ())) fun y4 =>
  (cond (!(decide (y4.1.1 = y2.1.1)))
  (some ((false, ()), ()))
  (some ((true, ()), ())))))))))
noncomputable def laws_big.f (x : ((List Int) × Unit)) : Option ((Bool × Unit) × Unit) :=
  (some (((decide ((x.1.length : Int) > 1048576)), ()), ()))
noncomputable def spec_l01Byte.f (x : (((List Int) × (Int × (Int × Unit))) × Unit)) : Option ((Int × Unit) × (((List Int) × (Int × (Int × Unit))) × Unit)) :=
  (cond (decide (x.1.2.1 < (x.1.1.length : Int)))
  (Option.bind (geti x.1.1 x.1.2.1) fun y0 =>
  (some (((ibits .and .i64 (Go.IntKind.wrap .i64 ((ibits .and .i64 (ibits .xor .i64 (ishr .i64 (Go.IntKind.wrap .i64 ((Go.IntKind.wrap .i64 (x.1.2.2.1 * 6364136223846793005)) + 1442695040888963407)) 33) (ishr .i64 (Go.IntKind.wrap .i64 ((Go.IntKind.wrap .i64 (x.1.2.2.1 * 6364136223846793005)) + 1442695040888963407)) 45)) 255) + (Go.IntKind.wrap .i64 y0))) 255), ()), ((x.1.1, ((Go.IntKind.wrap .i64 (x.1.2.1 + 1)), ((Go.IntKind.wrap .i64 ((Go.IntKind.wrap .i64 (x.1.2.2.1 * 6364136223846793005)) + 1442695040888963407)), x.1.2.2.2))), ()))))
  (some (((ibits .and .i64 (ibits .xor .i64 (ishr .i64 (Go.IntKind.wrap .i64 ((Go.IntKind.wrap .i64 (x.1.2.2.1 * 6364136223846793005)) + 1442695040888963407)) 33) (ishr .i64 (Go.IntKind.wrap .i64 ((Go.IntKind.wrap .i64 (x.1.2.2.1 * 6364136223846793005)) + 1442695040888963407)) 45)) 255), ()), ((x.1.1, (x.1.2.1, ((Go.IntKind.wrap .i64 ((Go.IntKind.wrap .i64 (x.1.2.2.1 * 6364136223846793005)) + 1442695040888963407)), x.1.2.2.2))), ()))))
noncomputable def spec_l01Below.f (x : (((List Int) × (Int × (Int × Unit))) × (Int × Unit))) : Option ((Int × Unit) × (((List Int) × (Int × (Int × Unit))) × Unit)) :=
  (cond (decide (x.2.1 ≤ 0))
  (some ((0, ()), (x.1, ())))
  (cond (decide (x.2.1 ≤ 256))
  (Option.bind (Go.Vi.spec_l01Byte.f (x.1, ())) fun y0 =>
  (cond (decide (x.2.1 = 0))
  none
  (some (((Int.tmod y0.1.1 x.2.1), ()), (y0.2.1, ())))))
  (Option.bind (Go.Vi.spec_l01Byte.f (x.1, ())) fun y1 =>
  (Option.bind (Go.Vi.spec_l01Byte.f (y1.2.1, ())) fun y2 =>
  (Option.bind (Go.Vi.spec_l01Byte.f (y2.2.1, ())) fun y3 =>
  (Option.bind (Go.Vi.spec_l01Byte.f (y3.2.1, ())) fun y4 =>
  (cond (decide (x.2.1 = 0))
  none
  (some (((Int.tmod (Go.IntKind.wrap .i64 ((Go.IntKind.wrap .i64 ((Go.IntKind.wrap .i64 ((Go.IntKind.wrap .i64 (y1.1.1 * 16777216)) + (Go.IntKind.wrap .i64 (y2.1.1 * 65536)))) + (Go.IntKind.wrap .i64 (y3.1.1 * 256)))) + y4.1.1)) x.2.1), ()), (y4.2.1, ()))))))))))
noncomputable def spec_l01Text.l3 (x4 : ((Unit × (Int × ((List Int) × (Int × Unit)))) × (((List Int) × (Int × (Int × Unit))) × Unit))) : Option (((Unit × (Int × ((List Int) × (Int × Unit)))) × (((List Int) × (Int × (Int × Unit))) × Unit)) ⊕ ((((List Int) × Unit) × (((List Int) × (Int × (Int × Unit))) × Unit)) ⊕ (((List UInt8) × Unit) × (((List Int) × (Int × (Int × Unit))) × Unit)))) :=
  (cond (decide (x4.1.2.2.2.1 < x4.1.2.1))
  (Option.bind (Go.Vi.spec_l01Byte.f (x4.2.1, ())) fun y5 =>
  (Option.bind (app 1 x4.1.2.2.1 [(Go.IntKind.wrap .u8 y5.1.1)]) fun y6 =>
  (some (.inl (((), (x4.1.2.1, (y6, ((Go.IntKind.wrap .i64 (x4.1.2.2.2.1 + 1)), ())))), (y5.2.1, ()))))))
  (some (.inr (.inl ((x4.1.2.2.1, ()), (x4.2.1, ()))))))
noncomputable def spec_l01Text.f (x : (((List Int) × (Int × (Int × Unit))) × (Int × Unit))) : Option (((List UInt8) × Unit) × (((List Int) × (Int × (Int × Unit))) × Unit)) :=
  (Option.bind (show Option (((Unit × (Int × Unit)) × (((List Int) × (Int × (Int × Unit))) × Unit)) ⊕ (Unit ⊕ (((List UInt8) × Unit) × (((List Int) × (Int × (Int × Unit))) × Unit)))) from (cond (decide (x.2.1 > 5000))
  (some (.inl (((), (5000, ())), (x.1, ()))))
  (some (.inl (((), (x.2.1, ())), (x.1, ())))))) fun y0 =>
  (match y0 with
  | .inl u1 => (Option.bind (iter spec_l01Text.l3 (((), (u1.1.2.1, ([], (0, ())))), (u1.2.1, ()))) fun y7 =>
  (match y7 with
  | .inl u8 => (some (((ofBytes u8.1.1), ()), (u8.2.1, ())))
  | .inr w9 => (some w9)))
  | .inr w2 => (match w2 with
  | .inl u10 => none
  | .inr w11 => (some w11))))
noncomputable def spec_l01Once.f (x : (((List Int) × (Int × (Int × Unit))) × (Int × Unit))) : Option ((Bool × Unit) × (((List Int) × (Int × (Int × Unit))) × Unit)) :=
  (Option.bind (Go.Vi.spec_l01Below.f (x.1, (x.2.1, ()))) fun y0 =>
  (some (((decide (y0.1.1 = 0)), ()), (y0.2.1, ()))))
noncomputable def spec_l01Pick.f (x : (((List Int) × (Int × (Int × Unit))) × ((List (List UInt8)) × Unit))) : Option (((List UInt8) × Unit) × (((List Int) × (Int × (Int × Unit))) × Unit)) :=
  (Option.bind (Go.Vi.spec_l01Below.f (x.1, ((x.2.1.length : Int), ()))) fun y0 =>
  (Option.bind (geti x.2.1 y0.1.1) fun y1 =>
  (some ((y1, ()), (y0.2.1, ())))))
noncomputable def spec_l19Thing.f (x : (((List Int) × (Int × (Int × Unit))) × Unit)) : Option (((Int × (Int × (Bool × (Bool × (Bool × (Bool × ((List UInt8) × (Int × Unit)))))))) × Unit) × (((List Int) × (Int × (Int × Unit))) × Unit)) :=
  (Option.bind (Go.Vi.spec_l01Below.f (x.1, (6, ()))) fun y0 =>
  (Option.bind (Go.Vi.spec_l01Below.f (y0.2.1, (3, ()))) fun y1 =>
  (Option.bind (Go.Vi.spec_l01Once.f (y1.2.1, (2, ()))) fun y2 =>
  (Option.bind (Go.Vi.spec_l01Once.f (y2.2.1, (2, ()))) fun y3 =>
  (cond (decide ((Go.IntKind.wrap .i64 (1 + y1.1.1)) = 3))
  (Option.bind (Go.Vi.spec_l01Below.f (y3.2.1, (9, ()))) fun y4 =>
  (Option.bind (Go.Vi.spec_l01Text.f (y4.2.1, (y4.1.1, ()))) fun y5 =>
  (some ((((Go.IntKind.wrap .i64 (1 + y0.1.1)), ((Go.IntKind.wrap .i64 (1 + y1.1.1)), (y2.1.1, (y3.1.1, (false, (false, (y5.1.1, (0, ())))))))), ()), (y5.2.1, ())))))
  (cond (decide ((Go.IntKind.wrap .i64 (1 + y1.1.1)) = 2))
  (Option.bind (Go.Vi.spec_l01Below.f (y3.2.1, (17, ()))) fun y6 =>
  (Option.bind (Go.Vi.spec_l01Once.f (y6.2.1, (4, ()))) fun y7 =>
  (Option.bind (Go.Vi.spec_l01Pick.f (y7.2.1, ([[97], [98], [99]], ()))) fun y8 =>
  (Option.bind (Go.Vi.spec_DigestOf.f (y8.1.1, ())) fun y9 =>
  (some ((((Go.IntKind.wrap .i64 (1 + y0.1.1)), ((Go.IntKind.wrap .i64 (1 + y1.1.1)), (y2.1.1, (y3.1.1, ((!y7.1.1), (false, (y9.1.1, (y6.1.1, ())))))))), ()), (y8.2.1, ())))))))
  (Option.bind (Go.Vi.spec_l01Once.f (y3.2.1, (4, ()))) fun y10 =>
  (Option.bind (Go.Vi.spec_l01Pick.f (y10.2.1, ([[97], [98], [99]], ()))) fun y11 =>
  (Option.bind (Go.Vi.spec_DigestOf.f (y11.1.1, ())) fun y12 =>
  (some ((((Go.IntKind.wrap .i64 (1 + y0.1.1)), ((Go.IntKind.wrap .i64 (1 + y1.1.1)), (y2.1.1, (y3.1.1, (false, ((!y10.1.1), (y12.1.1, (0, ())))))))), ()), (y11.2.1, ()))))))))))))
noncomputable def spec_l01PickInt.f (x : (((List Int) × (Int × (Int × Unit))) × ((List Int) × Unit))) : Option ((Int × Unit) × (((List Int) × (Int × (Int × Unit))) × Unit)) :=
  (Option.bind (Go.Vi.spec_l01Below.f (x.1, ((x.2.1.length : Int), ()))) fun y0 =>
  (Option.bind (geti x.2.1 y0.1.1) fun y1 =>
  (some ((y1, ()), (y0.2.1, ())))))
noncomputable def spec_l01Long.l0 (x1 : ((Int × (Int × ((List Int) × (Int × Unit)))) × Unit)) : Option (((Int × (Int × ((List Int) × (Int × Unit)))) × Unit) ⊕ ((((List Int) × Unit) × Unit) ⊕ (((List UInt8) × Unit) × Unit))) :=
  (cond (decide (x1.1.2.2.2.1 < x1.1.1))
  (Option.bind (geti x1.1.2.2.1 x1.1.2.2.2.1) fun y2 =>
  (Option.bind x1.1.2.2.1[(Int.toNat x1.1.2.2.2.1)]? fun y3 =>
  (some (.inl ((x1.1.1, (x1.1.2.1, ((List.set x1.1.2.2.1 (Int.toNat x1.1.2.2.2.1) x1.1.2.1), ((Go.IntKind.wrap .i64 (x1.1.2.2.2.1 + 1)), ())))), ())))))
  (some (.inr (.inl ((x1.1.2.2.1, ()), ())))))
noncomputable def spec_l01Long.f (x : (Int × (Int × Unit))) : Option (((List UInt8) × Unit) × Unit) :=
  (cond (decide ((0 ≤ x.1) ∧ ((x.1 * (1 : Int)) ≤ 140737488355328)))
  (Option.bind (iter spec_l01Long.l0 ((x.1, (x.2.1, ((List.replicate (Int.toNat x.1) 0), (0, ())))), ())) fun y4 =>
  (match y4 with
  | .inl u5 => (some (((ofBytes u5.1.1), ()), ()))
  | .inr w6 => (some w6)))
  none)
noncomputable def spec_l19Any.f (x : (((List Int) × (Int × (Int × Unit))) × Unit)) : Option (((Int × (Int × (Bool × (Bool × (Bool × (Bool × ((List UInt8) × (Int × Unit)))))))) × Unit) × (((List Int) × (Int × (Int × Unit))) × Unit)) :=
  (Option.bind (Go.Vi.spec_l19Thing.f (x.1, ())) fun y0 =>
  (Option.bind (Go.Vi.spec_l01Below.f (y0.2.1, (20, ()))) fun y1 =>
  (cond (decide (y1.1.1 = 0))
  (Option.bind (Go.Vi.spec_l01PickInt.f (y1.2.1, ([0, (-1), 1000, 1001], ()))) fun y2 =>
  (some (((y2.1.1, y0.1.1.2), ()), (y2.2.1, ()))))
  (cond (decide (y1.1.1 = 1))
  (Option.bind (Go.Vi.spec_l01Below.f (y1.2.1, (5, ()))) fun y3 =>
  (some (((y0.1.1.1, (y3.1.1, y0.1.1.2.2)), ()), (y3.2.1, ()))))
  (cond (decide (y1.1.1 = 2))
  (some (((y0.1.1.1, (y0.1.1.2.1, (y0.1.1.2.2.1, (y0.1.1.2.2.2.1, ((!y0.1.1.2.2.2.2.1), y0.1.1.2.2.2.2.2))))), ()), (y1.2.1, ())))
  (cond (decide (y1.1.1 = 3))
  (some (((y0.1.1.1, (y0.1.1.2.1, (y0.1.1.2.2.1, (y0.1.1.2.2.2.1, (y0.1.1.2.2.2.2.1, ((!y0.1.1.2.2.2.2.2.1), y0.1.1.2.2.2.2.2.2)))))), ()), (y1.2.1, ())))
  (cond (decide (y1.1.1 = 4))
  (Option.bind (Go.Vi.spec_l01PickInt.f (y1.2.1, ([(-1), 0, 16, 17], ()))) fun y4 =>
  (some (((y0.1.1.1, (y0.1.1.2.1, (y0.1.1.2.2.1, (y0.1.1.2.2.2.1, (y0.1.1.2.2.2.2.1, (y0.1.1.2.2.2.2.2.1, (y0.1.1.2.2.2.2.2.2.1, (y4.1.1, y0.1.1.2.2.2.2.2.2.2.2)))))))), ()), (y4.2.1, ()))))
  (cond (decide (y1.1.1 = 5))
  (Option.bind (Go.Vi.spec_l01PickInt.f (y1.2.1, ([31, 32, 33, 100, 101], ()))) fun y5 =>
  (Option.bind (Go.Vi.spec_l01Long.f (y5.1.1, (70, ()))) fun y6 =>
  (some (((y0.1.1.1, (y0.1.1.2.1, (y0.1.1.2.2.1, (y0.1.1.2.2.2.1, (y0.1.1.2.2.2.2.1, (y0.1.1.2.2.2.2.2.1, (y6.1.1, y0.1.1.2.2.2.2.2.2.2))))))), ()), (y5.2.1, ())))))
  (some ((y0.1.1, ()), (y1.2.1, ())))))))))))
noncomputable def spec_l01New.l0 (x1 : (((List Int) × (Int × (Int × Unit))) × Unit)) : Option ((((List Int) × (Int × (Int × Unit))) × Unit) ⊕ ((((List Int) × (Int × Unit)) × Unit) ⊕ ((((List Int) × (Int × (Int × Unit))) × Unit) × Unit))) :=
  (Option.bind (show Option ((((List Int) × (Int × (Int × (Bool × Unit)))) × Unit) ⊕ (Unit ⊕ ((((List Int) × (Int × (Int × Unit))) × Unit) × Unit))) from (cond (decide (x1.1.2.2.1 < (x1.1.1.length : Int)))
  (some (.inl ((x1.1.1, (x1.1.2.1, (x1.1.2.2.1, ((decide (x1.1.2.2.1 < 4000)), ())))), ())))
  (some (.inl ((x1.1.1, (x1.1.2.1, (x1.1.2.2.1, (false, ())))), ()))))) fun y2 =>
  (match y2 with
  | .inl u3 => (cond u3.1.2.2.2.1
  (Option.bind (geti u3.1.1 u3.1.2.2.1) fun y5 =>
  (some (.inl ((u3.1.1, ((ibits .and .i64 (Go.IntKind.wrap .i64 ((Go.IntKind.wrap .i64 ((Go.IntKind.wrap .i64 (u3.1.2.1 * 131)) + (Go.IntKind.wrap .i64 y5))) + 7)) 1073741823), ((Go.IntKind.wrap .i64 (u3.1.2.2.1 + 1)), ()))), ()))))
  (some (.inr (.inl ((u3.1.1, (u3.1.2.1, ())), ())))))
  | .inr w4 => (match w4 with
  | .inl u6 => none
  | .inr w7 => (some (.inr (.inr w7))))))
noncomputable def spec_l01New.f (x : ((List Int) × Unit)) : Option ((((List Int) × (Int × (Int × Unit))) × Unit) × Unit) :=
  (Option.bind (iter spec_l01New.l0 ((x.1, ((Go.IntKind.wrap .i64 (27401 + (x.1.length : Int))), (0, ()))), ())) fun y8 =>
  (match y8 with
  | .inl u9 => (some (((u9.1.1, (0, (u9.1.2.1, ()))), ()), ()))
  | .inr w10 => (some w10)))
noncomputable def spec_DrawThingText.f (x : ((List Int) × Unit)) : Option (((Int × (Int × (Bool × (Bool × (Bool × (Bool × ((List UInt8) × (Int × Unit)))))))) × Unit) × Unit) :=
  (Option.bind (Go.Vi.spec_l01New.f (x.1, ())) fun y0 =>
  (Option.bind (Go.Vi.spec_l19Any.f (y0.1.1, ())) fun y1 =>
  (some ((y1.1.1, ()), ()))))
noncomputable def impl_varText.l0 (x1 : ((Int × ((List Int) × Unit)) × Unit)) : Option (((Int × ((List Int) × Unit)) × Unit) ⊕ (((Int × ((List Int) × Unit)) × Unit) ⊕ (((List UInt8) × Unit) × Unit))) :=
  (cond (decide (x1.1.1 > 127))
  (Option.bind (app 1 x1.1.2.1 [(Go.IntKind.wrap .u8 (Go.IntKind.wrap .i64 (128 + (Int.tmod x1.1.1 128))))]) fun y2 =>
  (some (.inl (((Go.IntKind.wrap .i64 (Int.tdiv x1.1.1 128)), (y2, ())), ()))))
  (some (.inr (.inl ((x1.1.1, (x1.1.2.1, ())), ())))))
noncomputable def impl_varText.f (x : (Int × Unit)) : Option (((List UInt8) × Unit) × Unit) :=
  (Option.bind (iter impl_varText.l0 ((x.1, ([], ())), ())) fun y3 =>
  (match y3 with
  | .inl u4 => (Option.bind (app 1 u4.1.2.1 [(Go.IntKind.wrap .u8 u4.1.1)]) fun y6 =>
  (some (((ofBytes y6), ()), ())))
  | .inr w5 => (some w5)))
noncomputable def impl_flags.l0 (x1 : ((Int × ((List Bool) × (Int × (Int × Unit)))) × Unit)) : Option (((Int × ((List Bool) × (Int × (Int × Unit)))) × Unit) ⊕ (((Int × Unit) × Unit) ⊕ ((Int × Unit) × Unit))) :=
  (cond (decide (x1.1.2.2.2.1 < x1.1.2.2.1))
  (Option.bind (geti x1.1.2.1 x1.1.2.2.2.1) fun y2 =>
  (Option.bind x1.1.2.1[(Int.toNat x1.1.2.2.2.1)]? fun y3 =>
  (cond y3
  (cond (decide (x1.1.2.2.2.1 < 0))
  none
  (some (.inl (((ibits .or .i64 x1.1.1 (ishl .i64 1 x1.1.2.2.2.1)), (x1.1.2.1, (x1.1.2.2.1, ((Go.IntKind.wrap .i64 (x1.1.2.2.2.1 + 1)), ())))), ()))))
  (some (.inl ((x1.1.1, (x1.1.2.1, (x1.1.2.2.1, ((Go.IntKind.wrap .i64 (x1.1.2.2.2.1 + 1)), ())))), ()))))))
  (some (.inr (.inl ((x1.1.1, ()), ())))))
noncomputable def impl_flags.f (x : ((Int × (Int × (Bool × (Bool × (Bool × (Bool × ((List UInt8) × (Int × Unit)))))))) × Unit)) : Option ((Int × Unit) × Unit) :=
  (Option.bind (iter impl_flags.l0 ((0, ([x.1.2.2.1, x.1.2.2.2.1, x.1.2.2.2.2.1, x.1.2.2.2.2.2.1], (([x.1.2.2.1, x.1.2.2.2.1, x.1.2.2.2.2.1, x.1.2.2.2.2.2.1].length : Int), (0, ())))), ())) fun y4 =>
  (match y4 with
  | .inl u5 => (some ((u5.1.1, ()), ()))
  | .inr w6 => (some w6)))
noncomputable def impl_shortText.f (x : ((List UInt8) × Unit)) : Option (((List UInt8) × Unit) × Unit) :=
  (Option.bind (Go.Vi.impl_varText.f ((x.1.length : Int), ())) fun y0 =>
  (Option.bind (cat y0.1.1 x.1) fun y1 =>
  (some ((y1, ()), ()))))
noncomputable def impl_ThingText.f (x : ((Int × (Int × (Bool × (Bool × (Bool × (Bool × ((List UInt8) × (Int × Unit)))))))) × Unit)) : Option (((List UInt8) × (Bool × Unit)) × Unit) :=
  (Option.bind (Go.Vi.impl_ThingOk.f (x.1, ())) fun y0 =>
  (cond (!y0.1.1)
  (some (([], (false, ())), ()))
  (Option.bind (Go.Vi.impl_varText.f (x.1.1, ())) fun y1 =>
  (Option.bind (Go.Vi.impl_oneByte.f (x.1.2.1, ())) fun y2 =>
  (Option.bind (cat y1.1.1 y2.1.1) fun y3 =>
  (Option.bind (Go.Vi.impl_flags.f (x.1, ())) fun y4 =>
  (Option.bind (Go.Vi.impl_oneByte.f (y4.1.1, ())) fun y5 =>
  (Option.bind (cat y3 y5.1.1) fun y6 =>
  (Option.bind (Go.Vi.impl_shortText.f (x.1.2.2.2.2.2.2.1, ())) fun y7 =>
  (Option.bind (cat y6 y7.1.1) fun y8 =>
  (Option.bind (Go.Vi.impl_varText.f (x.1.2.2.2.2.2.2.2.1, ())) fun y9 =>
  (Option.bind (cat y8 y9.1.1) fun y10 =>
  (some ((y10, (true, ())), ()))))))))))))))
noncomputable def impl_ReadVar.l1 (x2 : (((List UInt8) × (Int × (Int × (Int × Unit)))) × Unit)) : Option ((((List UInt8) × (Int × (Int × (Int × Unit)))) × Unit) ⊕ ((Unit × Unit) ⊕ ((Int × (Int × (Bool × Unit))) × Unit))) :=
  (Option.bind (show Option ((((List UInt8) × (Int × (Int × (Int × (Bool × Unit))))) × Unit) ⊕ (Unit ⊕ ((Int × (Int × (Bool × Unit))) × Unit))) from (cond (decide (x2.1.2.2.2.1 < 5))
  (some (.inl ((x2.1.1, (x2.1.2.1, (x2.1.2.2.1, (x2.1.2.2.2.1, ((decide ((Go.IntKind.wrap .i64 (x2.1.2.1 + x2.1.2.2.2.1)) < (x2.1.1.length : Int))), ()))))), ())))
  (some (.inl ((x2.1.1, (x2.1.2.1, (x2.1.2.2.1, (x2.1.2.2.2.1, (false, ()))))), ()))))) fun y3 =>
  (match y3 with
  | .inl u4 => (cond u4.1.2.2.2.2.1
  (Option.bind (geti u4.1.1 (Go.IntKind.wrap .i64 (u4.1.2.1 + u4.1.2.2.2.1))) fun y6 =>
  (cond (decide ((Go.IntKind.wrap .i64 (7 * u4.1.2.2.2.1)) < 0))
  none
  (cond (decide ((Go.IntKind.wrap .i64 ((UInt8.toNat y6) : Int)) < 128))
  (Option.bind (show Option (((Int × (Int × (Int × (Bool × Unit)))) × Unit) ⊕ (Unit ⊕ ((Int × (Int × (Bool × Unit))) × Unit))) from (cond (decide ((Go.IntKind.wrap .i64 ((UInt8.toNat y6) : Int)) = 0))
  (cond (decide (u4.1.2.2.2.1 > 0))
  (some (.inl ((u4.1.2.1, ((Go.IntKind.wrap .i64 (u4.1.2.2.1 + (ishl .i64 (Int.tmod (Go.IntKind.wrap .i64 ((UInt8.toNat y6) : Int)) 128) (Go.IntKind.wrap .i64 (7 * u4.1.2.2.2.1))))), (u4.1.2.2.2.1, (true, ())))), ())))
  (some (.inl ((u4.1.2.1, ((Go.IntKind.wrap .i64 (u4.1.2.2.1 + (ishl .i64 (Int.tmod (Go.IntKind.wrap .i64 ((UInt8.toNat y6) : Int)) 128) (Go.IntKind.wrap .i64 (7 * u4.1.2.2.2.1))))), (u4.1.2.2.2.1, ((decide ((Go.IntKind.wrap .i64 (u4.1.2.2.1 + (ishl .i64 (Int.tmod (Go.IntKind.wrap .i64 ((UInt8.toNat y6) : Int)) 128) (Go.IntKind.wrap .i64 (7 * u4.1.2.2.2.1))))) > 1000000000)), ())))), ()))))
  (some (.inl ((u4.1.2.1, ((Go.IntKind.wrap .i64 (u4.1.2.2.1 + (ishl .i64 (Int.tmod (Go.IntKind.wrap .i64 ((UInt8.toNat y6) : Int)) 128) (Go.IntKind.wrap .i64 (7 * u4.1.2.2.2.1))))), (u4.1.2.2.2.1, ((decide ((Go.IntKind.wrap .i64 (u4.1.2.2.1 + (ishl .i64 (Int.tmod (Go.IntKind.wrap .i64 ((UInt8.toNat y6) : Int)) 128) (Go.IntKind.wrap .i64 (7 * u4.1.2.2.2.1))))) > 1000000000)), ())))), ()))))) fun y7 =>
  (match y7 with
  | .inl u8 => (cond u8.1.2.2.2.1
  (some (.inr (.inr ((0, (0, (false, ()))), ()))))
  (some (.inr (.inr ((u8.1.2.1, ((Go.IntKind.wrap .i64 ((Go.IntKind.wrap .i64 (u8.1.1 + u8.1.2.2.1)) + 1)), (true, ()))), ())))))
  | .inr w9 => (match w9 with
  | .inl u10 => none
  | .inr w11 => (some (.inr (.inr w11))))))
  (some (.inl ((u4.1.1, (u4.1.2.1, ((Go.IntKind.wrap .i64 (u4.1.2.2.1 + (ishl .i64 (Int.tmod (Go.IntKind.wrap .i64 ((UInt8.toNat y6) : Int)) 128) (Go.IntKind.wrap .i64 (7 * u4.1.2.2.2.1))))), ((Go.IntKind.wrap .i64 (u4.1.2.2.2.1 + 1)), ())))), ()))))))
  (some (.inr (.inl ((), ())))))
  | .inr w5 => (match w5 with
  | .inl u12 => none
  | .inr w13 => (some (.inr (.inr w13))))))
noncomputable def impl_ReadVar.f (x : ((List UInt8) × (Int × Unit))) : Option ((Int × (Int × (Bool × Unit))) × Unit) :=
  (Option.bind (Go.Vi.impl_in.f (x.2.1, (0, ((x.1.length : Int), ())))) fun y0 =>
  (cond (!y0.1.1)
  (some ((0, (0, (false, ()))), ()))
  (Option.bind (iter impl_ReadVar.l1 ((x.1, (x.2.1, (0, (0, ())))), ())) fun y14 =>
  (match y14 with
  | .inl u15 => (some ((0, (0, (false, ()))), ()))
  | .inr w16 => (some w16)))))
noncomputable def impl_fields_num.f (x : (((List UInt8) × (Int × (Bool × Unit))) × Unit)) : Option ((Int × Unit) × (((List UInt8) × (Int × (Bool × Unit))) × Unit)) :=
  (Option.bind (Go.Vi.impl_ReadVar.f (x.1.1, (x.1.2.1, ()))) fun y0 =>
  (cond (!y0.1.2.2.1)
  (some ((0, ()), ((x.1.1, (x.1.2.1, (true, x.1.2.2.2))), ())))
  (some ((y0.1.1, ()), ((x.1.1, (y0.1.2.1, x.1.2.2)), ())))))
noncomputable def impl_ReadShort.f (x : ((List UInt8) × (Int × Unit))) : Option (((List UInt8) × (Int × (Bool × Unit))) × Unit) :=
  (Option.bind (Go.Vi.impl_ReadVar.f (x.1, (x.2.1, ()))) fun y0 =>
  (Option.bind (show Option ((((List UInt8) × (Int × (Int × (Bool × Unit)))) × Unit) ⊕ (Unit ⊕ (((List UInt8) × (Int × (Bool × Unit))) × Unit))) from (cond (!y0.1.2.2.1)
  (some (.inl ((x.1, (y0.1.1, (y0.1.2.1, (true, ())))), ())))
  (cond (decide (y0.1.1 > 20000))
  (some (.inl ((x.1, (y0.1.1, (y0.1.2.1, (true, ())))), ())))
  (some (.inl ((x.1, (y0.1.1, (y0.1.2.1, ((decide (y0.1.1 > (Go.IntKind.wrap .i64 ((x.1.length : Int) - y0.1.2.1)))), ())))), ())))))) fun y1 =>
  (match y1 with
  | .inl u2 => (cond u2.1.2.2.2.1
  (some (([], (0, (false, ()))), ()))
  (Option.bind (slc u2.1.1 u2.1.2.2.1 (Go.IntKind.wrap .i64 (u2.1.2.2.1 + u2.1.2.1))) fun y4 =>
  (some ((y4, ((Go.IntKind.wrap .i64 (u2.1.2.2.1 + u2.1.2.1)), (true, ()))), ()))))
  | .inr w3 => (match w3 with
  | .inl u5 => none
  | .inr w6 => (some w6)))))
noncomputable def impl_fields_short.f (x : (((List UInt8) × (Int × (Bool × Unit))) × Unit)) : Option (((List UInt8) × Unit) × (((List UInt8) × (Int × (Bool × Unit))) × Unit)) :=
  (Option.bind (Go.Vi.impl_ReadShort.f (x.1.1, (x.1.2.1, ()))) fun y0 =>
  (cond (!y0.1.2.2.1)
  (some (([], ()), ((x.1.1, (x.1.2.1, (true, x.1.2.2.2))), ())))
  (some ((y0.1.1, ()), ((x.1.1, (y0.1.2.1, x.1.2.2)), ())))))
noncomputable def impl_ReadThing.f (x : ((List UInt8) × Unit)) : Option (((Int × (Int × (Bool × (Bool × (Bool × (Bool × ((List UInt8) × (Int × Unit)))))))) × (Bool × Unit)) × Unit) :=
  (Option.bind (Go.Vi.impl_fields_num.f ((x.1, (0, (false, ()))), ())) fun y0 =>
  (Option.bind (Go.Vi.impl_fields_num.f (y0.2.1, ())) fun y1 =>
  (Option.bind (Go.Vi.impl_fields_num.f (y1.2.1, ())) fun y2 =>
  (Option.bind (Go.Vi.impl_fields_short.f (y2.2.1, ())) fun y3 =>
  (Option.bind (Go.Vi.impl_fields_num.f (y3.2.1, ())) fun y4 =>
  (Option.bind (Go.Vi.impl_ThingText.f ((y0.1.1, (y1.1.1, ((!(decide ((ibits .and .i64 y2.1.1 1) = 0))), ((!(decide ((ibits .and .i64 y2.1.1 2) = 0))), ((!(decide ((ibits .and .i64 y2.1.1 4) = 0))), ((!(decide ((ibits .and .i64 y2.1.1 8) = 0))), (y3.1.1, (y4.1.1, ())))))))), ())) fun y5 =>
  (cond y4.2.1.2.2.1
  (some (((0, (0, (false, (false, (false, (false, ([], (0, ())))))))), (false, ())), ()))
  (cond (!y5.1.2.1)
  (some (((0, (0, (false, (false, (false, (false, ([], (0, ())))))))), (false, ())), ()))
  (cond (!(decide (y5.1.1 = x.1)))
  (some (((0, (0, (false, (false, (false, (false, ([], (0, ())))))))), (false, ())), ()))
  (some (((y0.1.1, (y1.1.1, ((!(decide ((ibits .and .i64 y2.1.1 1) = 0))), ((!(decide ((ibits .and .i64 y2.1.1 2) = 0))), ((!(decide ((ibits .and .i64 y2.1.1 4) = 0))), ((!(decide ((ibits .and .i64 y2.1.1 8) = 0))), (y3.1.1, (y4.1.1, ())))))))), (true, ())), ())))))))))))
noncomputable def spec_l19Flag.f (x : (Bool × (Int × Unit))) : Option ((Int × Unit) × Unit) :=
  (cond x.1
  (some ((x.2.1, ()), ()))
  (some ((0, ()), ())))
noncomputable def spec_l01Var.l0 (x1 : ((Int × ((List Int) × Unit)) × Unit)) : Option (((Int × ((List Int) × Unit)) × Unit) ⊕ (((Int × ((List Int) × Unit)) × Unit) ⊕ (((List UInt8) × Unit) × Unit))) :=
  (cond (decide (x1.1.1 > 127))
  (Option.bind (app 1 x1.1.2.1 [(Go.IntKind.wrap .u8 (Go.IntKind.wrap .i64 ((Int.tmod x1.1.1 128) + 128)))]) fun y2 =>
  (some (.inl (((Go.IntKind.wrap .i64 (Int.tdiv x1.1.1 128)), (y2, ())), ()))))
  (some (.inr (.inl ((x1.1.1, (x1.1.2.1, ())), ())))))
noncomputable def spec_l01Var.f (x : (Int × Unit)) : Option (((List UInt8) × Unit) × Unit) :=
  (Option.bind (iter spec_l01Var.l0 ((x.1, ([], ())), ())) fun y3 =>
  (match y3 with
  | .inl u4 => (Option.bind (app 1 u4.1.2.1 [(Go.IntKind.wrap .u8 u4.1.1)]) fun y6 =>
  (some (((ofBytes y6), ()), ())))
  | .inr w5 => (some w5)))
noncomputable def spec_l19Short.f (x : ((List UInt8) × Unit)) : Option (((List UInt8) × Unit) × Unit) :=
  (Option.bind (Go.Vi.spec_l01Var.f ((x.1.length : Int), ())) fun y0 =>
  (Option.bind (cat y0.1.1 x.1) fun y1 =>
  (some ((y1, ()), ()))))
noncomputable def spec_ThingText.f (x : ((Int × (Int × (Bool × (Bool × (Bool × (Bool × ((List UInt8) × (Int × Unit)))))))) × Unit)) : Option (((List UInt8) × (Bool × Unit)) × Unit) :=
  (Option.bind (Go.Vi.spec_ThingOk.f (x.1, ())) fun y0 =>
  (cond (!y0.1.1)
  (some (([], (false, ())), ()))
  (Option.bind (Go.Vi.spec_l19Flag.f (x.1.2.2.1, (1, ()))) fun y1 =>
  (Option.bind (Go.Vi.spec_l19Flag.f (x.1.2.2.2.1, (2, ()))) fun y2 =>
  (Option.bind (Go.Vi.spec_l19Flag.f (x.1.2.2.2.2.1, (4, ()))) fun y3 =>
  (Option.bind (Go.Vi.spec_l19Flag.f (x.1.2.2.2.2.2.1, (8, ()))) fun y4 =>
  (Option.bind (Go.Vi.spec_l01Var.f (x.1.1, ())) fun y5 =>
  (Option.bind (Go.Vi.spec_l06Byte.f (x.1.2.1, ())) fun y6 =>
  (Option.bind (cat y5.1.1 y6.1.1) fun y7 =>
  (Option.bind (Go.Vi.spec_l06Byte.f ((Go.IntKind.wrap .i64 ((Go.IntKind.wrap .i64 ((Go.IntKind.wrap .i64 (y1.1.1 + y2.1.1)) + y3.1.1)) + y4.1.1)), ())) fun y8 =>
  (Option.bind (cat y7 y8.1.1) fun y9 =>
  (Option.bind (Go.Vi.spec_l19Short.f (x.1.2.2.2.2.2.2.1, ())) fun y10 =>
  (Option.bind (cat y9 y10.1.1) fun y11 =>
  (Option.bind (Go.Vi.spec_l01Var.f (x.1.2.2.2.2.2.2.2.1, ())) fun y12 =>
  (Option.bind (cat y11 y12.1.1) fun y13 =>
  (some ((y13, (true, ())), ())))))))))))))))))
noncomputable def spec_l02Spoilt.f (x : (((List Int) × (Int × (Int × Unit))) × ((List UInt8) × Unit))) : Option (((List UInt8) × Unit) × (((List Int) × (Int × (Int × Unit))) × Unit)) :=
  (Option.bind (Go.Vi.spec_l01Below.f (x.1, (12, ()))) fun y0 =>
  (cond (decide (y0.1.1 = 0))
  (Option.bind (Go.Vi.spec_l01Text.f (y0.2.1, (1, ()))) fun y1 =>
  (Option.bind (cat x.2.1 y1.1.1) fun y2 =>
  (some ((y2, ()), (y1.2.1, ())))))
  (cond (decide (y0.1.1 = 1))
  (Option.bind (Go.Vi.spec_l01Below.f (y0.2.1, ((Go.IntKind.wrap .i64 ((x.2.1.length : Int) + 1)), ()))) fun y3 =>
  (Option.bind (slc x.2.1 0 y3.1.1) fun y4 =>
  (some ((y4, ()), (y3.2.1, ())))))
  (Option.bind (show Option (((Unit × ((List UInt8) × (Bool × Unit))) × (((List Int) × (Int × (Int × Unit))) × Unit)) ⊕ (Unit ⊕ (((List UInt8) × Unit) × (((List Int) × (Int × (Int × Unit))) × Unit)))) from (cond (decide (y0.1.1 = 2))
  (some (.inl (((), (x.2.1, ((decide (y0.1.1 = 2)), ()))), (y0.2.1, ()))))
  (some (.inl (((), (x.2.1, ((decide (y0.1.1 = 3)), ()))), (y0.2.1, ())))))) fun y5 =>
  (match y5 with
  | .inl u6 => (cond u6.1.2.2.1
  (cond (decide ((u6.1.2.1.length : Int) > 0))
  (Option.bind (Go.Vi.spec_l01Below.f (u6.2.1, ((u6.1.2.1.length : Int), ()))) fun y8 =>
  (Option.bind (slc u6.1.2.1 0 y8.1.1) fun y9 =>
  (Option.bind (Go.Vi.spec_l01Text.f (y8.2.1, (1, ()))) fun y10 =>
  (Option.bind (cat y9 y10.1.1) fun y11 =>
  (Option.bind (slc u6.1.2.1 (Go.IntKind.wrap .i64 (y8.1.1 + 1)) (u6.1.2.1.length : Int)) fun y12 =>
  (Option.bind (cat y11 y12) fun y13 =>
  (some ((y13, ()), (y10.2.1, ())))))))))
  (some ((u6.1.2.1, ()), (u6.2.1, ()))))
  (some ((u6.1.2.1, ()), (u6.2.1, ()))))
  | .inr w7 => (match w7 with
  | .inl u14 => none
  | .inr w15 => (some w15)))))))
noncomputable def spec_DrawReadThing.f (x : ((List Int) × Unit)) : Option (((List UInt8) × Unit) × Unit) :=
  (Option.bind (Go.Vi.spec_l01New.f (x.1, ())) fun y0 =>
  (Option.bind (Go.Vi.spec_l19Any.f (y0.1.1, ())) fun y1 =>
  (Option.bind (Go.Vi.spec_ThingText.f (y1.1.1, ())) fun y2 =>
  (Option.bind (Go.Vi.spec_l02Spoilt.f (y1.2.1, (y2.1.1, ()))) fun y3 =>
  (some ((y3.1.1, ()), ()))))))
noncomputable def spec_ReadVar.l1 (x2 : (((List UInt8) × (Int × (Int × (Int × (Int × Unit))))) × Unit)) : Option ((((List UInt8) × (Int × (Int × (Int × (Int × Unit))))) × Unit) ⊕ ((Unit × Unit) ⊕ ((Int × (Int × (Bool × Unit))) × Unit))) :=
  (Option.bind (show Option ((((List UInt8) × (Int × (Int × (Int × (Int × (Bool × Unit)))))) × Unit) ⊕ (Unit ⊕ ((Int × (Int × (Bool × Unit))) × Unit))) from (cond (decide (x2.1.2.2.2.2.1 < (x2.1.1.length : Int)))
  (some (.inl ((x2.1.1, (x2.1.2.1, (x2.1.2.2.1, (x2.1.2.2.2.1, (x2.1.2.2.2.2.1, ((decide (x2.1.2.2.2.2.1 < (Go.IntKind.wrap .i64 (x2.1.2.1 + 5)))), ())))))), ())))
  (some (.inl ((x2.1.1, (x2.1.2.1, (x2.1.2.2.1, (x2.1.2.2.2.1, (x2.1.2.2.2.2.1, (false, ())))))), ()))))) fun y3 =>
  (match y3 with
  | .inl u4 => (cond u4.1.2.2.2.2.2.1
  (Option.bind (geti u4.1.1 u4.1.2.2.2.2.1) fun y6 =>
  (Option.bind (geti u4.1.1 u4.1.2.2.2.2.1) fun y7 =>
  (cond (decide (((UInt8.toNat y7) : Int) < 128))
  (cond (decide ((Go.IntKind.wrap .i64 (u4.1.2.2.1 + (Go.IntKind.wrap .i64 ((Int.tmod (Go.IntKind.wrap .i64 ((UInt8.toNat y6) : Int)) 128) * u4.1.2.2.2.1)))) > 1000000000))
  (some (.inr (.inr ((0, (0, (false, ()))), ()))))
  (Option.bind (Go.Vi.spec_l01Var.f ((Go.IntKind.wrap .i64 (u4.1.2.2.1 + (Go.IntKind.wrap .i64 ((Int.tmod (Go.IntKind.wrap .i64 ((UInt8.toNat y6) : Int)) 128) * u4.1.2.2.2.1)))), ())) fun y8 =>
  (Option.bind (slc u4.1.1 u4.1.2.1 (Go.IntKind.wrap .i64 (u4.1.2.2.2.2.1 + 1))) fun y9 =>
  (cond (!(decide (y8.1.1 = y9)))
  (some (.inr (.inr ((0, (0, (false, ()))), ()))))
  (some (.inr (.inr (((Go.IntKind.wrap .i64 (u4.1.2.2.1 + (Go.IntKind.wrap .i64 ((Int.tmod (Go.IntKind.wrap .i64 ((UInt8.toNat y6) : Int)) 128) * u4.1.2.2.2.1)))), ((Go.IntKind.wrap .i64 (u4.1.2.2.2.2.1 + 1)), (true, ()))), ()))))))))
  (some (.inl ((u4.1.1, (u4.1.2.1, ((Go.IntKind.wrap .i64 (u4.1.2.2.1 + (Go.IntKind.wrap .i64 ((Int.tmod (Go.IntKind.wrap .i64 ((UInt8.toNat y6) : Int)) 128) * u4.1.2.2.2.1)))), ((Go.IntKind.wrap .i64 (u4.1.2.2.2.1 * 128)), ((Go.IntKind.wrap .i64 (u4.1.2.2.2.2.1 + 1)), ()))))), ()))))))
  (some (.inr (.inl ((), ())))))
  | .inr w5 => (match w5 with
  | .inl u10 => none
  | .inr w11 => (some (.inr (.inr w11))))))
noncomputable def spec_ReadVar.f (x : ((List UInt8) × (Int × Unit))) : Option ((Int × (Int × (Bool × Unit))) × Unit) :=
  (Option.bind (Go.Vi.spec_l01In.f (x.2.1, (0, ((x.1.length : Int), ())))) fun y0 =>
  (cond (!y0.1.1)
  (some ((0, (0, (false, ()))), ()))
  (Option.bind (iter spec_ReadVar.l1 ((x.1, (x.2.1, (0, (1, (x.2.1, ()))))), ())) fun y12 =>
  (match y12 with
  | .inl u13 => (some ((0, (0, (false, ()))), ()))
  | .inr w14 => (some w14)))))
noncomputable def spec_l19Var.f (x : (((List UInt8) × (Int × (Bool × Unit))) × Unit)) : Option ((Int × Unit) × (((List UInt8) × (Int × (Bool × Unit))) × Unit)) :=
  (Option.bind (Go.Vi.spec_ReadVar.f (x.1.1, (x.1.2.1, ()))) fun y0 =>
  (cond x.1.2.2.1
  (some ((0, ()), ((x.1.1, (x.1.2.1, (true, x.1.2.2.2))), ())))
  (cond (!y0.1.2.2.1)
  (some ((0, ()), ((x.1.1, (x.1.2.1, (true, x.1.2.2.2))), ())))
  (some ((y0.1.1, ()), ((x.1.1, (y0.1.2.1, x.1.2.2)), ()))))))
noncomputable def spec_l19Take.f (x : (((List UInt8) × (Int × (Bool × Unit))) × (Int × Unit))) : Option (((List UInt8) × Unit) × (((List UInt8) × (Int × (Bool × Unit))) × Unit)) :=
  (Option.bind (show Option (((Unit × (Int × (Bool × Unit))) × (((List UInt8) × (Int × (Bool × Unit))) × Unit)) ⊕ (Unit ⊕ (((List UInt8) × Unit) × (((List UInt8) × (Int × (Bool × Unit))) × Unit)))) from (cond x.1.2.2.1
  (some (.inl (((), (x.2.1, (true, ()))), (x.1, ()))))
  (some (.inl (((), (x.2.1, ((decide (x.2.1 > (Go.IntKind.wrap .i64 ((x.1.1.length : Int) - x.1.2.1)))), ()))), (x.1, ())))))) fun y0 =>
  (match y0 with
  | .inl u1 => (cond u1.1.2.2.1
  (some (([], ()), ((u1.2.1.1, (u1.2.1.2.1, (true, u1.2.1.2.2.2))), ())))
  (Option.bind (slc u1.2.1.1 (Go.IntKind.wrap .i64 ((Go.IntKind.wrap .i64 (u1.2.1.2.1 + u1.1.2.1)) - u1.1.2.1)) (Go.IntKind.wrap .i64 (u1.2.1.2.1 + u1.1.2.1))) fun y3 =>
  (some ((y3, ()), ((u1.2.1.1, ((Go.IntKind.wrap .i64 (u1.2.1.2.1 + u1.1.2.1)), u1.2.1.2.2)), ())))))
  | .inr w2 => (match w2 with
  | .inl u4 => none
  | .inr w5 => (some w5))))
noncomputable def spec_l19One.f (x : (((List UInt8) × (Int × (Bool × Unit))) × Unit)) : Option ((Int × Unit) × (((List UInt8) × (Int × (Bool × Unit))) × Unit)) :=
  (Option.bind (Go.Vi.spec_l19Take.f (x.1, (1, ()))) fun y0 =>
  (cond y0.2.1.2.2.1
  (some ((0, ()), (y0.2.1, ())))
  (Option.bind (geti y0.1.1 0) fun y1 =>
  (some (((Go.IntKind.wrap .i64 ((UInt8.toNat y1) : Int)), ()), (y0.2.1, ()))))))
noncomputable def spec_l19ReadShort.f (x : (((List UInt8) × (Int × (Bool × Unit))) × Unit)) : Option (((List UInt8) × Unit) × (((List UInt8) × (Int × (Bool × Unit))) × Unit)) :=
  (Option.bind (Go.Vi.spec_l19Var.f (x.1, ())) fun y0 =>
  (Option.bind (Go.Vi.spec_l19Take.f (y0.2.1, (y0.1.1, ()))) fun y1 =>
  (some ((y1.1.1, ()), (y1.2.1, ())))))
noncomputable def spec_ReadThing.f (x : ((List UInt8) × Unit)) : Option (((Int × (Int × (Bool × (Bool × (Bool × (Bool × ((List UInt8) × (Int × Unit)))))))) × (Bool × Unit)) × Unit) :=
  (Option.bind (Go.Vi.spec_l19Var.f ((x.1, (0, (false, ()))), ())) fun y0 =>
  (Option.bind (Go.Vi.spec_l19One.f (y0.2.1, ())) fun y1 =>
  (Option.bind (Go.Vi.spec_l19One.f (y1.2.1, ())) fun y2 =>
  (Option.bind (Go.Vi.spec_l19ReadShort.f (y2.2.1, ())) fun y3 =>
  (Option.bind (Go.Vi.spec_l19Var.f (y3.2.1, ())) fun y4 =>
  (Option.bind (Go.Vi.spec_ThingText.f ((y0.1.1, (y1.1.1, ((decide ((Int.tmod y2.1.1 2) = 1)), ((decide ((Int.tmod (Go.IntKind.wrap .i64 (Int.tdiv y2.1.1 2)) 2) = 1)), ((decide ((Int.tmod (Go.IntKind.wrap .i64 (Int.tdiv y2.1.1 4)) 2) = 1)), ((decide ((Int.tmod (Go.IntKind.wrap .i64 (Int.tdiv y2.1.1 8)) 2) = 1)), (y3.1.1, (y4.1.1, ())))))))), ())) fun y5 =>
  (cond y4.2.1.2.2.1
  (some (((0, (0, (false, (false, (false, (false, ([], (0, ())))))))), (false, ())), ()))
  (cond (!y5.1.2.1)
  (some (((0, (0, (false, (false, (false, (false, ([], (0, ())))))))), (false, ())), ()))
  (cond (!(decide (y5.1.1 = x.1)))
  (some (((0, (0, (false, (false, (false, (false, ([], (0, ())))))))), (false, ())), ()))
  (some (((y0.1.1, (y1.1.1, ((decide ((Int.tmod y2.1.1 2) = 1)), ((decide ((Int.tmod (Go.IntKind.wrap .i64 (Int.tdiv y2.1.1 2)) 2) = 1)), ((decide ((Int.tmod (Go.IntKind.wrap .i64 (Int.tdiv y2.1.1 4)) 2) = 1)), ((decide ((Int.tmod (Go.IntKind.wrap .i64 (Int.tdiv y2.1.1 8)) 2) = 1)), (y3.1.1, (y4.1.1, ())))))))), (true, ())), ())))))))))))
noncomputable def laws_FnThings.f (x : ((List Int) × Unit)) : Option ((Bool × Unit) × Unit) :=
  (Option.bind (Go.Vi.laws_big.f (x.1, ())) fun y0 =>
  (cond y0.1.1
  (some ((true, ()), ()))
  (Option.bind (Go.Vi.spec_DrawThingText.f (x.1, ())) fun y1 =>
  (Option.bind (Go.Vi.impl_ThingText.f (y1.1.1, ())) fun y2 =>
  (Option.bind (Go.Vi.impl_ReadThing.f (y2.1.1, ())) fun y3 =>
  (Option.bind (show Option ((((List Int) × (Unit × (Bool × Unit))) × ((Int × (Int × (Bool × (Bool × (Bool × (Bool × ((List UInt8) × (Int × Unit)))))))) × Unit)) ⊕ (Unit ⊕ ((Bool × Unit) × Unit))) from (Option.bind (Go.Vi.spec_ThingOk.f (y1.1.1, ())) fun y4 =>
  (cond (!(decide (y2.1.2.1 = y4.1.1)))
  (some (.inl ((x.1, ((), (true, ()))), (y1.1.1, ()))))
  (Option.bind (Go.Vi.impl_ThingOk.f (y1.1.1, ())) fun y5 =>
  (cond (!(decide (y5.1.1 = y2.1.2.1)))
  (some (.inl ((x.1, ((), (true, ()))), (y1.1.1, ()))))
  (cond y2.1.2.1
  (cond (!y3.1.2.1)
  (some (.inl ((x.1, ((), (true, ()))), (y1.1.1, ()))))
  (some (.inl ((x.1, ((), ((!((decide (y3.1.1.1 = y1.1.1.1)) && ((decide (y3.1.1.2.1 = y1.1.1.2.1)) && ((decide (y3.1.1.2.2.1 = y1.1.1.2.2.1)) && ((decide (y3.1.1.2.2.2.1 = y1.1.1.2.2.2.1)) && ((decide (y3.1.1.2.2.2.2.1 = y1.1.1.2.2.2.2.1)) && ((decide (y3.1.1.2.2.2.2.2.1 = y1.1.1.2.2.2.2.2.1)) && ((decide (y3.1.1.2.2.2.2.2.2.1 = y1.1.1.2.2.2.2.2.2.1)) && ((decide (y3.1.1.2.2.2.2.2.2.2.1 = y1.1.1.2.2.2.2.2.2.2.1)) && true))))))))), ()))), (y1.1.1, ())))))
  (some (.inl ((x.1, ((), (false, ()))), (y1.1.1, ())))))))))) fun y6 =>
  (match y6 with
  | .inl u7 => (cond u7.1.2.2.1
  (some ((false, ()), ()))
  (Option.bind (Go.Vi.spec_DrawReadThing.f (u7.1.1, ())) fun y9 =>
  (Option.bind (Go.Vi.impl_ReadThing.f (y9.1.1, ())) fun y10 =>
  (Option.bind (Go.Vi.spec_ReadThing.f (y9.1.1, ())) fun y11 =>
  (Option.bind (Go.Vi.impl_ThingText.f (y10.1.1, ())) fun y12 =>
  (cond (decide (y10.1.2.1 = y11.1.2.1))
  (cond (!y10.1.2.1)
  (Option.bind (Go.Vi.impl_PublicPart.f (u7.2.1, ())) fun y13 =>
  (Option.bind (Go.Vi.spec_PublicPart.f (u7.2.1, ())) fun y14 =>
  (some (((decide (y13.1.1 = y14.1.1)), ()), ()))))
  (cond (decide (y12.1.1 = y9.1.1))
  (Option.bind (Go.Vi.impl_PublicPart.f (u7.2.1, ())) fun y15 =>
  (Option.bind (Go.Vi.spec_PublicPart.f (u7.2.1, ())) fun y16 =>
  (some (((decide (y15.1.1 = y16.1.1)), ()), ()))))
  (some ((false, ()), ()))))
  (some ((false, ()), ()))))))))
  | .inr w8 => (match w8 with
  | .inl u17 => none
  | .inr w18 => (some w18)))))))))
end Go.Vi

