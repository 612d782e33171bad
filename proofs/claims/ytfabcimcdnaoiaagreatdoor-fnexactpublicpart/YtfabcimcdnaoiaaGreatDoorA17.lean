/- A part of the proof of publicPart_holds: Qx, Qy, Qz, Ra, Rb, Rc, Rd, Re. No condition of its own. -/
import Derived.Test.YtfabcimcdnaoiaaGreatDoorA16
set_option autoImplicit false
set_option linter.unusedVariables false
set_option linter.unusedSimpArgs false
namespace Go.Vi
open Go
theorem spec_small_loop {s : List UInt8} (hs : s.length = 128) : iter spec_Small.l3 (([], (s, (0, ()))), ()) = some (.inl ((tab 256 (smI s), ()), ())) := by
  refine iter_for' (fun i => ((tab i (smI s), (s, ((i : Int), ()))), ())) 256 rfl ?_ ?_
  · intro i hi
    unfold spec_Small.l3
    simp only
    have hb := byn_lt s (i / 2)
    have e2 : ((i : Int) / 2).toNat = i / 2 := by omega
    have ey : (((s.getD (i / 2) default).toNat : Nat) : Int) = ((byn s (i / 2) : Nat) : Int) := rfl
    have tail : ∀ c : Nat, c < 256 → c = nib s i → Int.tmod (IntKind.wrap .i64 (IntKind.wrap .i64 (IntKind.wrap .i64 (IntKind.wrap .i64 (Int.tmod (c : Int) 2 + Int.tmod (IntKind.wrap .i64 (Int.tdiv (c : Int) 2)) 2) - Int.tmod (IntKind.wrap .i64 (Int.tdiv (c : Int) 4)) 2) - Int.tmod (IntKind.wrap .i64 (Int.tdiv (c : Int) 8)) 2) + 3329)) 3329 = smI s i := by
      intro c hc hn
      have hm : smI s i = (((c % 2 : Nat) : Int) + ((c / 2 % 2 : Nat) : Int) - ((c / 4 % 2 : Nat) : Int) - ((c / 8 % 2 : Nat) : Int)) % 3329 := by rw [hn]; rfl
      rw [hm]
      clear hm hn
      rw [tdv (by omega), tdv (by omega), tdv (by omega), tmd (a := (c : Int)) (by omega), w64 (n := (c : Int) / 2) (by omega) (by omega), w64 (n := (c : Int) / 4) (by omega) (by omega), w64 (n := (c : Int) / 8) (by omega) (by omega), tmd (a := (c : Int) / 2) (by omega), tmd (a := (c : Int) / 4) (by omega), tmd (a := (c : Int) / 8) (by omega)]
      rw [w64 (n := (c : Int) % 2 + (c : Int) / 2 % 2) (by omega) (by omega), w64 (n := (c : Int) % 2 + (c : Int) / 2 % 2 - (c : Int) / 4 % 2) (by omega) (by omega), w64 (n := (c : Int) % 2 + (c : Int) / 2 % 2 - (c : Int) / 4 % 2 - (c : Int) / 8 % 2) (by omega) (by omega), w64 (by omega) (by omega), tmd (by omega)]
      have q1 : ((c % 2 : Nat) : Int) = (c : Int) % 2 := by omega
      have q2 : ((c / 2 % 2 : Nat) : Int) = (c : Int) / 2 % 2 := by omega
      have q3 : ((c / 4 % 2 : Nat) : Int) = (c : Int) / 4 % 2 := by omega
      have q4 : ((c / 8 % 2 : Nat) : Int) = (c : Int) / 8 % 2 := by omega
      rw [q1, q2, q3, q4]
      exact Int.add_emod_right _ _
    rw [cond_t (by omega), tdv (b := 2) (a := (i : Int)) (by omega), tmd (b := 2) (a := (i : Int)) (by omega), w64 (n := (i : Int) / 2) (by omega) (by omega), geti_ok (by omega) (by omega), bnd_some, e2, ey, w64 (n := ((byn s (i / 2) : Nat) : Int)) (by omega) (by omega)]
    by_cases h1 : i % 2 = 1
    · have hn : byn s (i / 2) / 16 = nib s i := by unfold nib; rw [h1]
      rw [cond_t (by omega)]
      simp only [bnd_some]
      rw [tdv (b := 16) (by omega), show ((byn s (i / 2) : Nat) : Int) / 16 = ((byn s (i / 2) / 16 : Nat) : Int) by omega, w64 (n := ((byn s (i / 2) / 16 : Nat) : Int)) (by omega) (by omega), tail _ (by omega) hn, app_ok (by rw [tab_len]; simp; omega), bnd_some, w64 (by omega) (by omega), show ((i : Int) + 1) = ((i + 1 : Nat) : Int) by omega, tab_snoc]
    · have hn : byn s (i / 2) = nib s i := by unfold nib; rw [show i % 2 = 0 by omega]; simp
      rw [cond_f (by omega)]
      simp only [bnd_some]
      rw [tail _ hb hn, app_ok (by rw [tab_len]; simp; omega), bnd_some, w64 (by omega) (by omega), show ((i : Int) + 1) = ((i + 1 : Nat) : Int) by omega, tab_snoc]
  · unfold spec_Small.l3
    simp only
    rw [cond_f (by omega)]
theorem spec_Small_ok {s : List UInt8} {n : Nat} (h : s.length ≤ 100000) (hn : n < 256) : spec_Small.f (s, ((n : Int), ())) = some ((tab 256 (smI (shk (s ++ one n) 128)), ()), ()) := by
  have hsh := spec_ShakeOf_ok (s := s ++ one n) (n := 128) (by simp [one]; omega) (by omega)
  simp only [Int.cast_ofNat_Int] at hsh
  unfold spec_Small.f
  simp only
  rw [spec_l06Byte_ok hn, bnd_some, cat_ok (by simp [one]; omega), bnd_some, show spec_ShakeOf.f (s ++ one n, (128, ())) = _ from hsh, bnd_some]
  simp only
  rw [spec_small_loop (by simp [shk, tab_len])]
  rfl
/-! ## Bytes of a polynomial -/
def pbN (a : Nat → Nat) (j : Nat) : Nat :=
  if j % 3 = 0 then a (2 * (j / 3)) % 256 else if j % 3 = 1 then a (2 * (j / 3)) / 256 + a (2 * (j / 3) + 1) % 16 * 16 else a (2 * (j / 3) + 1) / 16
theorem pbN_lt {a : Nat → Nat} (ha : ∀ i, a i < 4096) (j : Nat) : pbN a j < 256 := by
  have h1 := ha (2 * (j / 3)); have h2 := ha (2 * (j / 3) + 1)
  unfold pbN
  split
  · omega
  · split <;> omega
theorem pb_bit {a : Nat → Nat} (ha : ∀ i, a i < 4096) (t : Nat) : pbN a (t / 8) / 2 ^ (t % 8) % 2 = a (t / 12) / 2 ^ (t % 12) % 2 := by
  have h1 := ha (2 * (t / 24)); have h2 := ha (2 * (t / 24) + 1)
  have hr : t % 24 < 24 := Nat.mod_lt _ (by omega)
  have e3 : t / 8 / 3 = t / 24 := by omega
  unfold pbN
  rw [e3]
  have e8 : t / 8 = 3 * (t / 24) + t % 24 / 8 := by omega
  have e12 : t / 12 = 2 * (t / 24) + t % 24 / 12 := by omega
  have m8 : t % 8 = t % 24 % 8 := by omega
  have m12 : t % 12 = t % 24 % 12 := by omega
  have m3 : t / 8 % 3 = t % 24 / 8 := by omega
  rw [m3, e12, m8, m12]
  generalize t % 24 = r at hr
  generalize t / 24 = p at h1 h2
  generalize hu : a (2 * p) = u at h1
  generalize hv : a (2 * p + 1) = v at h2
  have cases24 : r = 0 ∨ r = 1 ∨ r = 2 ∨ r = 3 ∨ r = 4 ∨ r = 5 ∨ r = 6 ∨ r = 7 ∨ r = 8 ∨ r = 9 ∨ r = 10 ∨ r = 11 ∨ r = 12 ∨ r = 13 ∨ r = 14 ∨ r = 15 ∨ r = 16 ∨ r = 17 ∨ r = 18 ∨ r = 19 ∨ r = 20 ∨ r = 21 ∨ r = 22 ∨ r = 23 := by omega
  rcases cases24 with rfl | rfl | rfl | rfl | rfl | rfl | rfl | rfl | rfl | rfl | rfl | rfl | rfl | rfl | rfl | rfl | rfl | rfl | rfl | rfl | rfl | rfl | rfl | rfl <;> simp [hu, hv] <;> omega
theorem or8 {p q m : Nat} (hp : p < 2 ^ m) (hq : q < 2) (hm : m < 8) : ibits .or .u8 (p : Int) (ishl .u8 (IntKind.wrap .u8 (q : Int)) (m : Int)) = ((p + q * 2 ^ m : Nat) : Int) := by
  have hle : 2 ^ m ≤ 2 ^ 7 := Nat.pow_le_pow_right (by omega) (by omega)
  have hq2 : q * 2 ^ m ≤ 1 * 2 ^ m := Nat.mul_le_mul_right _ (by omega)
  have e : ishl .u8 (IntKind.wrap .u8 (q : Int)) (m : Int) = ((q * 2 ^ m : Nat) : Int) := by
    rw [w8i (n := (q : Int)) (by omega) (by omega)]
    unfold ishl
    rw [show min (m : Int).toNat IntKind.u8.bits = m by show min (m : Int).toNat 8 = m; omega]
    have : ((q : Int) * 2 ^ m) = ((q * 2 ^ m : Nat) : Int) := by simp
    rw [this, w8i (by omega) (by omega)]
  have eb : ∀ c : Nat, c < 256 → (BitVec.ofInt 8 (c : Int)).toNat = c := fun c hc => by rw [BitVec.ofInt_natCast]; simp; omega
  rw [e]
  show IntKind.wrap .u8 ((BitVec.ofInt 8 (p : Int) ||| BitVec.ofInt 8 ((q * 2 ^ m : Nat) : Int)).toNat : Nat) = _
  rw [BitVec.toNat_or, eb p (by omega), eb _ (by omega)]
  have := Nat.two_pow_add_eq_or_of_lt hp q
  rw [Nat.mul_comm] at this
  rw [Nat.or_comm, ← this, w8i (by omega) (by omega)]
  omega
/-- bytes after so many bits -/
def pbP (a : Nat → Nat) (t : Nat) (j : Nat) : Int := if j < t / 8 then ((pbN a j : Nat) : Int) else if j = t / 8 then ((pbN a j % 2 ^ (t % 8) : Nat) : Int) else 0
theorem packed_step {a : Nat → Nat} (ha : ∀ i, a i < 4096) {t : Nat} (j : Nat) : pbP a (t + 1) j = if j = t / 8 then ((pbN a (t / 8) % 2 ^ (t % 8) + a (t / 12) / 2 ^ (t % 12) % 2 * 2 ^ (t % 8) : Nat) : Int) else pbP a t j := by
  rw [← pb_bit ha]
  have hs : pbN a (t / 8) % 2 ^ (t % 8) + pbN a (t / 8) / 2 ^ (t % 8) % 2 * 2 ^ (t % 8) = pbN a (t / 8) % 2 ^ (t % 8 + 1) := by
    rw [Nat.pow_succ, Nat.mod_mul, Nat.mul_comm (2 ^ (t % 8))]
  rw [hs]
  have hlt := pbN_lt ha (t / 8)
  unfold pbP
  by_cases h7 : t % 8 = 7
  · have a1 : (t + 1) / 8 = t / 8 + 1 := by omega
    have a2 : (t + 1) % 8 = 0 := by omega
    rw [a1, a2, h7]
    by_cases h : j = t / 8
    · subst h
      rw [if_pos (by omega), if_pos rfl, Nat.mod_eq_of_lt (by omega)]
    · rw [if_neg h]
      by_cases h2 : j < t / 8
      · rw [if_pos (by omega), if_pos h2]
      · rw [if_neg (by omega), if_neg h2, if_neg h]
        by_cases h3 : j = t / 8 + 1
        · rw [if_pos h3]; simp [Nat.mod_one]
        · rw [if_neg h3]
  · have a1 : (t + 1) / 8 = t / 8 := by omega
    have a2 : (t + 1) % 8 = t % 8 + 1 := by omega
    rw [a1, a2]
    by_cases h : j = t / 8
    · subst h
      rw [if_neg (by omega), if_pos rfl, if_pos rfl]
    · rw [if_neg h]
      by_cases h2 : j < t / 8
      · simp [h2, h]
      · simp [h2, h]
end Go.Vi

set_option autoImplicit false
set_option linter.unusedVariables false
set_option linter.unusedSimpArgs false
namespace Go.Vi
open Go
/-! ## The bytes of a polynomial, on the one side -/
theorem ishr_n {v t : Nat} (ht : t < 64) : ishr .i64 (v : Int) (t : Int) = ((v / 2 ^ t : Nat) : Int) := by
  unfold ishr
  rw [show min (t : Int).toNat IntKind.i64.bits = t by show min (t : Int).toNat 64 = t; omega]
  rw [show ((2 : Int) ^ t) = ((2 ^ t : Nat) : Int) by simp, Int.fdiv_eq_ediv_of_nonneg _ (Int.natCast_nonneg _)]
  rfl
theorem packed_in {a : Nat → Nat} (ha : ∀ i, a i < 4096) {i : Nat} (hi : i < 256) (X : List Int) (n m : Int) :
    iter impl_packed.l3 ((12, (tab 384 (pbP a (12 * i)), ((i : Int), (((a i : Nat) : Int), (X, (n, (m, (12, (0, ()))))))))), ()) = some (.inl ((12, (tab 384 (pbP a (12 * (i + 1))), (X, (n, (m, ()))))), ())) := by
  refine iter_for' (fun t => ((12, (tab 384 (pbP a (12 * i + t)), ((i : Int), (((a i : Nat) : Int), (X, (n, (m, (12, ((t : Int), ()))))))))), ())) 12 rfl ?_ ?_
  · intro t ht
    have hv := ha i
    have e8 : (Int.tdiv (IntKind.wrap .i64 ((IntKind.wrap .i64 ((i : Int) * 12)) + (t : Int))) 8) = (((12 * i + t) / 8 : Nat) : Int) := by
      rw [w64 (n := (i : Int) * 12) (by omega) (by omega), w64 (n := (i : Int) * 12 + (t : Int)) (by omega) (by omega), tdv (by omega)]; omega
    have m8 : (Int.tmod (IntKind.wrap .i64 ((IntKind.wrap .i64 ((i : Int) * 12)) + (t : Int))) 8) = (((12 * i + t) % 8 : Nat) : Int) := by
      rw [w64 (n := (i : Int) * 12) (by omega) (by omega), w64 (n := (i : Int) * 12 + (t : Int)) (by omega) (by omega), tmd (by omega)]; omega
    have ew : IntKind.wrap .i64 (((12 * i + t) / 8 : Nat) : Int) = (((12 * i + t) / 8 : Nat) : Int) := w64 (by omega) (by omega)
    unfold impl_packed.l3
    simp only
    rw [cond_t (by omega)]
    simp only [e8, m8, ew]
    rw [tab_geti (by omega) (by omega), bnd_some, show (((12 * i + t) / 8 : Nat) : Int).toNat = (12 * i + t) / 8 by omega, tab_get (by omega), bnd_some, cond_f (by omega), cond_f (by omega), bnd_some, bnd_some]
    rw [ishr_n (by omega), iand1 (Nat.lt_of_le_of_lt (Nat.div_le_self _ _) (by omega))]
    have hp : pbP a (12 * i + t) ((12 * i + t) / 8) = ((pbN a ((12 * i + t) / 8) % 2 ^ ((12 * i + t) % 8) : Nat) : Int) := by unfold pbP; rw [if_neg (by omega), if_pos rfl]
    rw [hp, or8 (Nat.mod_lt _ (Nat.two_pow_pos _)) (Nat.mod_lt _ (by omega)) (Nat.mod_lt _ (by omega)), tab_set, w64 (by omega) (by omega), show ((t : Int) + 1) = ((t + 1 : Nat) : Int) by omega]
    have d12 : (12 * i + t) / 12 = i := by omega
    have r12 : (12 * i + t) % 12 = t := by omega
    refine congrArg (fun L => some (Sum.inl ((12, (L, ((i : Int), (((a i : Nat) : Int), (X, (n, (m, (12, (((t + 1 : Nat) : Int), ()))))))))), ()))) (tab_ext fun j hj => ?_)
    rw [show 12 * i + (t + 1) = 12 * i + t + 1 by omega, packed_step ha j, d12, r12]
  · unfold impl_packed.l3
    simp only
    rw [cond_f (by omega)]
    rfl
theorem impl_packed_ok {a : Nat → Nat} (ha : ∀ i, a i < 4096) : impl_packed.f (tab 256 (fun i => ((a i : Nat) : Int)), (12, ())) = some ((ofBytes (tab 384 (fun j => ((pbN a j : Nat) : Int))), ()), ()) := by
  have hl : ((tab 256 (fun i => ((a i : Nat) : Int))).length : Int) = 256 := by rw [tab_len]; rfl
  have hit : iter impl_packed.l0 ((12, (tab 384 (pbP a 0), (tab 256 (fun i => ((a i : Nat) : Int)), (256, (0, ()))))), ()) = some (.inl ((tab 384 (fun j => ((pbN a j : Nat) : Int)), ()), ())) := by
    refine iter_for' (fun i => ((12, (tab 384 (pbP a (12 * i)), (tab 256 (fun i => ((a i : Nat) : Int)), (256, ((i : Int), ()))))), ())) 256 rfl ?_ ?_
    · intro i hi
      unfold impl_packed.l0
      simp only
      rw [cond_t (by omega), tab_geti (by omega) (by omega), bnd_some, show (i : Int).toNat = i by omega, packed_in ha hi, bnd_some]
      simp only
      rw [w64 (by omega) (by omega), show ((i : Int) + 1) = ((i + 1 : Nat) : Int) by omega]
    · unfold impl_packed.l0
      simp only
      rw [cond_f (by omega)]
      refine congrArg (fun L => some (Sum.inr (Sum.inl ((L, ()), ())))) (tab_ext fun j hj => ?_)
      unfold pbP
      rw [if_pos (by omega)]
  have e384 : (Int.tdiv (IntKind.wrap .i64 ((IntKind.wrap .i64 ((256 : Int) * 12)) + 7)) 8) = 384 := by decide
  unfold impl_packed.f
  simp only
  rw [hl, e384, w64 (by omega) (by omega), cond_t (by omega), show Int.toNat 384 = 384 from rfl, tab_rep]
  have e0 : tab 384 (fun _ => (0 : Int)) = tab 384 (pbP a 0) := tab_ext fun j hj => by
    unfold pbP
    rw [if_neg (by omega)]
    split
    · simp [Nat.mod_one]
    · rfl
  rw [e0, hit]
  rfl
theorem impl_PolyBytes_ok {a : Nat → Nat} (ha : ∀ i, a i < 3329) : impl_PolyBytes.f (tab 256 (fun i => ((a i : Nat) : Int)), ()) = some ((ofBytes (tab 384 (fun j => ((pbN a j : Nat) : Int))), ()), ()) := by
  unfold impl_PolyBytes.f
  simp only
  rw [impl_PolyOk_ok (fun i => by have := ha i; constructor <;> omega)]
  simp only [bnd_some, Bool.not_true, cond_false]
  rw [impl_packed_ok fun i => by have := ha i; omega]
  rfl
end Go.Vi

set_option autoImplicit false
set_option linter.unusedVariables false
set_option linter.unusedSimpArgs false
namespace Go.Vi
open Go
/-! ## The bytes of a polynomial, on the other side -/
theorem spec_two_ok {n : Nat} (hn : n ≤ 40) : spec_l11Two.f ((n : Int), ()) = some ((((2 ^ n : Nat) : Int), ()), ()) := by
  have hit : iter spec_l11Two.l0 (((n : Int), (1, (0, ()))), ()) = some (.inl ((((2 ^ n : Nat) : Int), ()), ())) := by
    refine iter_for' (fun i => (((n : Int), (((2 ^ i : Nat) : Int), ((i : Int), ()))), ())) n rfl ?_ ?_
    · intro i hi
      have hle : 2 ^ i ≤ 2 ^ 40 := Nat.pow_le_pow_right (by omega) (by omega)
      unfold spec_l11Two.l0
      simp only
      rw [show 2 ^ (i + 1) = 2 ^ i * 2 from Nat.pow_succ 2 i]
      generalize 2 ^ i = c at hle
      rw [cond_t (by omega), w64 (n := 2 * (c : Int)) (by omega) (by omega), w64 (by omega) (by omega), show ((i : Int) + 1) = ((i + 1 : Nat) : Int) by omega, show 2 * (c : Int) = ((c * 2 : Nat) : Int) by omega]
    · unfold spec_l11Two.l0
      simp only
      rw [cond_f (by omega)]
  unfold spec_l11Two.f
  simp only
  rw [hit]
  rfl
theorem spec_in_t {x lo hi : Int} (h : lo ≤ x) (h2 : x ≤ hi) : spec_l01In.f (x, (lo, (hi, ()))) = some ((true, ()), ()) := by
  unfold spec_l01In.f
  simp only
  rw [cond_t h, decide_eq_true h2]
theorem pack_check {a : Nat → Nat} (ha : ∀ i, a i < 3329) : iter spec_Pack.l1 ((tab 256 (fun i => ((a i : Nat) : Int)), (12, (0, ()))), ()) = some (.inl ((tab 256 (fun i => ((a i : Nat) : Int)), (12, ())), ())) := by
  refine iter_for' (fun i => ((tab 256 (fun i => ((a i : Nat) : Int)), (12, ((i : Int), ()))), ())) 256 rfl ?_ ?_
  · intro i hi
    have hv := ha i
    have e2 : spec_l11Two.f (12, ()) = some ((((2 ^ 12 : Nat) : Int), ()), ()) := spec_two_ok (n := 12) (by omega)
    unfold spec_Pack.l1
    simp only
    rw [cond_t (by rw [tab_len]; omega), tab_geti (by omega) (by omega), bnd_some, e2, bnd_some, show (i : Int).toNat = i by omega]
    simp only
    rw [w64 (n := ((2 ^ 12 : Nat) : Int) - 1) (by omega) (by omega), spec_in_t (by omega) (by omega), bnd_some]
    simp only [Bool.not_true, cond_false]
    rw [w64 (by omega) (by omega), show ((i : Int) + 1) = ((i + 1 : Nat) : Int) by omega]
  · unfold spec_Pack.l1
    simp only
    rw [cond_f (by rw [tab_len]; omega)]
/-- one byte goes out -/
theorem pack13_t {X B : List Int} {w A N i : Int} {c d : Nat} (hN : 8 ≤ N) (hN2 : N ≤ 1000) (hA : A = ((c + 256 * d : Nat) : Int)) (hc : c < 256) (hd : d < 65536) (hB : B.length ≤ 100000) :
    spec_Pack.l13 ((X, (w, (B, (A, (N, (i, ())))))), ()) = some (.inl ((X, (w, (B ++ [((c : Nat) : Int)], (((d : Nat) : Int), (N - 8, (i, ())))))), ())) := by
  subst hA
  unfold spec_Pack.l13
  simp only
  rw [cond_t (by omega), tmd (by omega), tdv (by omega), show ((c + 256 * d : Nat) : Int) % 256 = (c : Int) by omega, show ((c + 256 * d : Nat) : Int) / 256 = (d : Int) by omega, w8i (n := (c : Int)) (by omega) (by omega), app_ok (by simp; omega), bnd_some, w64 (n := (d : Int)) (by omega) (by omega), w64 (by omega) (by omega)]
theorem pack13_f {X B : List Int} {w A N i : Int} (hN : N < 8) :
    spec_Pack.l13 ((X, (w, (B, (A, (N, (i, ())))))), ()) = some (.inr (.inl ((X, (w, (B, (A, (N, (i, ())))))), ()))) := by
  unfold spec_Pack.l13
  simp only
  rw [cond_f (by omega)]
def pkS (a : Nat → Nat) (i : Nat) : ((List Int) × (Int × ((List Int) × (Int × (Int × (Int × Unit)))))) × Unit :=
  ((tab 256 (fun i => ((a i : Nat) : Int)), (12, (tab (12 * i / 8) (fun j => ((pbN a j : Nat) : Int)), (((if i % 2 = 0 then 0 else a (i - 1) / 256 : Nat) : Int), (((if i % 2 = 0 then 0 else 4 : Nat) : Int), ((i : Int), ())))))), ())
theorem pack_step {a : Nat → Nat} (ha : ∀ i, a i < 3329) {i : Nat} (hi : i < 256) : spec_Pack.l9 (pkS a i) = some (.inl (pkS a (i + 1))) := by
  have hv := ha i
  have hu := ha (i - 1)
  have e0 : spec_l11Two.f (0, ()) = some ((((2 ^ 0 : Nat) : Int), ()), ()) := spec_two_ok (n := 0) (by omega)
  have e4 : spec_l11Two.f (4, ()) = some ((((2 ^ 4 : Nat) : Int), ()), ()) := spec_two_ok (n := 4) (by omega)
  unfold spec_Pack.l9 pkS
  simp only
  rw [cond_t (by rw [tab_len]; omega), tab_geti (by omega) (by omega), bnd_some, show (i : Int).toNat = i by omega]
  by_cases h : i % 2 = 0
  · have hb0 : pbN a (12 * i / 8) = a i % 256 := by unfold pbN; rw [if_pos (by omega), show 2 * (12 * i / 8 / 3) = i by omega]
    simp only [h, if_true]
    rw [if_neg (show ¬ (i + 1) % 2 = 0 by omega), if_neg (show ¬ (i + 1) % 2 = 0 by omega)]
    rw [show spec_l11Two.f (((0 : Nat) : Int), ()) = _ from e0, bnd_some]
    simp only
    rw [w64 (n := ((a i : Nat) : Int) * ((2 ^ 0 : Nat) : Int)) (by omega) (by omega), w64 (n := ((0 : Nat) : Int) + ((a i : Nat) : Int) * ((2 ^ 0 : Nat) : Int)) (by omega) (by omega), w64 (n := ((0 : Nat) : Int) + 12) (by omega) (by omega)]
    rw [iter_eq, pack13_t (c := a i % 256) (d := a i / 256) (by omega) (by omega) (by omega) (by omega) (by omega) (by rw [tab_len]; omega)]
    simp only [Option.bind_some]
    rw [iter_eq, pack13_f (by omega)]
    simp only [Option.bind_some, bnd_some]
    rw [w64 (by omega) (by omega), show ((i : Int) + 1) = ((i + 1 : Nat) : Int) by omega, ← hb0, tab_snoc, show 12 * i / 8 + 1 = 12 * (i + 1) / 8 by omega, show i + 1 - 1 = i by omega]
    rfl
  · have hb1 : pbN a (12 * i / 8) = a (i - 1) / 256 + a i % 16 * 16 := by unfold pbN; rw [if_neg (by omega), if_pos (by omega), show 2 * (12 * i / 8 / 3) = i - 1 by omega, show i - 1 + 1 = i by omega]
    have hb2 : pbN a (12 * i / 8 + 1) = a i / 16 := by unfold pbN; rw [if_neg (by omega), if_neg (by omega), show 2 * ((12 * i / 8 + 1) / 3) + 1 = i by omega]
    rw [if_neg h, if_neg h, if_pos (show (i + 1) % 2 = 0 by omega), if_pos (show (i + 1) % 2 = 0 by omega)]
    rw [show spec_l11Two.f (((4 : Nat) : Int), ()) = _ from e4, bnd_some]
    simp only
    rw [w64 (n := ((a i : Nat) : Int) * ((2 ^ 4 : Nat) : Int)) (by omega) (by omega), w64 (n := ((a (i - 1) / 256 : Nat) : Int) + ((a i : Nat) : Int) * ((2 ^ 4 : Nat) : Int)) (by omega) (by omega), w64 (n := ((4 : Nat) : Int) + 12) (by omega) (by omega)]
    rw [iter_eq, pack13_t (c := a (i - 1) / 256 + a i % 16 * 16) (d := a i / 16) (by omega) (by omega) (by omega) (by omega) (by omega) (by rw [tab_len]; omega)]
    simp only [Option.bind_some]
    rw [iter_eq, pack13_t (c := a i / 16) (d := 0) (by omega) (by omega) (by omega) (by omega) (by omega) (by simp [tab_len]; omega)]
    simp only [Option.bind_some]
    rw [iter_eq, pack13_f (by omega)]
    simp only [Option.bind_some, bnd_some]
    rw [w64 (by omega) (by omega), show ((i : Int) + 1) = ((i + 1 : Nat) : Int) by omega, ← hb1, tab_snoc, ← hb2, tab_snoc, show 12 * i / 8 + 1 + 1 = 12 * (i + 1) / 8 by omega]
    rfl
theorem spec_Pack_ok {a : Nat → Nat} (ha : ∀ i, a i < 3329) : spec_Pack.f (tab 256 (fun i => ((a i : Nat) : Int)), (12, ())) = some ((ofBytes (tab 384 (fun j => ((pbN a j : Nat) : Int))), (true, ())), ()) := by
  have hit : iter spec_Pack.l9 ((tab 256 (fun i => ((a i : Nat) : Int)), (12, ([], (0, (0, (0, ())))))), ()) = some (.inl ((tab 384 (fun j => ((pbN a j : Nat) : Int)), (0, (0, ()))), ())) := by
    refine iter_for' (pkS a) 256 rfl (fun i hi => pack_step ha hi) ?_
    unfold spec_Pack.l9 pkS
    simp only
    rw [cond_f (by rw [tab_len]; omega)]
    rfl
  unfold spec_Pack.f
  simp only
  rw [spec_in_t (by omega) (by omega), bnd_some]
  simp only [Bool.not_true, cond_false]
  rw [pack_check ha, bnd_some]
  simp only
  rw [hit, bnd_some]
  simp only
  rw [cond_f (by omega)]
theorem spec_PolyBytes_ok {a : Nat → Nat} (ha : ∀ i, a i < 3329) : spec_PolyBytes.f (tab 256 (fun i => ((a i : Nat) : Int)), ()) = some ((ofBytes (tab 384 (fun j => ((pbN a j : Nat) : Int))), ()), ()) := by
  unfold spec_PolyBytes.f
  simp only
  rw [spec_PolyOk_ok (fun i => by have := ha i; constructor <;> omega)]
  simp only [bnd_some, Bool.not_true, cond_false]
  rw [spec_Pack_ok ha]
  rfl
end Go.Vi

set_option autoImplicit false
set_option linter.unusedVariables false
set_option linter.unusedSimpArgs false
namespace Go.Vi
open Go
/-! ## Uniform -/
def pushQ (L : List Nat) (v : Nat) : List Nat := if v < 3329 ∧ L.length < 256 then L ++ [v] else L
theorem pushQ_len {L : List Nat} {v : Nat} (h : L.length ≤ 256) : (pushQ L v).length ≤ 256 := by
  unfold pushQ
  split
  · simp; omega
  · exact h
def d0 (x y : UInt8) : Nat := x.toNat + 256 * (y.toNat % 16)
def d1 (y z : UInt8) : Nat := y.toNat / 16 + 16 * z.toNat
def ac (S : List UInt8) : Nat → List Nat
  | 0 => []
  | j + 1 => pushQ (pushQ (ac S j) (d0 (sb S (3 * j)) (sb S (3 * j + 1)))) (d1 (sb S (3 * j + 1)) (sb S (3 * j + 2)))
theorem ac_len (S : List UInt8) : ∀ j, (ac S j).length ≤ 256
  | 0 => by simp [ac]
  | j + 1 => pushQ_len (pushQ_len (ac_len S j))
theorem pushQ_full {L : List Nat} {v : Nat} (h : ¬ L.length < 256) : pushQ L v = L := by unfold pushQ; rw [if_neg (fun hh => h hh.2)]
theorem ac_full (S : List UInt8) {j : Nat} (h : ¬ (ac S j).length < 256) : ∀ d, ac S (j + d) = ac S j
  | 0 => rfl
  | d + 1 => by
    rw [show j + (d + 1) = (j + d) + 1 by omega]
    show pushQ (pushQ (ac S (j + d)) _) _ = _
    rw [ac_full S h d, pushQ_full h, pushQ_full h]
theorem ac_stop (S : List UInt8) {j : Nat} (hj : j ≤ 4000) (h : ¬ (ac S j).length < 256 ∨ j = 4000) : ac S 4000 = ac S j := by
  rcases h with h | h
  · have := ac_full S h (4000 - j)
    rwa [show j + (4000 - j) = 4000 by omega] at this
  · rw [h]
def gd (L : List Nat) (k : Nat) : Int := ((L.getD k 0 : Nat) : Int)
theorem uni_push {L : List Nat} (hL : L.length ≤ 256) {v : Nat} {xs : List Int} {i m : Int} {idx : Nat} (hm : m ≤ 100) (h1 : (idx : Int) < m) (h2 : xs[idx]? = some (v : Int)) (st : List UInt8 × (Int × Unit)) :
    impl_Uniform.l14 (((), (tab 256 (gd L), ((L.length : Int), (i, (xs, (m, ((idx : Int), ()))))))), (st, ())) = some (.inl (((), (tab 256 (gd (pushQ L v)), (((pushQ L v).length : Int), (i, (xs, (m, (((idx + 1 : Nat) : Int), ()))))))), (st, ()))) := by
  unfold impl_Uniform.l14
  simp only
  have hg : geti xs (idx : Int) = some (v : Int) := by unfold geti; rw [if_pos (by omega)]; exact h2
  rw [cond_t h1, hg, bnd_some, show (idx : Int).toNat = idx by omega, h2, bnd_some, w64 (n := (idx : Int) + 1) (by omega) (by omega), show ((idx : Int) + 1) = ((idx + 1 : Nat) : Int) by omega]
  by_cases hv : v < 3329
  · rw [cond_t (by omega)]
    by_cases hl : L.length < 256
    · rw [cond_t (by omega), tab_geti (by omega) (by omega), bnd_some, show (L.length : Int).toNat = L.length by omega, tab_get hl, bnd_some, tab_set, w64 (by omega) (by omega)]
      have e : pushQ L v = L ++ [v] := by unfold pushQ; rw [if_pos ⟨hv, hl⟩]
      rw [e]
      have e2 : ((L ++ [v]).length : Int) = (L.length : Int) + 1 := by simp
      rw [e2]
      refine congrArg (fun T => some (Sum.inl (((), (T, ((L.length : Int) + 1, (i, (xs, (m, (((idx + 1 : Nat) : Int), ()))))))), (st, ())))) (tab_ext fun k hk => ?_)
      unfold gd
      by_cases hkl : k = L.length
      · subst hkl; simp
      · rw [if_neg hkl]
        by_cases hk2 : k < L.length
        · simp [List.getD, List.getElem?_append, hk2]
        · have a1 : L[k]? = none := List.getElem?_eq_none (by omega)
          have a2 : (L ++ [v])[k]? = none := List.getElem?_eq_none (by simp; omega)
          simp [List.getD, a1, a2]
    · rw [cond_f (by omega), pushQ_full hl]
  · rw [cond_f (by omega)]
    have e : pushQ L v = L := by unfold pushQ; rw [if_neg (fun hh => hv hh.1)]
    rw [e]
theorem uni_pair {L : List Nat} (hL : L.length ≤ 256) {v w : Nat} {i : Int} (st : List UInt8 × (Int × Unit)) :
    iter impl_Uniform.l14 (((), (tab 256 (gd L), ((L.length : Int), (i, ([(v : Int), (w : Int)], (2, (0, ()))))))), (st, ())) = some (.inl (((), (tab 256 (gd (pushQ (pushQ L v) w)), (((pushQ (pushQ L v) w).length : Int), (i, ())))), (st, ()))) := by
  have s0 := uni_push hL (v := v) (xs := [(v : Int), (w : Int)]) (i := i) (m := 2) (idx := 0) (by omega) (by omega) rfl st
  have s1 := uni_push (pushQ_len (v := v) hL) (v := w) (xs := [(v : Int), (w : Int)]) (i := i) (m := 2) (idx := 1) (by omega) (by omega) rfl st
  rw [iter_eq, show impl_Uniform.l14 (((), (tab 256 (gd L), ((L.length : Int), (i, ([(v : Int), (w : Int)], (2, (0, ()))))))), (st, ())) = _ from s0]
  simp only [Option.bind_some]
  rw [iter_eq, s1]
  simp only [Option.bind_some]
  rw [iter_eq]
  unfold impl_Uniform.l14
  simp only
  rw [cond_f (by omega)]
  rfl
theorem d0_I (x y : UInt8) : (IntKind.wrap .i64 ((IntKind.wrap .i64 ((UInt8.toNat x) : Int)) + (IntKind.wrap .i64 ((Int.tmod (IntKind.wrap .i64 ((UInt8.toNat y) : Int)) 16) * 256)))) = ((d0 x y : Nat) : Int) := by
  have hx := x.toNat_lt; have hy := y.toNat_lt
  unfold d0
  rw [w64 (n := (x.toNat : Int)) (by omega) (by omega), w64 (n := (y.toNat : Int)) (by omega) (by omega), tmd (by omega), w64 (n := (y.toNat : Int) % 16 * 256) (by omega) (by omega), w64 (by omega) (by omega)]
  omega
theorem d0_I' (x y : UInt8) : (IntKind.wrap .i64 ((IntKind.wrap .i64 ((UInt8.toNat x) : Int)) + (IntKind.wrap .i64 (256 * (Int.tmod (IntKind.wrap .i64 ((UInt8.toNat y) : Int)) 16))))) = ((d0 x y : Nat) : Int) := by
  rw [Int.mul_comm]; exact d0_I x y
theorem d1_I (y z : UInt8) : (IntKind.wrap .i64 ((IntKind.wrap .i64 (Int.tdiv (IntKind.wrap .i64 ((UInt8.toNat y) : Int)) 16)) + (IntKind.wrap .i64 (16 * (IntKind.wrap .i64 ((UInt8.toNat z) : Int)))))) = ((d1 y z : Nat) : Int) := by
  have hx := z.toNat_lt; have hy := y.toNat_lt
  unfold d1
  rw [w64 (n := (z.toNat : Int)) (by omega) (by omega), w64 (n := (y.toNat : Int)) (by omega) (by omega), tdv (by omega), w64 (n := (y.toNat : Int) / 16) (by omega) (by omega), w64 (n := 16 * (z.toNat : Int)) (by omega) (by omega), w64 (by omega) (by omega)]
  omega
theorem impl_uni_loop {S : List UInt8} (hS : S.length = 200) : iter impl_Uniform.l5 (((), (tab 256 (gd []), (0, (0, ())))), ((S, (0, ())), ())) = some (.inl ((tab 256 (gd (ac S 4000)), ()), ())) := by
  obtain ⟨r, hr, rfl⟩ := iter_inv (f := impl_Uniform.l5) (fun s => ∃ j q a : Nat, j ≤ 4000 ∧ a ≤ 168 ∧ 168 * q + a = 3 * j ∧ s = (((), (tab 256 (gd (ac S j)), (((ac S j).length : Int), ((j : Int), ())))), ((pmN S q, ((a : Int), ())), ()))) (fun s => 4000 - s.1.2.2.2.1.toNat) (fun r => r = .inl ((tab 256 (gd (ac S 4000)), ()), ())) (by
    rintro s ⟨j, q, a, hj, ha, hp, rfl⟩
    have hl := ac_len S j
    unfold impl_Uniform.l5
    simp only
    by_cases h4 : j < 4000
    · rw [cond_t (by omega)]
      simp only [bnd_some]
      by_cases hc : (ac S j).length < 256
      · rw [cond_t (by omega)]
        obtain ⟨q2, a2, ha2, hp2, hst⟩ := impl_StreamTake_ok hS (n := 3) (q0 := q) (a0 := a) (by omega) ha
        simp only [Int.cast_ofNat_Int] at hst
        rw [show impl_StreamTake.f ((pmN S q, ((a : Int), ())), (3, ())) = _ from hst]
        simp only [bnd_some]
        rw [tab_geti (by omega) (by omega), bnd_some, tab_geti (by omega) (by omega), bnd_some, tab_geti (by omega) (by omega), bnd_some]
        simp only [show (0 : Int).toNat = 0 from rfl, show (1 : Int).toNat = 1 from rfl, show (2 : Int).toNat = 2 from rfl, hp, Nat.add_zero, d0_I, d1_I]
        have hu := uni_pair (L := ac S j) hl (v := d0 (sb S (3 * j)) (sb S (3 * j + 1))) (w := d1 (sb S (3 * j + 1)) (sb S (3 * j + 2))) (i := (j : Int)) (pmN S q2, ((a2 : Int), ()))
        simp only [List.length_cons, List.length_nil]
        rw [show (((0 + 1 + 1 : Nat)) : Int) = 2 from rfl, hu]
        simp only [bnd_some]
        left
        refine ⟨_, rfl, ⟨j + 1, q2, a2, by omega, ha2, by omega, ?_⟩, ?_⟩
        · rw [w64 (by omega) (by omega), show ((j : Int) + 1) = ((j + 1 : Nat) : Int) by omega]
          rfl
        · simp only
          rw [w64 (by omega) (by omega)]
          omega
      · rw [cond_f (by omega)]
        right
        refine ⟨_, rfl, ?_⟩
        rw [ac_stop S hj (Or.inl hc)]
    · rw [cond_f (by omega)]
      simp only [bnd_some, cond_false]
      right
      refine ⟨_, rfl, ?_⟩
      rw [ac_stop S hj (Or.inr (by omega))]) _ ⟨0, 0, 0, by omega, by omega, rfl, rfl⟩
  exact hr
noncomputable def unI (s : List UInt8) : List Int := tab 256 (gd (ac (absB s) 4000))
theorem impl_Uniform_ok {s : List UInt8} {i j : Nat} (h : s.length ≤ 100000) (hi : i < 256) (hj : j < 256) : impl_Uniform.f (s, ((i : Int), ((j : Int), ()))) = some ((unI (s ++ one i ++ one j), ()), ()) := by
  have e0 : tab 256 (fun _ => (0 : Int)) = tab 256 (gd []) := tab_ext fun k hk => by simp [gd]
  unfold impl_Uniform.f
  simp only
  rw [impl_oneByte_ok hi, bnd_some, cat_ok (by simp [one_len]; omega), bnd_some, impl_oneByte_ok hj, bnd_some, cat_ok (by simp [one_len]; omega), bnd_some, impl_StreamNew_ok (by simp [one_len]; omega), bnd_some, show Int.toNat 256 = 256 from rfl, tab_rep, e0, impl_uni_loop (absB_len _)]
  rfl
end Go.Vi

set_option autoImplicit false
set_option linter.unusedVariables false
set_option linter.unusedSimpArgs false
namespace Go.Vi
open Go
/-! ## Uniform, on the other side -/
def asI (L : List Nat) : List Int := List.map (fun v : Nat => (v : Int)) L
theorem asI_len (L : List Nat) : (asI L).length = L.length := by simp [asI]
theorem asI_push {L : List Nat} {v : Nat} (hv : v < 3329) (hl : L.length < 256) : asI (pushQ L v) = asI L ++ [(v : Int)] := by unfold pushQ asI; rw [if_pos ⟨hv, hl⟩]; simp
theorem pushQ_no {L : List Nat} {v : Nat} (hv : ¬ (v < 3329 ∧ L.length < 256)) : pushQ L v = L := by unfold pushQ; rw [if_neg hv]
/-- the second half of a round: two numbers are drawn from the three bytes -/
theorem spec_uni_step {S B : List UInt8} {L : List Nat} {j k : Nat} (hj : j < 4000) (hL : L.length < 256) (st st2 : List UInt8 × (Int × Unit)) (B0 : List UInt8) {x y z : UInt8}
    (hk : k = j % 56 * 3) (hB : (k = 0 ∧ spec_StreamTake.f (st, (168, ())) = some ((st2, (B, ())), ())) ∨ (k ≠ 0 ∧ B0 = B ∧ st2 = st)) (h0 : geti B (k : Int) = some x) (h1 : geti B ((k : Int) + 1) = some y) (h2 : geti B ((k : Int) + 2) = some z) :
    spec_Uniform.l5 ((asI L, ((), (B0, ((j : Int), ())))), (st, ())) = some (.inl ((asI (pushQ (pushQ L (d0 x y)) (d1 y z)), ((), (B, (((j + 1 : Nat) : Int), ())))), (st2, ()))) := by
  have ek : IntKind.wrap .i64 ((Int.tmod (j : Int) 56) * 3) = (k : Int) := by rw [tmd (by omega), w64 (by omega) (by omega)]; omega
  have hk2 : k < 168 := by omega
  have first : ∀ (C : List UInt8) (s : List UInt8 × (Int × Unit)), C = B → s = st2 → True := fun _ _ _ _ => trivial
  unfold spec_Uniform.l5
  simp only
  rw [cond_t (by omega)]
  simp only [bnd_some]
  rw [cond_t (by rw [asI_len]; omega)]
  simp only [ek]
  have tail : (match (some (Sum.inl ((asI L, ((), (B, ((j : Int), ((k : Int), ()))))), (st2, ()))) : Option ((((List Int) × (Unit × ((List UInt8) × (Int × (Int × Unit))))) × (((List UInt8) × (Int × Unit)) × Unit)) ⊕ (Unit ⊕ (((List Int) × Unit) × Unit)))) with | _ => True) := trivial
  have main : (cond (decide ((k : Int) = 0)) (Option.bind (spec_StreamTake.f (st, (168, ()))) fun y10 => (some (.inl ((asI L, ((), (y10.1.2.1, ((j : Int), ((k : Int), ()))))), (y10.1.1, ())))))
      (some (.inl ((asI L, ((), (B0, ((j : Int), ((k : Int), ()))))), (st, ())))) : Option ((((List Int) × (Unit × ((List UInt8) × (Int × (Int × Unit))))) × (((List UInt8) × (Int × Unit)) × Unit)) ⊕ (Unit ⊕ (((List Int) × Unit) × Unit)))) =
      some (.inl ((asI L, ((), (B, ((j : Int), ((k : Int), ()))))), (st2, ()))) := by
    rcases hB with ⟨hz, hs⟩ | ⟨hz, rfl, rfl⟩
    · rw [cond_t (by omega), hs, bnd_some]
    · rw [cond_f (by omega)]
  rw [main]
  simp only [bnd_some]
  rw [w64 (n := (k : Int) + 1) (by omega) (by omega), w64 (n := (k : Int) + 2) (by omega) (by omega), h0, bnd_some, h1, bnd_some, bnd_some, h2, bnd_some]
  simp only [d0_I', d1_I]
  have hj1 : IntKind.wrap .i64 ((j : Int) + 1) = ((j + 1 : Nat) : Int) := by rw [w64 (by omega) (by omega)]; omega
  generalize d0 x y = v
  generalize d1 y z = w
  by_cases hv : v < 3329
  · rw [cond_t (by omega), app_ok (by simp [asI_len]; omega), bnd_some]
    simp only [bnd_some]
    rw [← asI_push hv hL]
    by_cases hw : w < 3329
    · rw [cond_t (by omega)]
      simp only [bnd_some]
      by_cases hf : (pushQ L v).length < 256
      · rw [cond_t (by rw [asI_len]; omega), app_ok (by simp [asI_len]; omega), bnd_some, ← asI_push hw hf, hj1]
      · rw [cond_f (by rw [asI_len]; omega), pushQ_full hf, hj1]
    · rw [cond_f (by omega)]
      simp only [bnd_some, cond_false]
      rw [pushQ_no (L := pushQ L v) (v := w) (fun h => hw h.1), hj1]
  · rw [cond_f (by omega)]
    simp only [bnd_some]
    rw [pushQ_no (L := L) (v := v) (fun h => hv h.1)]
    by_cases hw : w < 3329
    · rw [cond_t (by omega)]
      simp only [bnd_some]
      rw [cond_t (by rw [asI_len]; omega), app_ok (by simp [asI_len]; omega), bnd_some, ← asI_push hw hL, hj1]
    · rw [cond_f (by omega)]
      simp only [bnd_some, cond_false]
      rw [pushQ_no (L := L) (v := w) (fun h => hw h.1), hj1]
theorem spec_uni_loop {S : List UInt8} (hS : S.length = 200) : iter spec_Uniform.l5 (([], ((), ([], (0, ())))), ((S, (0, ())), ())) = some (.inl ((asI (ac S 4000), ()), ())) := by
  obtain ⟨r, hr, rfl⟩ := iter_inv (f := spec_Uniform.l5) (fun s => ∃ (j q a : Nat) (B : List UInt8), j ≤ 4000 ∧ a ≤ 168 ∧ 168 * q + a = 168 * ((j + 55) / 56) ∧ (j % 56 ≠ 0 → B = tab 168 (fun i => sb S (168 * (j / 56) + i))) ∧ s = ((asI (ac S j), ((), (B, ((j : Int), ())))), ((pmN S q, ((a : Int), ())), ()))) (fun s => 4000 - s.1.2.2.2.1.toNat) (fun r => r = .inl ((asI (ac S 4000), ()), ())) (by
    rintro s ⟨j, q, a, B, hj, ha, hp, hB, rfl⟩
    by_cases h4 : j < 4000
    · by_cases hc : (ac S j).length < 256
      · left
        have g : ∀ d : Nat, d < 3 → geti (tab 168 (fun i => sb S (168 * (j / 56) + i))) (((j % 56 * 3 : Nat) : Int) + (d : Int)) = some (sb S (3 * j + d)) := fun d hd => by
          rw [tab_geti (by omega) (by omega), show (((j % 56 * 3 : Nat) : Int) + (d : Int)).toNat = j % 56 * 3 + d by omega, show 168 * (j / 56) + (j % 56 * 3 + d) = 3 * j + d by omega]
        have g0 : geti (tab 168 (fun i => sb S (168 * (j / 56) + i))) ((j % 56 * 3 : Nat) : Int) = some (sb S (3 * j)) := by
          have := g 0 (by omega)
          rwa [show (((j % 56 * 3 : Nat) : Int) + ((0 : Nat) : Int)) = ((j % 56 * 3 : Nat) : Int) by omega] at this
        by_cases hz : j % 56 = 0
        · obtain ⟨q2, a2, ha2, hp2, hst⟩ := spec_StreamTake_ok hS (n := 168) (q0 := q) (a0 := a) (by omega) ha
          simp only [Int.cast_ofNat_Int] at hst
          rw [hp, show (j + 55) / 56 = j / 56 by omega] at hst
          have := spec_uni_step (S := S) (B := tab 168 (fun i => sb S (168 * (j / 56) + i))) (L := ac S j) (j := j) (k := j % 56 * 3) h4 hc (pmN S q, ((a : Int), ())) (pmN S q2, ((a2 : Int), ())) B rfl (Or.inl ⟨by omega, hst⟩) g0 (g 1 (by omega)) (g 2 (by omega))
          refine ⟨_, this, ⟨j + 1, q2, a2, _, by omega, ha2, by omega, fun hn => ?_, rfl⟩, ?_⟩
          · rw [show (j + 1) / 56 = j / 56 by omega]
          · simp only
            omega
        · have hBB := hB hz
          have := spec_uni_step (S := S) (B := tab 168 (fun i => sb S (168 * (j / 56) + i))) (L := ac S j) (j := j) (k := j % 56 * 3) h4 hc (pmN S q, ((a : Int), ())) (pmN S q, ((a : Int), ())) B rfl (Or.inr ⟨by omega, hBB, rfl⟩) g0 (g 1 (by omega)) (g 2 (by omega))
          refine ⟨_, this, ⟨j + 1, q, a, _, by omega, ha, by omega, fun hn => ?_, rfl⟩, ?_⟩
          · rw [show (j + 1) / 56 = j / 56 by omega]
          · simp only
            omega
      · right
        unfold spec_Uniform.l5
        simp only
        rw [cond_t (by omega)]
        simp only [bnd_some]
        rw [cond_f (by rw [asI_len]; omega)]
        exact ⟨_, rfl, by rw [ac_stop S hj (Or.inl hc)]⟩
    · right
      unfold spec_Uniform.l5
      simp only
      rw [cond_f (by omega)]
      simp only [bnd_some, cond_false]
      exact ⟨_, rfl, by rw [ac_stop S hj (Or.inr (by omega))]⟩) _ ⟨0, 0, 0, [], by omega, by omega, by omega, fun h => absurd rfl h, rfl⟩
  exact hr
theorem pad_loop {L : List Nat} (hL : L.length ≤ 256) : iter spec_Uniform.l37 ((asI L, ()), ()) = some (.inl ((tab 256 (gd L), ()), ())) := by
  have e : asI L = tab L.length (gd L) := by
    apply List.ext_getElem?
    intro i
    by_cases hi : i < L.length
    · rw [tab_get hi]; simp [asI, gd, hi]
    · rw [List.getElem?_eq_none (by rw [asI_len]; omega), List.getElem?_eq_none (by rw [tab_len]; omega)]
  rw [e]
  refine iter_for' (fun i => ((tab (L.length + i) (gd L), ()), ())) (256 - L.length) rfl ?_ ?_
  · intro i hi
    unfold spec_Uniform.l37
    simp only
    have h0 : gd L (L.length + i) = 0 := by unfold gd; rw [List.getD, List.getElem?_eq_none (by omega)]; rfl
    rw [cond_t (by rw [tab_len]; omega), app_ok (by simp [tab_len]; omega), bnd_some, ← h0, tab_snoc, Nat.add_assoc]
  · unfold spec_Uniform.l37
    simp only
    rw [cond_f (by rw [tab_len]; omega), show L.length + (256 - L.length) = 256 by omega]
theorem spec_Uniform_ok {s : List UInt8} {i j : Nat} (h : s.length ≤ 100000) (hi : i < 256) (hj : j < 256) : spec_Uniform.f (s, ((i : Int), ((j : Int), ()))) = some ((unI (s ++ one i ++ one j), ()), ()) := by
  unfold spec_Uniform.f
  simp only
  rw [spec_l06Byte_ok hi, bnd_some, cat_ok (by simp [one_len]; omega), bnd_some, spec_l06Byte_ok hj, bnd_some, cat_ok (by simp [one_len]; omega), bnd_some, spec_StreamNew_ok (by simp [one_len]; omega), bnd_some]
  simp only
  rw [spec_uni_loop (absB_len _), bnd_some]
  simp only
  rw [pad_loop (ac_len _ _)]
  rfl
end Go.Vi

set_option autoImplicit false
set_option linter.unusedVariables false
set_option linter.unusedSimpArgs false
namespace Go.Vi
open Go
/-! ## Pairs -/
theorem ac_lt (S : List UInt8) : ∀ j, ∀ v ∈ ac S j, v < 3329 := by
  have push : ∀ (L : List Nat) (w : Nat), (∀ v ∈ L, v < 3329) → ∀ v ∈ pushQ L w, v < 3329 := by
    intro L w hL v hv
    unfold pushQ at hv
    split at hv
    · rename_i hc
      rcases List.mem_append.1 hv with h | h
      · exact hL v h
      · simp at h; omega
    · exact hL v hv
  intro j
  induction j with
  | zero => intro v hv; simp [ac] at hv
  | succ j ih => exact push _ _ (push _ _ ih)
theorem gd_R {L : List Nat} (h : ∀ v ∈ L, v < 3329) (k : Nat) : RQ (gd L k) := by
  unfold gd
  by_cases hk : k < L.length
  · have := h (L[k]) (List.getElem_mem hk)
    have e : L.getD k 0 = L[k] := by simp [List.getD, hk]
    rw [e]; constructor <;> omega
  · have e : L.getD k 0 = 0 := by simp [List.getD, List.getElem?_eq_none (Nat.le_of_not_lt hk)]
    rw [e]; constructor <;> omega
def pbQ (A : Nat → Int) : List UInt8 := ofBytes (tab 384 (fun j => ((pbN (fun i => (A i).toNat) j : Nat) : Int)))
theorem pbQ_len (A : Nat → Int) : (pbQ A).length = 384 := by simp [pbQ, ofBytes_len, tab_len]
theorem toN {A : Nat → Int} (h : ∀ i, RQ (A i)) : tab 256 A = tab 256 (fun i => (((A i).toNat : Nat) : Int)) := tab_ext fun i hi => by have := h i; omega
theorem impl_pbQ {A : Nat → Int} (h : ∀ i, RQ (A i)) : impl_PolyBytes.f (tab 256 A, ()) = some ((pbQ A, ()), ()) := by
  rw [toN h]; exact impl_PolyBytes_ok (a := fun i => (A i).toNat) fun i => by have := h i; omega
theorem spec_pbQ {A : Nat → Int} (h : ∀ i, RQ (A i)) : spec_PolyBytes.f (tab 256 A, ()) = some ((pbQ A, ()), ()) := by
  rw [toN h]; exact spec_PolyBytes_ok (a := fun i => (A i).toNat) fun i => by have := h i; omega
noncomputable def smK (s : List UInt8) (k : Nat) : Nat → Int := smI (shk (s ++ one k) 128)
noncomputable def scK (s : List UInt8) (k : Nat) : Nat → Int := ntI (smK s k) 7
theorem scK_R (s : List UInt8) (k : Nat) : ∀ i, RQ (scK s k i) := ntI_R (fun i => smI_R _ i) 7
noncomputable def mtK (r : List UInt8) (i j : Nat) : Nat → Int := gd (ac (absB (r ++ one j ++ one i)) 4000)
theorem mtK_R (r : List UInt8) (i j : Nat) : ∀ k, RQ (mtK r i j k) := fun k => gd_R (ac_lt _ _) k
noncomputable def tK (r s : List UInt8) (i : Nat) : Nat → Int := addI (dotI (mtK r i) (scK s) 2) (scK s (2 + i))
theorem tK_R (r s : List UInt8) (i : Nat) : ∀ k, RQ (tK r s i k) := fun k => addI_R _ _ k
theorem impl_smalls_ok {s : List UInt8} {b : Nat} (hs : s.length ≤ 1000) (hb : b ≤ 100) : impl_smalls.f (s, ((b : Int), ())) = some ((tab 2 (fun k => tab 256 (smK s (b + k))), ()), ()) := by
  have hit : iter impl_smalls.l0 ((s, ((b : Int), ([], (0, ())))), ()) = some (.inl ((tab 2 (fun k => tab 256 (smK s (b + k))), ()), ())) := by
    refine iter_for' (fun i => ((s, ((b : Int), (tab i (fun k => tab 256 (smK s (b + k))), ((i : Int), ())))), ())) 2 rfl ?_ ?_
    · intro i hi
      unfold impl_smalls.l0
      simp only
      rw [cond_t (by omega), w64 (n := (b : Int) + (i : Int)) (by omega) (by omega), show (b : Int) + (i : Int) = ((b + i : Nat) : Int) by omega, impl_Small_ok (by omega) (by omega), bnd_some, app_ok (by rw [tab_len]; simp; omega), bnd_some, w64 (by omega) (by omega), show ((i : Int) + 1) = ((i + 1 : Nat) : Int) by omega, ← tab_snoc i (fun k => tab 256 (smK s (b + k)))]
      rfl
    · unfold impl_smalls.l0
      simp only
      rw [cond_f (by omega)]
  unfold impl_smalls.f
  simp only
  rw [hit]
  rfl
theorem impl_ntts_ok {A : Nat → Nat → Int} (hA : ∀ k i, RQ (A k i)) : impl_ntts.f (tab 2 (fun k => tab 256 (A k)), ()) = some ((tab 2 (fun k => tab 256 (ntI (A k) 7)), ()), ()) := by
  have hit : iter impl_ntts.l0 (([], (tab 2 (fun k => tab 256 (A k)), (2, (0, ())))), ()) = some (.inl ((tab 2 (fun k => tab 256 (ntI (A k) 7)), ()), ())) := by
    refine iter_for' (fun i => ((tab i (fun k => tab 256 (ntI (A k) 7)), (tab 2 (fun k => tab 256 (A k)), (2, ((i : Int), ())))), ())) 2 rfl ?_ ?_
    · intro i hi
      unfold impl_ntts.l0
      simp only
      rw [cond_t (by omega), tab_geti (by omega) (by omega), bnd_some, show (i : Int).toNat = i by omega, impl_Ntt_ok (hA i), bnd_some, app_ok (by rw [tab_len]; simp; omega), bnd_some, w64 (by omega) (by omega), show ((i : Int) + 1) = ((i + 1 : Nat) : Int) by omega, ← tab_snoc i (fun k => tab 256 (ntI (A k) 7))]
    · unfold impl_ntts.l0
      simp only
      rw [cond_f (by omega)]
  unfold impl_ntts.f
  simp only
  rw [show ((tab 2 (fun k => tab 256 (A k))).length : Int) = 2 by rw [tab_len]; rfl, hit]
  rfl
theorem impl_row_ok {r : List UInt8} {i : Nat} (hr : r.length ≤ 1000) (hi : i < 100) : impl_row.f (r, ((i : Int), (false, ()))) = some ((tab 2 (fun j => tab 256 (mtK r i j)), ()), ()) := by
  have hit : iter impl_row.l0 ((r, ((i : Int), (false, ([], (0, ()))))), ()) = some (.inl ((tab 2 (fun j => tab 256 (mtK r i j)), ()), ())) := by
    refine iter_for' (fun j => ((r, ((i : Int), (false, (tab j (fun j => tab 256 (mtK r i j)), ((j : Int), ()))))), ())) 2 rfl ?_ ?_
    · intro j hj
      unfold impl_row.l0
      simp only
      rw [cond_t (by omega)]
      simp only [cond_false]
      rw [impl_Uniform_ok (by omega) (by omega) (by omega), bnd_some, app_ok (by rw [tab_len]; simp; omega), bnd_some, w64 (by omega) (by omega), show ((j : Int) + 1) = ((j + 1 : Nat) : Int) by omega, ← tab_snoc j (fun j => tab 256 (mtK r i j))]
      rfl
    · unfold impl_row.l0
      simp only
      rw [cond_f (by omega)]
  unfold impl_row.f
  simp only
  rw [hit]
  rfl
theorem spec_matrix_ok {r : List UInt8} (hr : r.length ≤ 1000) : spec_l13Matrix.f (r, ()) = some ((tab 4 (fun k => tab 256 (mtK r (k / 2) (k % 2))), ()), ()) := by
  have inn : ∀ i : Nat, i < 2 → iter spec_l13Matrix.l2 ((r, (tab (2 * i) (fun k => tab 256 (mtK r (k / 2) (k % 2))), ((i : Int), (0, ())))), ()) = some (.inl ((r, (tab (2 * i + 2) (fun k => tab 256 (mtK r (k / 2) (k % 2))), ((i : Int), ()))), ())) := by
    intro i hi
    refine iter_for' (fun j => ((r, (tab (2 * i + j) (fun k => tab 256 (mtK r (k / 2) (k % 2))), ((i : Int), ((j : Int), ())))), ())) 2 rfl ?_ ?_
    · intro j hj
      unfold spec_l13Matrix.l2
      simp only
      rw [cond_t (by omega), spec_Uniform_ok (by omega) (by omega) (by omega), bnd_some, app_ok (by rw [tab_len]; simp; omega), bnd_some, w64 (by omega) (by omega), show ((j : Int) + 1) = ((j + 1 : Nat) : Int) by omega, ← Nat.add_assoc, ← tab_snoc (2 * i + j) (fun k => tab 256 (mtK r (k / 2) (k % 2)))]
      simp only
      rw [show (2 * i + j) / 2 = i by omega, show (2 * i + j) % 2 = j by omega]
      rfl
    · unfold spec_l13Matrix.l2
      simp only
      rw [cond_f (by omega)]
  have hit : iter spec_l13Matrix.l0 ((r, ([], (0, ()))), ()) = some (.inl ((tab 4 (fun k => tab 256 (mtK r (k / 2) (k % 2))), ()), ())) := by
    refine iter_for' (fun i => ((r, (tab (2 * i) (fun k => tab 256 (mtK r (k / 2) (k % 2))), ((i : Int), ()))), ())) 2 rfl ?_ ?_
    · intro i hi
      unfold spec_l13Matrix.l0
      simp only
      rw [cond_t (by omega), inn i hi, bnd_some]
      simp only
      rw [w64 (by omega) (by omega), show ((i : Int) + 1) = ((i + 1 : Nat) : Int) by omega]
      rfl
    · unfold spec_l13Matrix.l0
      simp only
      rw [cond_f (by omega)]
  unfold spec_l13Matrix.f
  simp only
  rw [hit]
  rfl
noncomputable def pubT (r s : List UInt8) : Nat → List UInt8
  | 0 => []
  | i + 1 => pubT r s i ++ pbQ (tK r s i)
noncomputable def secT (s : List UInt8) : Nat → List UInt8
  | 0 => []
  | i + 1 => secT s i ++ pbQ (scK s i)
theorem pubT_len (r s : List UInt8) : ∀ i, (pubT r s i).length = 384 * i
  | 0 => rfl
  | i + 1 => by rw [pubT, List.length_append, pubT_len r s i, pbQ_len]; omega
theorem secT_len (s : List UInt8) : ∀ i, (secT s i).length = 384 * i
  | 0 => rfl
  | i + 1 => by rw [secT, List.length_append, secT_len s i, pbQ_len]; omega
/-- what a pair's seed makes -/
noncomputable def pairI (l : List UInt8) : List UInt8 × List UInt8 :=
  let d := dig l
  let r := dig (d ++ [114])
  let s := dig (d ++ [115])
  let p := pubT r s 2 ++ r
  (p, secT s 2 ++ p ++ dig p ++ dig (d ++ [122]))
theorem impl_PairOf_ok {l : List UInt8} (hl : l.length = 32) : impl_PairOf.f (l, ()) = some (((((pairI l).1, ((pairI l).2, ())), (true, ())), ())) := by
  unfold impl_PairOf.f
  simp only
  rw [cond_nf (by omega), impl_DigestOf_ok (by omega), bnd_some]
  simp only
  have hd := dig_len l
  rw [cat_ok (by simp; omega), bnd_some, impl_DigestOf_ok (by simp; omega), bnd_some]
  simp only
  rw [cat_ok (by simp; omega), bnd_some, impl_DigestOf_ok (by simp; omega), bnd_some]
  simp only
  have hr := dig_len (dig l ++ [114])
  have hs := dig_len (dig l ++ [115])
  have hpair : pairI l = (pubT (dig (dig l ++ [114])) (dig (dig l ++ [115])) 2 ++ dig (dig l ++ [114]), secT (dig (dig l ++ [115])) 2 ++ (pubT (dig (dig l ++ [114])) (dig (dig l ++ [115])) 2 ++ dig (dig l ++ [114])) ++ dig (pubT (dig (dig l ++ [114])) (dig (dig l ++ [115])) 2 ++ dig (dig l ++ [114])) ++ dig (dig l ++ [122])) := rfl
  rw [hpair]
  generalize dig (dig l ++ [114]) = r at hr
  generalize dig (dig l ++ [115]) = s at hs
  have s0 := impl_smalls_ok (s := s) (b := 0) (by omega) (by omega)
  have s2 := impl_smalls_ok (s := s) (b := 2) (by omega) (by omega)
  have n0 := impl_ntts_ok (A := fun k => smK s (0 + k)) (fun k i => smI_R _ i)
  have n2 := impl_ntts_ok (A := fun k => smK s (2 + k)) (fun k i => smI_R _ i)
  simp only [Int.cast_ofNat_Int, Nat.zero_add] at s0 s2 n0 n2
  rw [s0, bnd_some]
  simp only
  rw [n0, bnd_some, s2, bnd_some]
  simp only
  rw [n2, bnd_some]
  simp only
  have hit : iter impl_PairOf.l9 (((), (dig l, (r, (tab 2 (fun k => tab 256 (ntI (smK s k) 7)), (tab 2 (fun k => tab 256 (ntI (smK s (2 + k)) 7)), ([], ([], (0, ())))))))), (([], ([], ())), ())) = some (.inl (((), (dig l, (r, (pubT r s 2, (secT s 2, ()))))), (([], ([], ())), ()))) := by
    refine iter_for' (fun i => (((), (dig l, (r, (tab 2 (fun k => tab 256 (ntI (smK s k) 7)), (tab 2 (fun k => tab 256 (ntI (smK s (2 + k)) 7)), (pubT r s i, (secT s i, ((i : Int), ())))))))), (([], ([], ())), ()))) 2 rfl ?_ ?_
    · intro i hi
      have lp := pubT_len r s i
      have ls := secT_len s i
      have hdot := impl_dot_ok (a := mtK r i) (b := fun k => ntI (smK s k) 7) (n := 2) (by omega) (mtK_R r i) (scK_R s)
      have hadd := impl_PolyAdd_ok (a := dotI (mtK r i) (fun k => ntI (smK s k) 7) 2) (b := ntI (smK s (2 + i)) 7) (dotI_R _ _ 2) (scK_R s (2 + i))
      unfold impl_PairOf.l9
      simp only
      rw [cond_t (by omega), impl_row_ok (by omega) (by omega), bnd_some]
      simp only
      rw [hdot, bnd_some, tab_geti (by omega) (by omega), bnd_some, show (i : Int).toNat = i by omega]
      simp only
      rw [hadd, bnd_some]
      simp only
      rw [impl_pbQ (A := addI (dotI (mtK r i) (fun k => ntI (smK s k) 7) 2) (ntI (smK s (2 + i)) 7)) (tK_R r s i), bnd_some]
      simp only
      rw [cat_ok (by rw [pbQ_len]; omega), bnd_some, tab_geti (by omega) (by omega), bnd_some, show (i : Int).toNat = i by omega]
      rw [impl_pbQ (A := ntI (smK s i) 7) (scK_R s i), bnd_some]
      simp only
      rw [cat_ok (by rw [pbQ_len]; omega), bnd_some, w64 (by omega) (by omega), show ((i : Int) + 1) = ((i + 1 : Nat) : Int) by omega]
      rfl
    · unfold impl_PairOf.l9
      simp only
      rw [cond_f (by omega)]
  rw [hit, bnd_some]
  simp only
  have lp := pubT_len r s 2
  have ls := secT_len s 2
  rw [cat_ok (by omega), bnd_some, cat_ok (by simp; omega), bnd_some, impl_DigestOf_ok (by simp; omega), bnd_some]
  simp only
  rw [cat_ok (by simp [dig_len]; omega), bnd_some, cat_ok (by simp; omega), bnd_some, impl_DigestOf_ok (by simp; omega), bnd_some]
  simp only
  rw [cat_ok (by simp [dig_len]; omega), bnd_some]
end Go.Vi

set_option autoImplicit false
set_option linter.unusedVariables false
set_option linter.unusedSimpArgs false
namespace Go.Vi
open Go
theorem spec_PairOf_ok {l : List UInt8} (hl : l.length = 32) : spec_PairOf.f (l, ()) = some (((((pairI l).1, ((pairI l).2, ())), (true, ())), ())) := by
  unfold spec_PairOf.f
  simp only
  rw [cond_nf (by omega), spec_DigestOf_ok (by omega), bnd_some]
  simp only
  have hd := dig_len l
  rw [cat_ok (by simp; omega), bnd_some, spec_DigestOf_ok (by simp; omega), bnd_some]
  simp only
  rw [cat_ok (by simp; omega), bnd_some, spec_DigestOf_ok (by simp; omega), bnd_some]
  simp only
  have hr := dig_len (dig l ++ [114])
  have hs := dig_len (dig l ++ [115])
  have hpair : pairI l = (pubT (dig (dig l ++ [114])) (dig (dig l ++ [115])) 2 ++ dig (dig l ++ [114]), secT (dig (dig l ++ [115])) 2 ++ (pubT (dig (dig l ++ [114])) (dig (dig l ++ [115])) 2 ++ dig (dig l ++ [114])) ++ dig (pubT (dig (dig l ++ [114])) (dig (dig l ++ [115])) 2 ++ dig (dig l ++ [114])) ++ dig (dig l ++ [122])) := rfl
  rw [hpair]
  generalize dig (dig l ++ [114]) = r at hr
  generalize dig (dig l ++ [115]) = s at hs
  rw [spec_matrix_ok (by omega), bnd_some]
  simp only
  have h6 : iter spec_PairOf.l6 (((), (dig l, (r, (s, (tab 4 (fun k => tab 256 (mtK r (k / 2) (k % 2))), ([], ([], ([], (0, ()))))))))), (([], ([], ())), ())) = some (.inl (((), (dig l, (r, (s, (tab 4 (fun k => tab 256 (mtK r (k / 2) (k % 2))), (tab 2 (fun k => tab 256 (scK s k)), ([], (secT s 2, ())))))))), (([], ([], ())), ()))) := by
    refine iter_for' (fun i => (((), (dig l, (r, (s, (tab 4 (fun k => tab 256 (mtK r (k / 2) (k % 2))), (tab i (fun k => tab 256 (scK s k)), ([], (secT s i, ((i : Int), ()))))))))), (([], ([], ())), ()))) 2 rfl ?_ ?_
    · intro i hi
      have ls := secT_len s i
      unfold spec_PairOf.l6
      simp only
      rw [cond_t (by omega), spec_Small_ok (by omega) (by omega), bnd_some]
      simp only
      rw [spec_Ntt_ok (fun k => smI_R _ k), bnd_some]
      simp only
      rw [app_ok (by rw [tab_len]; simp; omega), bnd_some, spec_pbQ (A := ntI (smI (shk (s ++ one i) 128)) 7) (scK_R s i), bnd_some]
      simp only
      rw [cat_ok (by rw [pbQ_len]; omega), bnd_some, w64 (by omega) (by omega), show ((i : Int) + 1) = ((i + 1 : Nat) : Int) by omega, ← tab_snoc i (fun k => tab 256 (scK s k))]
      rfl
    · unfold spec_PairOf.l6
      simp only
      rw [cond_f (by omega)]
  rw [h6, bnd_some]
  simp only
  have h16 : iter spec_PairOf.l16 (((), (dig l, (r, (s, (tab 4 (fun k => tab 256 (mtK r (k / 2) (k % 2))), (tab 2 (fun k => tab 256 (scK s k)), ([], (secT s 2, (0, ()))))))))), (([], ([], ())), ())) = some (.inl (((), (dig l, (r, (pubT r s 2, (secT s 2, ()))))), (([], ([], ())), ()))) := by
    refine iter_for' (fun i => (((), (dig l, (r, (s, (tab 4 (fun k => tab 256 (mtK r (k / 2) (k % 2))), (tab 2 (fun k => tab 256 (scK s k)), (pubT r s i, (secT s 2, ((i : Int), ()))))))))), (([], ([], ())), ()))) 2 rfl ?_ ?_
    · intro i hi
      have lp := pubT_len r s i
      have hdot := spec_l13Sum_ok (a := mtK r i) (b := scK s) (n := 2) (by omega) (mtK_R r i) (scK_R s)
      have hadd := spec_PolyAdd_ok (a := dotI (mtK r i) (scK s) 2) (b := ntI (smI (shk (s ++ one (2 + i)) 128)) 7) (dotI_R _ _ 2) (scK_R s (2 + i))
      have hslc : slc (tab 4 (fun k => tab 256 (mtK r (k / 2) (k % 2)))) (IntKind.wrap .i64 ((i : Int) * 2)) (IntKind.wrap .i64 ((IntKind.wrap .i64 ((i : Int) * 2)) + 2)) = some (tab 2 (fun j => tab 256 (mtK r i j))) := by
        rw [w64 (n := (i : Int) * 2) (by omega) (by omega), w64 (by omega) (by omega), slc_ok (by omega) (by omega) (by rw [tab_len]; omega), show ((i : Int) * 2 + 2).toNat = 2 * i + 2 by omega, show ((i : Int) * 2).toNat = 2 * i by omega, tab_slice (by omega)]
        refine congrArg some (tab_ext fun j hj => ?_)
        rw [show (2 * i + j) / 2 = i by omega, show (2 * i + j) % 2 = j by omega]
      unfold spec_PairOf.l16
      simp only
      rw [cond_t (by omega), hslc, bnd_some, hdot, bnd_some]
      simp only
      rw [w64 (n := 2 + (i : Int)) (by omega) (by omega), show 2 + (i : Int) = ((2 + i : Nat) : Int) by omega, spec_Small_ok (by omega) (by omega), bnd_some]
      simp only
      rw [spec_Ntt_ok (fun k => smI_R _ k), bnd_some]
      simp only
      rw [hadd, bnd_some]
      simp only
      rw [spec_pbQ (A := addI (dotI (mtK r i) (scK s) 2) (ntI (smI (shk (s ++ one (2 + i)) 128)) 7)) (tK_R r s i), bnd_some]
      simp only
      rw [cat_ok (by rw [pbQ_len]; omega), bnd_some, w64 (by omega) (by omega), show ((i : Int) + 1) = ((i + 1 : Nat) : Int) by omega]
      rfl
    · unfold spec_PairOf.l16
      simp only
      rw [cond_f (by omega)]
  rw [h16, bnd_some]
  simp only
  have lp := pubT_len r s 2
  have ls := secT_len s 2
  rw [cat_ok (by omega), bnd_some, cat_ok (by simp; omega), bnd_some, spec_DigestOf_ok (by simp; omega), bnd_some]
  simp only
  rw [cat_ok (by simp [dig_len]; omega), bnd_some, cat_ok (by simp; omega), bnd_some, spec_DigestOf_ok (by simp; omega), bnd_some]
  simp only
  rw [cat_ok (by simp [dig_len]; omega), bnd_some]
end Go.Vi

set_option autoImplicit false
set_option linter.unusedVariables false
set_option linter.unusedSimpArgs false
namespace Go.Vi
open Go
theorem in_i (x lo hi : Int) : impl_in.f (x, (lo, (hi, ()))) = some ((decide (lo ≤ x ∧ x ≤ hi), ()), ()) := by
  unfold impl_in.f
  simp only
  by_cases h : lo ≤ x
  · rw [cond_t h]; simp [h]
  · rw [cond_f h]; simp [h]
theorem in_s (x lo hi : Int) : spec_l01In.f (x, (lo, (hi, ()))) = some ((decide (lo ≤ x ∧ x ≤ hi), ()), ()) := by
  unfold spec_l01In.f
  simp only
  by_cases h : lo ≤ x
  · rw [cond_t h]; simp [h]
  · rw [cond_f h]; simp [h]
abbrev ThT := Int × (Int × (Bool × (Bool × (Bool × (Bool × ((List UInt8) × (Int × Unit)))))))
def thOk (x : ThT) : Bool :=
  decide (1 ≤ x.1 ∧ x.1 ≤ 1000) && decide (0 ≤ x.2.2.2.2.2.2.2.1 ∧ x.2.2.2.2.2.2.2.1 ≤ 16) && decide (1 ≤ x.2.1 ∧ x.2.1 ≤ 3) &&
    !(((!decide (x.2.1 = 2)) && ((!decide (x.2.2.2.2.2.2.2.1 = 0)) || x.2.2.2.2.1)) || ((!decide (x.2.1 = 1)) && x.2.2.2.2.2.1)) &&
    (if x.2.1 = 3 then decide ((x.2.2.2.2.2.2.1.length : Int) ≤ 100) else decide ((x.2.2.2.2.2.2.1.length : Int) = 32))
theorem impl_ThingOk_ok (x : ThT) : impl_ThingOk.f (x, ()) = some ((thOk x, ()), ()) := by
  obtain ⟨n, k, b1, b2, b3, b4, s, m, ⟨⟩⟩ := x
  unfold impl_ThingOk.f thOk
  simp only [in_i, bnd_some]
  generalize decide (1 ≤ n ∧ n ≤ 1000) = p1
  generalize decide (0 ≤ m ∧ m ≤ 16) = p3
  have hk : k = 1 ∨ k = 2 ∨ k = 3 ∨ ((¬ k = 1) ∧ (¬ k = 2) ∧ (¬ k = 3) ∧ ¬ (1 ≤ k ∧ k ≤ 3)) := by omega
  rcases hk with rfl | rfl | rfl | ⟨h1, h2, h3, h4⟩
  · cases p1 <;> cases p3 <;> (by_cases q4 : m = 0) <;> cases b3 <;> cases b4 <;> simp [q4]
  · cases p1 <;> cases p3 <;> (by_cases q4 : m = 0) <;> cases b3 <;> cases b4 <;> simp [q4]
  · cases p1 <;> cases p3 <;> (by_cases q4 : m = 0) <;> cases b3 <;> cases b4 <;> simp [q4]
  · cases p1 <;> cases p3 <;> (by_cases q4 : m = 0) <;> cases b3 <;> cases b4 <;> simp [h1, h2, h3, h4, q4]
theorem spec_ThingOk_ok (x : ThT) : spec_ThingOk.f (x, ()) = some ((thOk x, ()), ()) := by
  obtain ⟨n, k, b1, b2, b3, b4, s, m, ⟨⟩⟩ := x
  unfold spec_ThingOk.f thOk
  simp only [in_s, bnd_some]
  generalize decide (1 ≤ n ∧ n ≤ 1000) = p1
  generalize decide (0 ≤ m ∧ m ≤ 16) = p3
  have hk : k = 1 ∨ k = 2 ∨ k = 3 ∨ ((¬ k = 1) ∧ (¬ k = 2) ∧ (¬ k = 3) ∧ ¬ (1 ≤ k ∧ k ≤ 3)) := by omega
  rcases hk with rfl | rfl | rfl | ⟨h1, h2, h3, h4⟩
  · cases p1 <;> cases p3 <;> (by_cases q4 : m = 0) <;> cases b3 <;> cases b4 <;> simp [q4]
  · cases p1 <;> cases p3 <;> (by_cases q4 : m = 0) <;> cases b3 <;> cases b4 <;> simp [q4]
  · cases p1 <;> cases p3 <;> (by_cases q4 : m = 0) <;> cases b3 <;> cases b4 <;> simp [q4]
  · cases p1 <;> cases p3 <;> (by_cases q4 : m = 0) <;> cases b3 <;> cases b4 <;> simp [h1, h2, h3, h4, q4]
theorem thOk_len {x : ThT} (h : thOk x = true) (hk : x.2.1 = 1 ∨ x.2.1 = 2) : x.2.2.2.2.2.2.1.length = 32 := by
  unfold thOk at h
  have h5 := (Bool.and_eq_true _ _ ▸ h : _ ∧ _).2
  rw [if_neg (by omega)] at h5
  have := of_decide_eq_true h5
  omega
noncomputable def ppI (x : ThT) : List UInt8 :=
  if thOk x = true then (if x.2.1 = 1 then (pairI x.2.2.2.2.2.2.1).1 else if x.2.1 = 2 then hyp x.2.2.2.2.2.2.1 else []) else []
theorem impl_PublicPart_ok (x : ThT) : impl_PublicPart.f (x, ()) = some ((ppI x, ()), ()) := by
  unfold impl_PublicPart.f ppI
  simp only
  rw [impl_ThingOk_ok, bnd_some]
  simp only
  by_cases h : thOk x = true
  · rw [if_pos h, h]
    simp only [Bool.not_true, cond_false]
    by_cases h1 : x.2.1 = 1
    · rw [cond_t h1, if_pos h1, impl_PairOf_ok (thOk_len h (Or.inl h1)), bnd_some]
    · rw [cond_f h1, if_neg h1]
      by_cases h2 : x.2.1 = 2
      · rw [cond_t h2, if_pos h2, impl_HyperPublic_ok (by rw [thOk_len h (Or.inr h2)]; omega), bnd_some]
      · rw [cond_f h2, if_neg h2]
  · rw [if_neg h, Bool.eq_false_iff.2 h]
    rfl
theorem spec_PublicPart_ok (x : ThT) : spec_PublicPart.f (x, ()) = some ((ppI x, ()), ()) := by
  unfold spec_PublicPart.f ppI
  simp only
  rw [spec_ThingOk_ok, bnd_some]
  simp only
  by_cases h : thOk x = true
  · rw [if_pos h, h]
    simp only [Bool.not_true, cond_false]
    by_cases h1 : x.2.1 = 1
    · rw [cond_t h1, if_pos h1, spec_PairOf_ok (thOk_len h (Or.inl h1)), bnd_some]
    · rw [cond_f h1, if_neg h1]
      by_cases h2 : x.2.1 = 2
      · rw [cond_t h2, if_pos h2, spec_HyperPublic_ok (by rw [thOk_len h (Or.inr h2)]; omega), bnd_some]
      · rw [cond_f h2, if_neg h2]
  · rw [if_neg h, Bool.eq_false_iff.2 h]
    rfl
/-- the plain law of FnExactPublicPart -/
theorem publicPart_pure (x : ThT) : ∃ z, laws_FnExactPublicPart.f (x, ()) = some ((true, ()), z) := by
  unfold laws_FnExactPublicPart.f
  simp only
  obtain ⟨v, hv⟩ : ∃ v, laws_szThing.f (x, (1048576, ())) = some ((v, ()), ()) := by
    unfold laws_szThing.f
    simp only
    by_cases h : IntKind.wrap .i64 ((1048576 : Int) - (x.2.2.2.2.2.2.1.length : Int)) < 0
    · rw [cond_t h]; exact ⟨_, rfl⟩
    · rw [cond_f h]; exact ⟨_, rfl⟩
  have ht : laws_toThing.f (x, ()) = some ((x, ()), ()) := rfl
  rw [hv, bnd_some]
  simp only
  by_cases h : v < 0
  · rw [cond_t h]; exact ⟨_, rfl⟩
  · rw [cond_f h, ht, bnd_some]
    simp only
    rw [spec_PublicPart_ok, bnd_some, bnd_some]
    simp only
    rw [impl_PublicPart_ok, bnd_some]
    refine ⟨(), ?_⟩
    simp
end Go.Vi

