/- A part of the proof of publicPart_holds: Qm, Qn, Qo, Qp, Qq, Qr, Qs, Qt, Qu, Qv, Qw. No condition of its own. -/
import Derived.Test.YtfabcimcdnaoiaaGreatDoorA15
set_option autoImplicit false
set_option linter.unusedVariables false
set_option linter.unusedSimpArgs false
set_option maxRecDepth 100000
namespace Go.Vi
open Go
/-! ## The permutation -/
def rdI (num : Int) (a : Nat → Int) : Nat → Int := fun j => if j = 0 then x64 (chI (rpI (thI a)) 0) num else chI (rpI (thI a)) j
theorem rdI_R (num : Int) (a : Nat → Int) (i : Nat) : R64 (rdI num a i) := by
  unfold rdI
  split
  · exact ibits64 _ _ _
  · exact chI_R _ _
theorem rpI_R {a : Nat → Int} (ha : ∀ i, R64 (a i)) (j : Nat) : R64 (rpI a j) := by
  unfold rpI
  refine rotl_R ?_ (ha _)
  by_cases h : srcN j < 25
  · exact Nat.le_of_lt (turnN_lt ⟨_, h⟩)
  · have : turnN (srcN j) = 0 := by unfold turnN; rw [List.getD_eq_getElem?_getD, List.getElem?_eq_none (by simp; omega)]; rfl
    omega
def perI (a : Nat → Int) : Nat → Nat → Int
  | 0 => a
  | n + 1 => rdI (rlI n) (perI a n)
theorem perI_R {a : Nat → Int} (ha : ∀ i, R64 (a i)) : ∀ n i, R64 (perI a n i)
  | 0 => ha
  | n + 1 => rdI_R _ _
theorem permuted_ok {a : Nat → Int} (ha : ∀ i, R64 (a i)) : impl_permuted.f (tab 25 a, ()) = some ((tab 25 (perI a 24), ()), ()) := by
  have hit : iter impl_permuted.l0 (((), ((), (0, ()))), (tab 25 a, ((List.replicate 25 0), ()))) = some (.inl (((), ((), ())), (tab 25 (perI a 24), ((List.replicate 25 0), ())))) := by
    refine iter_for' (fun n => (((), ((), ((n : Int), ()))), (tab 25 (perI a n), ((List.replicate 25 0), ())))) 24 rfl ?_ ?_
    · intro n hn
      have hR := perI_R ha n
      simp only [perI]
      generalize perI a n = u at hR
      unfold impl_permuted.l0
      simp only
      rw [cond_t (by omega), theta_ok hR, bnd_some, rhoPi_ok (thI_R u), bnd_some, chi_ok (rpI_R (thI_R u)), bnd_some]
      simp only
      rw [inb_ok (by omega) (by omega), cond_true, show Int.toNat 0 = 0 from rfl, tab_get (by omega), bnd_some, roundLane_ok (by omega), bnd_some, cond_true, bnd_some, tab_set, w64 (by omega) (by omega), show ((n : Int) + 1) = ((n + 1 : Nat) : Int) by omega]
      rfl
    · unfold impl_permuted.l0
      simp only
      rw [cond_f (by omega)]
  unfold impl_permuted.f
  simp only
  rw [hit]
  rfl
/-! ### The reference's round -/
abbrev trn (i : Nat) : Int := ((turnN i : Nat) : Int)
theorem rd_l0 {a : Nat → Int} {T : List Int} {num : Int} : iter spec_l07Round.l0 ((tab 25 a, (T, (num, ((List.replicate 5 0), (0, ()))))), ()) = some (.inl ((tab 25 a, (T, (num, (tab 5 (cI a), ())))), ())) := by
  refine iter_for' (fun i => ((tab 25 a, (T, (num, (tab 5 (fun x => if x < i then cI a x else 0), ((i : Int), ()))))), ())) 5 ?_ ?_ ?_
  · have : tab 5 (fun x => if x < 0 then cI a x else 0) = List.replicate 5 0 := by rw [tab_rep]; simp
    rw [this]; rfl
  · intro i hi
    unfold spec_l07Round.l0
    simp only
    rw [cond_t (by omega), w64 (n := (i : Int) + 5) (by omega) (by omega), w64 (n := (i : Int) + 10) (by omega) (by omega), w64 (n := (i : Int) + 15) (by omega) (by omega), w64 (n := (i : Int) + 20) (by omega) (by omega), w64 (n := (i : Int) + 1) (by omega) (by omega)]
    rw [tab_geti (by omega) (by omega), bnd_some, tab_geti (by omega) (by omega), bnd_some, tab_geti (by omega) (by omega), bnd_some, tab_geti (by omega) (by omega), bnd_some, tab_geti (by omega) (by omega), bnd_some, tab_geti (by omega) (by omega), bnd_some]
    rw [show ((i : Int)).toNat = i by omega, show ((i : Int) + 5).toNat = i + 5 by omega, show ((i : Int) + 10).toNat = i + 10 by omega, show ((i : Int) + 15).toNat = i + 15 by omega, show ((i : Int) + 20).toNat = i + 20 by omega, tab_get (by omega), bnd_some, tab_set, show ((i : Int) + 1) = ((i + 1 : Nat) : Int) by omega]
    refine congrArg (fun L => some (Sum.inl ((_, (_, (_, (L, _)))), _))) (tab_ext ?_)
    intro x hx
    by_cases h : x = i
    · subst h; rw [if_pos rfl, if_pos (by omega)]; rfl
    · rw [if_neg h]
      by_cases h2 : x < i
      · rw [if_pos h2, if_pos (by omega)]
      · rw [if_neg h2, if_neg (by omega)]
  · unfold spec_l07Round.l0
    simp only
    rw [cond_f (by omega)]
    refine congrArg (fun L => some (Sum.inr (Sum.inl ((_, (_, (_, (L, _)))), _)))) (tab_ext ?_)
    intro x hx
    rw [if_pos hx]
def bpO (a : Nat → Int) : Nat → Nat → Int
  | 0 => fun _ => 0
  | k + 1 => fun j => if j = k % 5 + 5 * ((2 * (k / 5) + 3 * (k % 5)) % 5) then rotl (turnN (k / 5 + 5 * (k % 5))) (x64 (a (k / 5 + 5 * (k % 5))) (dI a (k / 5))) else bpO a k j
theorem bp_eq (a : Nat → Int) : tab 25 (bpO a 25) = tab 25 (rpI (thI a)) := by kernel_rfl
theorem rd_l19 {a : Nat → Int} {C : List Int} {num : Int} {x : Nat} (hx : x < 5) :
    iter spec_l07Round.l19 ((tab 25 a, (tab 25 trn, (num, (C, (tab 25 (bpO a (5 * x)), ((x : Int), (dI a x, (0, ())))))))), ()) =
      some (.inl ((tab 25 a, (tab 25 trn, (num, (C, (tab 25 (bpO a (5 * (x + 1))), ((x : Int), ())))))), ())) := by
  refine iter_for' (fun y => ((tab 25 a, (tab 25 trn, (num, (C, (tab 25 (bpO a (5 * x + y)), ((x : Int), (dI a x, ((y : Int), ())))))))), ())) 5 rfl ?_ ?_
  · intro y hy
    unfold spec_l07Round.l19
    simp only
    have m5 : Int.tmod (2 * (x : Int) + 3 * (y : Int)) 5 = (((2 * x + 3 * y) % 5 : Nat) : Int) := by rw [tmd (by omega)]; omega
    have hz : (2 * x + 3 * y) % 5 < 5 := Nat.mod_lt _ (by omega)
    have k1 : (5 * x + y) % 5 = y := by omega
    have k2 : (5 * x + y) / 5 = x := by omega
    have ht : turnN (x + 5 * y) < 64 := turnN_lt ⟨x + 5 * y, by omega⟩
    rw [cond_t (by omega), w64 (n := 5 * (y : Int)) (by omega) (by omega), w64 (n := (x : Int) + 5 * (y : Int)) (by omega) (by omega), w64 (n := 2 * (x : Int)) (by omega) (by omega), w64 (n := 3 * (y : Int)) (by omega) (by omega), w64 (n := 2 * (x : Int) + 3 * (y : Int)) (by omega) (by omega), m5]
    rw [tab_geti (by omega) (by omega), bnd_some, tab_geti (by omega) (by omega), bnd_some, show ((x : Int) + 5 * (y : Int)).toNat = x + 5 * y by omega, l07Left_ok ht (ibits64 _ _ _), bnd_some]
    rw [show 5 * x + (y + 1) = 5 * x + y + 1 by omega]
    simp only [bpO, k1, k2]
    generalize (2 * x + 3 * y) % 5 = z at hz
    rw [w64 (n := 5 * (z : Int)) (by omega) (by omega), w64 (n := (y : Int) + 5 * (z : Int)) (by omega) (by omega), tab_geti (by omega) (by omega), bnd_some, show ((y : Int) + 5 * (z : Int)).toNat = y + 5 * z by omega, tab_get (by omega), bnd_some, tab_set, w64 (by omega) (by omega), show ((y : Int) + 1) = ((y + 1 : Nat) : Int) by omega]
  · unfold spec_l07Round.l19
    simp only
    rw [cond_f (by omega)]
    rfl
theorem rd_l12 {a : Nat → Int} {num : Int} :
    iter spec_l07Round.l12 ((tab 25 a, (tab 25 trn, (num, (tab 5 (cI a), ((List.replicate 25 0), (0, ())))))), ()) = some (.inl ((num, (tab 25 (rpI (thI a)), ())), ())) := by
  refine iter_for' (fun x => ((tab 25 a, (tab 25 trn, (num, (tab 5 (cI a), (tab 25 (bpO a (5 * x)), ((x : Int), ())))))), ())) 5 ?_ ?_ ?_
  · have : tab 25 (bpO a (5 * 0)) = List.replicate 25 0 := by rw [tab_rep]; rfl
    rw [this]; rfl
  · intro x hx
    unfold spec_l07Round.l12
    simp only
    have m4 : Int.tmod ((x : Int) + 4) 5 = (((x + 4) % 5 : Nat) : Int) := by rw [tmd (by omega)]; omega
    have m1 : Int.tmod ((x : Int) + 1) 5 = (((x + 1) % 5 : Nat) : Int) := by rw [tmd (by omega)]; omega
    have z4 : (x + 4) % 5 < 5 := Nat.mod_lt _ (by omega)
    have z1 : (x + 1) % 5 < 5 := Nat.mod_lt _ (by omega)
    have r1 := l07Left_ok (n := 1) (by omega) (cI_R a ((x + 1) % 5))
    simp only [Int.cast_ofNat_Int] at r1
    have hd : dI a x = ibits .xor .u64 (cI a ((x + 4) % 5)) (rotl 1 (cI a ((x + 1) % 5))) := rfl
    rw [cond_t (by omega), w64 (n := (x : Int) + 4) (by omega) (by omega), w64 (n := (x : Int) + 1) (by omega) (by omega), m4, m1, tab_geti (by omega) (by omega), bnd_some, show (((x + 4) % 5 : Nat) : Int).toNat = (x + 4) % 5 by omega, tab_get (by omega), bnd_some, tab_geti (by omega) (by omega), bnd_some, show (((x + 1) % 5 : Nat) : Int).toNat = (x + 1) % 5 by omega, tab_get (by omega), bnd_some]
    rw [show Go.Vi.spec_l07Left.f (cI a ((x + 1) % 5), (1, ())) = _ from r1, bnd_some]
    simp only
    rw [← hd, rd_l19 hx]
    simp only [bnd_some]
    rw [w64 (by omega) (by omega), show ((x : Int) + 1) = ((x + 1 : Nat) : Int) by omega]
  · unfold spec_l07Round.l12
    simp only
    rw [cond_f (by omega), show 5 * 5 = 25 from rfl, bp_eq]
def chD (b : Nat → Int) (x y : Nat) : Nat → Int := fun j => if j % 5 < x ∨ (j % 5 = x ∧ j / 5 < y) then chI b j else 0
theorem rd_l34 {b : Nat → Int} {num : Int} {x : Nat} (hx : x < 5) :
    iter spec_l07Round.l34 ((num, (tab 25 b, (tab 25 (chD b x 0), ((x : Int), (0, ()))))), ()) = some (.inl ((num, (tab 25 b, (tab 25 (chD b (x + 1) 0), ((x : Int), ())))), ())) := by
  refine iter_for' (fun y => ((num, (tab 25 b, (tab 25 (chD b x y), ((x : Int), ((y : Int), ()))))), ())) 5 rfl ?_ ?_
  · intro y hy
    unfold spec_l07Round.l34
    simp only
    have m1 : Int.tmod ((x : Int) + 1) 5 = (((x + 1) % 5 : Nat) : Int) := by rw [tmd (by omega)]; omega
    have m2 : Int.tmod ((x : Int) + 2) 5 = (((x + 2) % 5 : Nat) : Int) := by rw [tmd (by omega)]; omega
    have z1 : (x + 1) % 5 < 5 := Nat.mod_lt _ (by omega)
    have z2 : (x + 2) % 5 < 5 := Nat.mod_lt _ (by omega)
    rw [cond_t (by omega), w64 (n := 5 * (y : Int)) (by omega) (by omega), w64 (n := (x : Int) + 5 * (y : Int)) (by omega) (by omega), w64 (n := (x : Int) + 1) (by omega) (by omega), w64 (n := (x : Int) + 2) (by omega) (by omega), m1, m2]
    have k : chI b (x + 5 * y) = x64 (b (x + 5 * y)) (ibits .and .u64 (IntKind.wrap .u64 (18446744073709551615 - b ((x + 1) % 5 + 5 * y))) (b ((x + 2) % 5 + 5 * y))) := by
      unfold chI
      rw [show (x + 5 * y) % 5 = x by omega, show (x + 5 * y) / 5 = y by omega]
    generalize (x + 1) % 5 = u at z1 k
    generalize (x + 2) % 5 = v at z2 k
    rw [w64 (n := (u : Int) + 5 * (y : Int)) (by omega) (by omega), w64 (n := (v : Int) + 5 * (y : Int)) (by omega) (by omega), show ((x : Int) + 5 * (y : Int)).toNat = x + 5 * y by omega, show ((u : Int) + 5 * (y : Int)).toNat = u + 5 * y by omega, show ((v : Int) + 5 * (y : Int)).toNat = v + 5 * y by omega]
    have g : ∀ (W : Nat → Int) (n m : Nat), n < 5 → m = n + 5 * y → geti (tab 25 W) ((n : Int) + 5 * (y : Int)) = some (W m) := fun W n m h1 h2 => by
      rw [tab_geti (by omega) (by omega), show ((n : Int) + 5 * (y : Int)).toNat = m by omega]
    rw [g _ x _ hx rfl, bnd_some, tab_get (by omega), bnd_some, g _ u _ z1 rfl, bnd_some, tab_get (by omega), bnd_some, g _ v _ z2 rfl, bnd_some, tab_get (by omega), bnd_some, g _ x _ hx rfl, bnd_some, tab_get (by omega), bnd_some, tab_set, w64 (by omega) (by omega), show ((y : Int) + 1) = ((y + 1 : Nat) : Int) by omega]
    refine congrArg (fun L => some (Sum.inl ((_, (_, (L, _))), _))) (tab_ext ?_)
    intro j hj
    simp only [chD]
    by_cases h : j = x + 5 * y
    · subst h
      rw [if_pos rfl, if_pos (by omega), k]
    · rw [if_neg h]
      by_cases h2 : j % 5 < x ∨ (j % 5 = x ∧ j / 5 < y)
      · rw [if_pos h2, if_pos (by omega)]
      · rw [if_neg h2, if_neg (by omega)]
  · unfold spec_l07Round.l34
    simp only
    rw [cond_f (by omega)]
    refine congrArg (fun L => some (Sum.inr (Sum.inl ((_, (_, (L, _))), _)))) (tab_ext ?_)
    intro j hj
    simp only [chD]
    by_cases h2 : j % 5 < x ∨ (j % 5 = x ∧ j / 5 < 5)
    · rw [if_pos h2, if_pos (by omega)]
    · rw [if_neg h2, if_neg (by omega)]
theorem rd_l32 {b : Nat → Int} {num : Int} : iter spec_l07Round.l32 ((num, (tab 25 b, ((List.replicate 25 0), (0, ())))), ()) = some (.inl ((num, (tab 25 (chI b), ())), ())) := by
  refine iter_for' (fun x => ((num, (tab 25 b, (tab 25 (chD b x 0), ((x : Int), ())))), ())) 5 ?_ ?_ ?_
  · have : tab 25 (chD b 0 0) = List.replicate 25 0 := by rw [tab_rep]; exact tab_ext fun j _ => by simp [chD]
    rw [this]; rfl
  · intro x hx
    unfold spec_l07Round.l32
    simp only
    rw [cond_t (by omega), rd_l34 hx]
    simp only [bnd_some]
    rw [w64 (by omega) (by omega), show ((x : Int) + 1) = ((x + 1 : Nat) : Int) by omega]
  · unfold spec_l07Round.l32
    simp only
    rw [cond_f (by omega)]
    refine congrArg (fun L => some (Sum.inr (Sum.inl ((_, (L, _)), _)))) (tab_ext ?_)
    intro j hj
    simp only [chD]
    rw [if_pos (by omega)]
theorem l07Round_ok {a : Nat → Int} {num : Int} : spec_l07Round.f (tab 25 a, (tab 25 trn, (num, ()))) = some ((tab 25 (rdI num a), ()), ()) := by
  unfold spec_l07Round.f
  simp only
  rw [show Int.toNat 5 = 5 from rfl, show Int.toNat 25 = 25 from rfl, show Int.toNat 0 = 0 from rfl, rd_l0]
  simp only [bnd_some]
  rw [rd_l12]
  simp only [bnd_some]
  rw [rd_l32]
  simp only [bnd_some]
  rw [tab_geti (by omega) (by omega), bnd_some, tab_get (by omega), bnd_some, bnd_some, bnd_some, tab_set]
  rfl
theorem l07Permute_ok {a : Nat → Int} : spec_l07Permute.f (tab 25 a, ()) = some ((tab 25 (perI a 24), ()), ()) := by
  have hit : iter spec_l07Permute.l2 ((tab 25 a, (tab 25 trn, (tab 24 rlI, (0, ())))), ()) = some (.inl ((tab 25 (perI a 24), ()), ())) := by
    refine iter_for' (fun n => ((tab 25 (perI a n), (tab 25 trn, (tab 24 rlI, ((n : Int), ())))), ())) 24 rfl ?_ ?_
    · intro n hn
      unfold spec_l07Permute.l2
      simp only
      rw [cond_t (by omega), tab_geti (by omega) (by omega), bnd_some, l07Round_ok, bnd_some, show ((n : Int)).toNat = n by omega, w64 (by omega) (by omega), show ((n : Int) + 1) = ((n + 1 : Nat) : Int) by omega]
      rfl
    · unfold spec_l07Permute.l2
      simp only
      rw [cond_f (by omega)]
  unfold spec_l07Permute.f
  simp only
  rw [l07Turns_ok, bnd_some, l07Rounds_ok, bnd_some]
  simp only
  rw [hit]
  rfl
end Go.Vi

set_option autoImplicit false
set_option linter.unusedVariables false
set_option linter.unusedSimpArgs false
namespace Go.Vi
open Go
/-! ## Lanes of bytes, bytes of lanes -/
def plf (f : Nat → Nat) (j : Nat) : Nat → Nat
  | 0 => 0
  | m + 1 => plf f j m + f (8 * j + m) * 256 ^ m
theorem pl_plf (b : List UInt8) (j : Nat) : ∀ m, pl b j m = plf (byn b) j m
  | 0 => rfl
  | m + 1 => by simp only [pl, plf, pl_plf b j m]
theorem plf_congr {f g : Nat → Nat} {j : Nat} : ∀ m, (∀ k, k < m → f (8 * j + k) = g (8 * j + k)) → plf f j m = plf g j m
  | 0, _ => rfl
  | m + 1, h => by simp only [plf]; rw [plf_congr m fun k hk => h k (by omega), h m (by omega)]
theorem plf_lt {f : Nat → Nat} (hf : ∀ i, f i < 256) (j : Nat) : ∀ m, plf f j m < 256 ^ m
  | 0 => by simp [plf]
  | m + 1 => by
    have h := plf_lt hf j m
    have h2 := hf (8 * j + m)
    simp only [plf]
    have h3 : f (8 * j + m) * 256 ^ m ≤ 255 * 256 ^ m := Nat.mul_le_mul_right _ (by omega)
    rw [Nat.pow_succ]
    omega
theorem plf_mod {f : Nat → Nat} {j A : Nat} : ∀ m, (∀ k, k < m → f (8 * j + k) = A / 256 ^ k % 256) → plf f j m = A % 256 ^ m
  | 0, _ => by simp [plf, Nat.mod_one]
  | m + 1, h => by
    simp only [plf]
    rw [plf_mod m fun k hk => h k (by omega), h m (by omega), Nat.pow_succ, Nat.mod_mul, Nat.mul_comm (256 ^ m)]
theorem xor_add {m p q a b : Nat} (hp : p < 2 ^ m) (hq : q < 2 ^ m) : (p + a * 2 ^ m) ^^^ (q + b * 2 ^ m) = (p ^^^ q) + (a ^^^ b) * 2 ^ m := by
  have h := Nat.xor_lt_two_pow hp hq
  apply Nat.eq_of_testBit_eq
  intro i
  rw [Nat.testBit_xor, Nat.add_comm p, Nat.add_comm q, Nat.add_comm (p ^^^ q), Nat.mul_comm a, Nat.mul_comm b, Nat.mul_comm (a ^^^ b)]
  rw [Nat.testBit_two_pow_mul_add a hp, Nat.testBit_two_pow_mul_add b hq, Nat.testBit_two_pow_mul_add (a ^^^ b) h]
  split <;> rw [Nat.testBit_xor]
theorem plf_xor {f g : Nat → Nat} (hf : ∀ i, f i < 256) (hg : ∀ i, g i < 256) (j : Nat) : ∀ m, plf (fun i => f i ^^^ g i) j m = plf f j m ^^^ plf g j m
  | 0 => by simp [plf]
  | m + 1 => by
    have e : 256 ^ m = 2 ^ (8 * m) := by rw [show (256 : Nat) = 2 ^ 8 from rfl, ← Nat.pow_mul]
    have h1 := plf_lt hf j m
    have h2 := plf_lt hg j m
    simp only [plf, plf_xor hf hg j m]
    rw [e] at h1 h2 ⊢
    rw [xor_add h1 h2]
theorem byn_ofBytes {n : Nat} {F : Nat → Int} (hF : ∀ i, 0 ≤ F i ∧ F i < 256) {i : Nat} (h : i < n) : byn (ofBytes (tab n F)) i = (F i).toNat := by
  have h1 := (hF i).1; have h2 := (hF i).2
  unfold byn ofBytes
  rw [List.getD_eq_getElem?_getD, List.getElem?_map, tab_get h]
  simp
  omega
/-- the lane that bytes of a lane make -/
theorem lane_back {a : Nat → Int} (ha : ∀ i, R64 (a i)) {j : Nat} (h : j < 25) : laneI (ofBytes (tab 200 (lbI a))) j = a j := by
  obtain ⟨A, hA⟩ := Int.eq_ofNat_of_zero_le (ha j).1
  have hA2 : A < 18446744073709551616 := by have := (ha j).2; omega
  unfold laneI
  rw [pl_plf, plf_mod (A := A) 8 fun k hk => by
    rw [byn_ofBytes (lbI_R a) (by omega)]
    unfold lbI
    rw [show (8 * j + k) / 8 = j by omega, show (8 * j + k) % 8 = k by omega, hA, ← Int.natCast_ediv]
    generalize A / 256 ^ k = q
    omega, Nat.mod_eq_of_lt (by omega), hA]
theorem ixor8 {a b : Nat} (ha : a < 256) (hb : b < 256) : ibits .xor .u8 a b = ((a ^^^ b : Nat) : Int) := by
  show IntKind.wrap .u8 ((BitVec.ofInt 8 (a : Int) ^^^ BitVec.ofInt 8 (b : Int)).toNat : Nat) = _
  have e : ∀ c : Nat, c < 256 → (BitVec.ofInt 8 (c : Int)).toNat = c := fun c hc => by rw [BitVec.ofInt_natCast]; simp; omega
  rw [BitVec.toNat_xor, e a ha, e b hb]
  have : a ^^^ b < 2 ^ 8 := Nat.xor_lt_two_pow (by omega) (by omega)
  exact w8i (by omega) (by omega)
theorem ibits8 (op : BinOp) (a b : Int) : 0 ≤ ibits op .u8 a b ∧ ibits op .u8 a b < 256 := by
  have key : ∀ n : Int, 0 ≤ IntKind.wrap .u8 n ∧ IntKind.wrap .u8 n < 256 := by intro n; rw [w8]; constructor <;> omega
  unfold ibits
  split <;> exact key _
/-- bytes, mixed -/
def mixI (a : Nat → Int) (B : Nat → Int) (i : Nat) : Int := if i < 168 then ibits .xor .u8 (lbI a i) (B i) else lbI a i
theorem mixI_R (a : Nat → Int) (B : Nat → Int) (i : Nat) : 0 ≤ mixI a B i ∧ mixI a B i < 256 := by
  unfold mixI
  split
  · exact ibits8 _ _ _
  · exact lbI_R a i
/-- lanes, mixed -/
def mixL (a : Nat → Int) (l : Nat → Int) (j : Nat) : Int := if j < 21 then x64 (a j) (l j) else a j
theorem mixL_R {a : Nat → Int} (ha : ∀ i, R64 (a i)) (l : Nat → Int) (j : Nat) : R64 (mixL a l j) := by
  unfold mixL
  split
  · exact ibits64 _ _ _
  · exact ha j
theorem mix_ok {a : Nat → Int} (ha : ∀ i, R64 (a i)) {B : Nat → Int} (hB : ∀ i, 0 ≤ B i ∧ B i < 256) {j : Nat} (h : j < 25) : laneI (ofBytes (tab 200 (mixI a B))) j = mixL a (laneI (ofBytes (tab 168 B))) j := by
  obtain ⟨A, hA⟩ := Int.eq_ofNat_of_zero_le (ha j).1
  have hA2 : A < 18446744073709551616 := by have := (ha j).2; omega
  have hlb : ∀ k, k < 8 → lbI a (8 * j + k) = ((A / 256 ^ k % 256 : Nat) : Int) := fun k hk => by
    unfold lbI
    rw [show (8 * j + k) / 8 = j by omega, show (8 * j + k) % 8 = k by omega, hA, ← Int.natCast_ediv]
    generalize A / 256 ^ k = q
    omega
  by_cases h21 : j < 21
  · unfold mixL
    rw [if_pos h21]
    have e1 : laneI (ofBytes (tab 200 (mixI a B))) j = ((plf (fun i => (A / 256 ^ (i - 8 * j) % 256) ^^^ byn (ofBytes (tab 168 B)) i) j 8 : Nat) : Int) := by
      unfold laneI
      rw [pl_plf, plf_congr 8 fun k hk => ?_]
      rw [byn_ofBytes (mixI_R a B) (by omega), byn_ofBytes hB (by omega)]
      have h1 := (hB (8 * j + k)).1; have h2 := (hB (8 * j + k)).2
      obtain ⟨c, hc⟩ := Int.eq_ofNat_of_zero_le h1
      unfold mixI
      rw [if_pos (by omega), hlb k hk, hc, show 8 * j + k - 8 * j = k by omega, ixor8 (Nat.mod_lt _ (by omega)) (by omega)]
      simp
    rw [e1, plf_xor (fun i => Nat.mod_lt _ (by omega)) (byn_lt _), plf_mod (A := A) 8 fun k hk => by rw [show 8 * j + k - 8 * j = k by omega], Nat.mod_eq_of_lt (by omega), hA]
    unfold laneI
    rw [pl_plf, x64, ixor64 (by omega) (by have := plf_lt (byn_lt (ofBytes (tab 168 B))) j 8; omega)]
  · unfold mixL
    rw [if_neg h21]
    unfold laneI
    rw [pl_plf, plf_mod (A := A) 8 fun k hk => ?_]
    · rw [Nat.mod_eq_of_lt (by omega), hA]
    · rw [byn_ofBytes (mixI_R a B) (by omega)]
      unfold mixI
      rw [if_neg (by omega), hlb k hk]
      omega
/-! ## What the permutation reads -/
theorem srcN_lt : ∀ j : _root_.Fin 25, srcN j.val < 25 := by decide
theorem rdI_congr {a b : Nat → Int} {num : Int} (h : ∀ j, j < 25 → a j = b j) : ∀ j, j < 25 → rdI num a j = rdI num b j := by
  have hc : ∀ x, x < 5 → cI a x = cI b x := fun x hx => by unfold cI; rw [h x (by omega), h (x + 5) (by omega), h (x + 10) (by omega), h (x + 15) (by omega), h (x + 20) (by omega)]
  have hd : ∀ x, dI a x = dI b x := fun x => by unfold dI; rw [hc _ (Nat.mod_lt _ (by omega)), hc _ (Nat.mod_lt _ (by omega))]
  have ht : ∀ j, j < 25 → thI a j = thI b j := fun j hj => by unfold thI; rw [h j hj, hd]
  have hr : ∀ j, j < 25 → rpI (thI a) j = rpI (thI b) j := fun j hj => by unfold rpI; rw [ht _ (srcN_lt ⟨j, hj⟩)]
  have hx : ∀ j, j < 25 → chI (rpI (thI a)) j = chI (rpI (thI b)) j := fun j hj => by
    unfold chI
    have m1 : (j % 5 + 1) % 5 < 5 := Nat.mod_lt _ (by omega)
    have m2 : (j % 5 + 2) % 5 < 5 := Nat.mod_lt _ (by omega)
    rw [hr j hj, hr _ (by omega), hr _ (by omega)]
  intro j hj
  unfold rdI
  rw [hx 0 (by omega), hx j hj]
theorem perI_congr {a b : Nat → Int} (h : ∀ j, j < 25 → a j = b j) : ∀ n j, j < 25 → perI a n j = perI b n j
  | 0 => h
  | n + 1 => rdI_congr (perI_congr h n)
theorem lbI_congr {a b : Nat → Int} (h : ∀ j, j < 25 → a j = b j) : tab 200 (lbI a) = tab 200 (lbI b) := tab_ext fun i hi => by unfold lbI; rw [h _ (by omega)]
/-! ## Permute -/
def pmB (b : List UInt8) : List UInt8 := ofBytes (tab 200 (lbI (perI (laneI b) 24)))
theorem pmB_len (b : List UInt8) : (pmB b).length = 200 := by simp [pmB, ofBytes_len, tab_len]
theorem impl_Permute_ok {b : List UInt8} (h : b.length = 200) : impl_Permute.f (b, ()) = some ((pmB b, ()), ()) := by
  unfold impl_Permute.f
  simp only
  rw [cond_nf (by omega), lanesOf_ok h, bnd_some, permuted_ok (laneI_R b), bnd_some, lanes_text_ok (perI_R (laneI_R b) 24), bnd_some]
  rfl
theorem spec_Permute_ok {b : List UInt8} (h : b.length = 200) : spec_Permute.f (b, ()) = some ((pmB b, ()), ()) := by
  unfold spec_Permute.f
  simp only
  rw [cond_nf (by omega), l07Lanes_ok (n := 25) (by omega) (by omega), bnd_some, l07Permute_ok, bnd_some, l07Bytes_ok (perI_R (laneI_R b) 24) (by omega), bnd_some]
  rfl
end Go.Vi

set_option autoImplicit false
set_option linter.unusedVariables false
set_option linter.unusedSimpArgs false
namespace Go.Vi
open Go
/-! ## A stream's beginning -/
theorem toBytes_ofBytes {n : Nat} {F : Nat → Int} (hF : ∀ i, 0 ≤ F i ∧ F i < 256) : toBytes (ofBytes (tab n F)) = tab n F := by
  unfold toBytes ofBytes tab
  rw [List.map_map, List.map_map]
  apply List.map_congr_left
  intro i _
  exact u8_back (hF i).1 (hF i).2
def padT (s : List UInt8) : List Int := toBytes s ++ [31] ++ List.replicate (167 - s.length % 168) 0
theorem padT_len (s : List UInt8) : (padT s).length = 168 * (s.length / 168 + 1) := by simp [padT, toBytes_len]; omega
theorem padT_R (s : List UInt8) (i : Nat) : 0 ≤ (padT s).getD i 0 ∧ (padT s).getD i 0 < 256 := by
  have key : ∀ x ∈ padT s, 0 ≤ x ∧ x < 256 := by
    intro x hx
    simp only [padT, List.mem_append, List.mem_singleton, toBytes, List.mem_map, List.mem_replicate] at hx
    rcases hx with (⟨c, _, rfl⟩ | rfl) | ⟨_, rfl⟩
    · have := c.toNat_lt; omega
    · omega
    · omega
  rw [List.getD_eq_getElem?_getD]
  by_cases h : i < (padT s).length
  · rw [List.getElem?_eq_getElem h]; exact key _ (List.getElem_mem h)
  · rw [List.getElem?_eq_none (by omega)]; simp
def padF (s : List UInt8) (i : Nat) : Int := if i = (padT s).length - 1 then ibits .xor .u8 ((padT s).getD i 0) 128 else (padT s).getD i 0
theorem padF_R (s : List UInt8) (i : Nat) : 0 ≤ padF s i ∧ padF s i < 256 := by
  unfold padF
  split
  · exact ibits8 _ _ _
  · exact padT_R s i
theorem tab_ofI (l : List Int) : l = tab l.length fun i => l.getD i 0 := tab_of l
theorem padP (s : List UInt8) : (padT s).set ((padT s).length - 1) (ibits .xor .u8 ((padT s).getD ((padT s).length - 1) 0) 128) = tab (168 * (s.length / 168 + 1)) (padF s) := by
  have e : ∀ v, (padT s).set ((padT s).length - 1) v = tab (padT s).length (fun k => if k = (padT s).length - 1 then v else (padT s).getD k 0) := fun v => by
    conv => lhs; rw [tab_ofI (padT s)]
    rw [tab_len, tab_set]
  rw [e, padT_len]
  apply tab_ext
  intro i hi
  unfold padF
  rw [padT_len]
  split
  · rename_i h; rw [h]
  · rfl
theorem imp_l1 {s : List UInt8} (h : s.length ≤ 1000000000) : iter impl_absorbed.l1 ((168, ((toBytes s ++ [31]), ())), ()) = some (.inl ((168, (padT s, ())), ())) := by
  refine iter_for' (fun k => ((168, ((toBytes s ++ [31] ++ List.replicate k 0), ())), ())) (167 - s.length % 168) ?_ ?_ ?_
  · simp
  · intro k hk
    unfold impl_absorbed.l1
    simp only
    have hl : (toBytes s ++ [31] ++ List.replicate k (0 : Int)).length = s.length + 1 + k := by simp [toBytes_len]; omega
    rw [cond_f (by omega), hl, tmd (by omega), cond_nt (by omega), app_ok (by rw [hl]; simp; omega), bnd_some, List.append_assoc, ← List.replicate_succ']
  · unfold impl_absorbed.l1
    simp only
    have hl : (toBytes s ++ [31] ++ List.replicate (167 - s.length % 168) (0 : Int)).length = s.length + 1 + (167 - s.length % 168) := by simp [toBytes_len]; omega
    rw [cond_f (by omega), hl, tmd (by omega), cond_nf (by omega)]
    rfl
theorem spc_l1 {s : List UInt8} {Z : List Int} (h : s.length ≤ 1000000000) : iter spec_l07Absorb.l1 ((168, (Z, ((toBytes s ++ [31]), ()))), ()) = some (.inl ((168, (Z, (padT s, ()))), ())) := by
  refine iter_for' (fun k => ((168, (Z, ((toBytes s ++ [31] ++ List.replicate k 0), ()))), ())) (167 - s.length % 168) ?_ ?_ ?_
  · simp
  · intro k hk
    unfold spec_l07Absorb.l1
    simp only
    have hl : (toBytes s ++ [31] ++ List.replicate k (0 : Int)).length = s.length + 1 + k := by simp [toBytes_len]; omega
    rw [cond_f (by omega), hl, tmd (by omega), cond_nt (by omega), app_ok (by rw [hl]; simp; omega), bnd_some, List.append_assoc, ← List.replicate_succ']
  · unfold spec_l07Absorb.l1
    simp only
    have hl : (toBytes s ++ [31] ++ List.replicate (167 - s.length % 168) (0 : Int)).length = s.length + 1 + (167 - s.length % 168) := by simp [toBytes_len]; omega
    rw [cond_f (by omega), hl, tmd (by omega), cond_nf (by omega)]
    rfl
def blkI (B : Nat → Int) (n : Nat) : List UInt8 := ofBytes (tab 168 (fun i => B (168 * n + i)))
def abI (B : Nat → Int) : Nat → Nat → Int
  | 0 => fun _ => 0
  | n + 1 => perI (mixL (abI B n) (laneI (blkI B n))) 24
theorem abI_R (B : Nat → Int) : ∀ n i, R64 (abI B n i)
  | 0 => fun _ => by unfold abI; constructor <;> omega
  | n + 1 => perI_R (mixL_R (abI_R B n) _) 24
theorem imp_l13 {B : Nat → Int} {N n : Nat} {a : Nat → Int} (hN : 168 * n + 168 ≤ N) (hN2 : N ≤ 2000000000) :
    iter impl_absorbed.l13 ((168, (tab N B, (tab 200 (lbI a), (((168 * n : Nat) : Int), (168, (0, ())))))), ()) = some (.inl ((168, (tab N B, (tab 200 (mixI a (fun i => B (168 * n + i))), (((168 * n : Nat) : Int), ())))), ())) := by
  refine iter_for' (fun i => ((168, (tab N B, (tab 200 (fun j => if j < i then ibits .xor .u8 (lbI a j) (B (168 * n + j)) else lbI a j), (((168 * n : Nat) : Int), (168, ((i : Int), ())))))), ())) 168 ?_ ?_ ?_
  · have : tab 200 (fun j => if j < 0 then ibits .xor .u8 (lbI a j) (B (168 * n + j)) else lbI a j) = tab 200 (lbI a) := tab_ext fun j _ => by simp
    rw [this]; rfl
  · intro i hi
    unfold impl_absorbed.l13
    simp only
    have e : ((168 * n : Nat) : Int) + (i : Int) = ((168 * n + i : Nat) : Int) := by omega
    rw [cond_t (by omega), e, w64 (n := ((168 * n + i : Nat) : Int)) (by omega) (by omega), w64 (by omega) (by omega)]
    rw [tab_geti (by omega) (by omega), bnd_some, show ((i : Int)).toNat = i by omega, tab_get (by omega), bnd_some, tab_geti (by omega) (by omega), bnd_some, show ((168 * n + i : Nat) : Int).toNat = 168 * n + i by omega, tab_get (by omega), bnd_some, bnd_some, bnd_some, tab_set, if_neg (show ¬ i < i by omega), show ((i : Int) + 1) = ((i + 1 : Nat) : Int) by omega]
    refine congrArg (fun L => some (Sum.inl ((_, (_, (L, _))), _))) (tab_ext ?_)
    intro j hj
    by_cases h : j = i
    · subst h; rw [if_pos rfl, if_pos (by omega)]
    · rw [if_neg h]
      by_cases h2 : j < i
      · rw [if_pos h2, if_pos (by omega)]
      · rw [if_neg h2, if_neg (by omega)]
  · unfold impl_absorbed.l13
    simp only
    rw [cond_f (by omega)]
    rfl
theorem imp_l11 {B : Nat → Int} (hB : ∀ i, 0 ≤ B i ∧ B i < 256) {m : Nat} (hm : m ≤ 10000000) :
    iter impl_absorbed.l11 ((168, (tab (168 * m) B, ((List.replicate 200 0), (0, ())))), ()) = some (.inl ((tab 200 (lbI (abI B m)), ()), ())) := by
  refine iter_for' (fun n => ((168, (tab (168 * m) B, (tab 200 (lbI (abI B n)), (((168 * n : Nat) : Int), ())))), ())) m ?_ ?_ ?_
  · have : tab 200 (lbI (abI B 0)) = List.replicate 200 0 := by rw [tab_rep]; exact tab_ext fun j _ => by simp [lbI, abI]
    rw [this]; rfl
  · intro n hn
    unfold impl_absorbed.l11
    simp only
    rw [cond_t (by rw [tab_len]; omega), imp_l13 (by omega) (by omega)]
    simp only [bnd_some]
    have hR := abI_R B n
    rw [impl_Permute_ok (by rw [ofBytes_len, tab_len]), bnd_some, w64 (by omega) (by omega), show ((168 * n : Nat) : Int) + 168 = ((168 * (n + 1) : Nat) : Int) by omega]
    have e : toBytes (pmB (ofBytes (tab 200 (mixI (abI B n) fun i => B (168 * n + i))))) = tab 200 (lbI (abI B (n + 1))) := by
      unfold pmB
      rw [toBytes_ofBytes (lbI_R _)]
      exact lbI_congr (perI_congr (fun j hj => mix_ok hR (fun i => hB (168 * n + i)) hj) 24)
    simp only [e]
  · unfold impl_absorbed.l11
    simp only
    rw [cond_f (by rw [tab_len]; omega)]
theorem spc_l15 {B : List Int} {a l : Nat → Int} {at_ : Int} :
    iter spec_l07Absorb.l15 ((168, (tab 25 a, (B, (at_, (tab 21 l, (0, ())))))), ()) = some (.inl ((168, (tab 25 (mixL a l), (B, (at_, ())))), ())) := by
  refine iter_for' (fun i => ((168, (tab 25 (fun j => if j < i then x64 (a j) (l j) else a j), (B, (at_, (tab 21 l, ((i : Int), ())))))), ())) 21 ?_ ?_ ?_
  · have : tab 25 (fun j => if j < 0 then x64 (a j) (l j) else a j) = tab 25 a := tab_ext fun j _ => by simp
    rw [this]; rfl
  · intro i hi
    unfold spec_l07Absorb.l15
    simp only
    rw [cond_t (by rw [tab_len]; omega), w64 (by omega) (by omega)]
    rw [tab_geti (by omega) (by omega), bnd_some, show ((i : Int)).toNat = i by omega, tab_get (by omega), bnd_some, tab_geti (by omega) (by omega), bnd_some, tab_get (by omega), bnd_some, bnd_some, bnd_some, tab_set, if_neg (show ¬ i < i by omega), show ((i : Int) + 1) = ((i + 1 : Nat) : Int) by omega]
    refine congrArg (fun L => some (Sum.inl ((_, (L, _)), _))) (tab_ext ?_)
    intro j hj
    by_cases h : j = i
    · subst h; rw [if_pos rfl, if_pos (by omega)]
    · rw [if_neg h]
      by_cases h2 : j < i
      · rw [if_pos h2, if_pos (by omega)]
      · rw [if_neg h2, if_neg (by omega)]
  · unfold spec_l07Absorb.l15
    simp only
    rw [cond_f (by rw [tab_len]; omega)]
    rfl
theorem tab_slice {α : Type} {N n k : Nat} {W : Nat → α} (h : n + k ≤ N) : ((tab N W).take (n + k)).drop n = tab k (fun i => W (n + i)) := by
  apply List.ext_getElem?
  intro i
  rw [List.getElem?_drop, List.getElem?_take]
  by_cases hi : i < k
  · rw [if_pos (by omega), tab_get (by omega), tab_get hi]
  · rw [if_neg (by omega), List.getElem?_eq_none (by rw [tab_len]; omega)]
theorem spc_l11 {B : Nat → Int} {m : Nat} (hm : m ≤ 10000000) :
    iter spec_l07Absorb.l11 ((168, ((List.replicate 25 0), (tab (168 * m) B, (0, ())))), ()) = some (.inl ((tab 25 (abI B m), ()), ())) := by
  refine iter_for' (fun n => ((168, (tab 25 (abI B n), (tab (168 * m) B, (((168 * n : Nat) : Int), ())))), ())) m ?_ ?_ ?_
  · have : tab 25 (abI B 0) = List.replicate 25 0 := by rw [tab_rep]; rfl
    rw [this]; rfl
  · intro n hn
    unfold spec_l07Absorb.l11
    simp only
    rw [cond_t (by rw [tab_len]; omega), w64 (by omega) (by omega), slc_ok (by omega) (by omega) (by rw [tab_len]; omega), bnd_some]
    rw [show (((168 * n : Nat) : Int) + 168).toNat = 168 * n + 168 by omega, show ((168 * n : Nat) : Int).toNat = 168 * n by omega, tab_slice (by omega), l07Lanes_ok (n := 21) (by rw [ofBytes_len, tab_len]) (by omega), bnd_some]
    simp only
    rw [spc_l15]
    simp only [bnd_some]
    rw [l07Permute_ok, bnd_some, show ((168 * n : Nat) : Int) + 168 = ((168 * (n + 1) : Nat) : Int) by omega, w64 (by omega) (by omega)]
    rfl
  · unfold spec_l07Absorb.l11
    simp only
    rw [cond_f (by rw [tab_len]; omega)]
def absB (s : List UInt8) : List UInt8 := ofBytes (tab 200 (lbI (abI (padF s) (s.length / 168 + 1))))
theorem absB_len (s : List UInt8) : (absB s).length = 200 := by simp [absB, ofBytes_len, tab_len]
theorem absorbed_ok {s : List UInt8} (h : s.length ≤ 1000000) : impl_absorbed.f (s, (168, (31, ()))) = some ((absB s, ()), ()) := by
  have hl := padT_len s
  unfold impl_absorbed.f
  simp only
  rw [app_ok (by simp [toBytes_len]; omega), bnd_some, imp_l1 (by omega)]
  simp only [bnd_some]
  have e : (((padT s).length : Int) - 1).toNat = (padT s).length - 1 := by omega
  have hg : geti (padT s) (((padT s).length : Int) - 1) = some ((padT s).getD ((padT s).length - 1) 0) := by rw [geti_ok (by omega) (by omega), e]; rfl
  have hq : (padT s)[(padT s).length - 1]? = some ((padT s).getD ((padT s).length - 1) 0) := by rw [List.getElem?_eq_getElem (by omega)]; simp [List.getD_eq_getElem?_getD, List.getElem?_eq_getElem (show (padT s).length - 1 < (padT s).length by omega)]
  rw [w64 (n := ((padT s).length : Int) - 1) (by omega) (by omega), e]
  simp only [hg, hq, bnd_some]
  rw [padP, show Int.toNat 200 = 200 from rfl, imp_l11 (padF_R s) (by omega)]
  rfl
theorem l07Absorb_ok {s : List UInt8} (h : s.length ≤ 1000000) : spec_l07Absorb.f (s, (168, (31, ()))) = some ((absB s, ()), ()) := by
  have hl := padT_len s
  unfold spec_l07Absorb.f
  simp only
  rw [app_ok (by simp [toBytes_len]; omega), bnd_some, spc_l1 (by omega)]
  simp only [bnd_some]
  have e : (((padT s).length : Int) - 1).toNat = (padT s).length - 1 := by omega
  have hg : geti (padT s) (((padT s).length : Int) - 1) = some ((padT s).getD ((padT s).length - 1) 0) := by rw [geti_ok (by omega) (by omega), e]; rfl
  have hq : (padT s)[(padT s).length - 1]? = some ((padT s).getD ((padT s).length - 1) 0) := by rw [List.getElem?_eq_getElem (by omega)]; simp [List.getD_eq_getElem?_getD, List.getElem?_eq_getElem (show (padT s).length - 1 < (padT s).length by omega)]
  rw [w64 (n := ((padT s).length : Int) - 1) (by omega) (by omega), e]
  simp only [hg, hq, bnd_some]
  rw [padP, show Int.toNat 25 = 25 from rfl, spc_l11 (by omega)]
  simp only [bnd_some]
  rw [l07Bytes_ok (abI_R _ _) (by omega), bnd_some]
  rfl
theorem impl_StreamNew_ok {s : List UInt8} (h : s.length ≤ 1000000) : impl_StreamNew.f (s, ()) = some (((absB s, (0, ())), ()), ()) := by
  unfold impl_StreamNew.f
  simp only
  rw [absorbed_ok h, bnd_some]
theorem spec_StreamNew_ok {s : List UInt8} (h : s.length ≤ 1000000) : spec_StreamNew.f (s, ()) = some (((absB s, (0, ())), ()), ()) := by
  unfold spec_StreamNew.f
  simp only
  rw [l07Absorb_ok h, bnd_some]
end Go.Vi

set_option autoImplicit false
set_option linter.unusedVariables false
set_option linter.unusedSimpArgs false
namespace Go.Vi
open Go
/-! ## A stream's bytes -/
def pmN (S : List UInt8) : Nat → List UInt8
  | 0 => S
  | q + 1 => pmB (pmN S q)
theorem pmN_len {S : List UInt8} (h : S.length = 200) : ∀ q, (pmN S q).length = 200
  | 0 => h
  | q + 1 => pmB_len _
def sb (S : List UInt8) (p : Nat) : UInt8 := (pmN S (p / 168)).getD (p % 168) default
theorem tab_add {α : Type} (k b : Nat) (G : Nat → α) : tab k G ++ tab b (fun i => G (k + i)) = tab (k + b) G := by
  induction b with
  | zero => simp [tab]
  | succ b ih => rw [← tab_snoc b, ← List.append_assoc, ih, tab_snoc, Nat.add_assoc]
theorem slice_tab {l : List UInt8} {a b : Nat} (h : a + b ≤ l.length) : (l.take (a + b)).drop a = tab b (fun i => l.getD (a + i) default) := by
  conv => lhs; rw [tab_of l]
  exact tab_slice h
theorem sb_at {S : List UInt8} {q a i : Nat} (h : a + i < 168) : (pmN S q).getD (a + i) default = sb S (168 * q + a + i) := by
  unfold sb
  rw [show (168 * q + a + i) / 168 = q by omega, show (168 * q + a + i) % 168 = a + i by omega]
theorem sb_slice {S : List UInt8} (hS : S.length = 200) {q a b p k : Nat} (h : a + b ≤ 168) (hp : 168 * q + a = p + k) : ((pmN S q).take (a + b)).drop a = tab b (fun i => sb S (p + (k + i))) := by
  rw [slice_tab (by rw [pmN_len hS]; omega)]
  apply tab_ext
  intro i hi
  rw [sb_at (by omega)]
  congr 1
  omega
theorem mn_min {a b : Nat} : mn (a : Int) (b : Int) = ((min a b : Nat) : Int) := by unfold mn; split <;> omega
theorem impl_take_loop {S : List UInt8} (hS : S.length = 200) {n p : Nat} (hn : n ≤ 4000) (h2 : List UInt8 × (Int × Unit)) {q0 a0 : Nat} (ha : a0 ≤ 168) (hp : 168 * q0 + a0 = p) :
    ∃ r, iter impl_StreamTake.l5 (((n : Int), ((), ((), ([], ())))), ((pmN S q0, ((a0 : Int), ())), (h2, ()))) = some r ∧
      ∃ q a, a ≤ 168 ∧ 168 * q + a = p + n ∧ r = .inl (((), ((), (tab n (fun i => sb S (p + i)), ()))), ((pmN S q, ((a : Int), ())), (h2, ()))) := by
  refine iter_inv (fun s => ∃ k q a, k ≤ n ∧ a ≤ 168 ∧ 168 * q + a = p + k ∧ s = (((n : Int), ((), ((), (tab k (fun i => sb S (p + i)), ())))), ((pmN S q, ((a : Int), ())), (h2, ())))) (fun s => n - s.1.2.2.2.1.length) _ ?_ _ ⟨0, q0, a0, Nat.zero_le _, ha, hp, rfl⟩
  rintro _ ⟨k, q, a, hk, ha, hp, rfl⟩
  by_cases hkn : k < n
  · left
    have go : ∀ (q a : Nat), a < 168 → 168 * q + a = p + k → ∀ (K : Option _), K = some (Sum.inl (((n : Int), ((), ((), (tab k (fun i => sb S (p + i)), ())))), ((pmN S q, ((a : Int), ())), (h2, ())))) →
        ∃ s', (Option.bind K fun (y8 : (((Int × (Unit × (Unit × ((List UInt8) × Unit)))) × (((List UInt8) × (Int × Unit)) × (((List UInt8) × (Int × Unit)) × Unit))) ⊕ (Unit ⊕ ((((List UInt8) × (Int × Unit)) × ((List UInt8) × Unit)) × Unit)))) =>
  (match y8 with
  | .inl u9 => (Option.bind (slc u9.2.1.1 u9.2.1.2.1 (Go.IntKind.wrap .i64 (u9.2.1.2.1 + (mn (Go.IntKind.wrap .i64 (u9.1.1 - (u9.1.2.2.2.1.length : Int))) (Go.IntKind.wrap .i64 (168 - u9.2.1.2.1)))))) fun y11 =>
  (Option.bind (cat u9.1.2.2.2.1 y11) fun y12 =>
  (some (.inl ((u9.1.1, ((), ((), (y12, ())))), ((u9.2.1.1, ((Go.IntKind.wrap .i64 (u9.2.1.2.1 + (mn (Go.IntKind.wrap .i64 (u9.1.1 - (u9.1.2.2.2.1.length : Int))) (Go.IntKind.wrap .i64 (168 - u9.2.1.2.1))))), u9.2.1.2.2)), (u9.2.2.1, ())))))))
  | .inr w10 => (match w10 with
  | .inl u13 => none
  | .inr w14 => (some (.inr (.inr w14))))) : Option (((Int × (Unit × (Unit × ((List UInt8) × Unit)))) × (((List UInt8) × (Int × Unit)) × (((List UInt8) × (Int × Unit)) × Unit))) ⊕ (((Unit × (Unit × ((List UInt8) × Unit))) × (((List UInt8) × (Int × Unit)) × (((List UInt8) × (Int × Unit)) × Unit))) ⊕ ((((List UInt8) × (Int × Unit)) × ((List UInt8) × Unit)) × Unit)))) = some (.inl s') ∧
          (∃ k q a, k ≤ n ∧ a ≤ 168 ∧ 168 * q + a = p + k ∧ s' = (((n : Int), ((), ((), (tab k (fun i => sb S (p + i)), ())))), ((pmN S q, ((a : Int), ())), (h2, ())))) ∧ n - s'.1.2.2.2.1.length < n - k := by
      intro q a ha hp K hK
      subst hK
      simp only [bnd_some, tab_len]
      have e1 : IntKind.wrap .i64 ((n : Int) - (k : Int)) = ((n - k : Nat) : Int) := by rw [w64 (by omega) (by omega)]; omega
      have e2 : IntKind.wrap .i64 (168 - (a : Int)) = ((168 - a : Nat) : Int) := by rw [w64 (by omega) (by omega)]; omega
      rw [e1, e2, mn_min]
      have hm : 0 < min (n - k) (168 - a) := by omega
      have hm1 : min (n - k) (168 - a) ≤ n - k := Nat.min_le_left _ _
      have hm2 : min (n - k) (168 - a) ≤ 168 - a := Nat.min_le_right _ _
      generalize min (n - k) (168 - a) = d at hm hm1 hm2
      have hl := pmN_len hS q
      rw [w64 (by omega) (by omega), slc_ok (by omega) (by omega) (by omega), bnd_some, show ((a : Int) + (d : Int)).toNat = a + d by omega, show ((a : Int)).toNat = a by omega, sb_slice hS (by omega) hp, cat_ok (by simp [tab_len]; omega), bnd_some, tab_add]
      exact ⟨_, rfl, ⟨k + d, q, a + d, by omega, by omega, by omega, by simp⟩, by simp [tab_len]; omega⟩
    unfold impl_StreamTake.l5
    simp only
    rw [tab_len, cond_t (by omega)]
    by_cases h168 : a = 168
    · subst h168
      refine go (q + 1) 0 (by omega) (by omega) _ ?_
      rw [cond_t (by omega), impl_Permute_ok (pmN_len hS q), bnd_some]
      rfl
    · refine go q a (by omega) hp _ ?_
      rw [cond_f (by omega)]
  · right
    have : k = n := by omega
    subst this
    refine ⟨_, ?_, q, a, ha, hp, rfl⟩
    unfold impl_StreamTake.l5
    simp only
    rw [tab_len, cond_f (by omega)]
theorem impl_StreamTake_ok {S : List UInt8} (hS : S.length = 200) {n q0 a0 : Nat} (hn : n ≤ 4000) (ha : a0 ≤ 168) :
    ∃ q a, a ≤ 168 ∧ 168 * q + a = 168 * q0 + a0 + n ∧ impl_StreamTake.f ((pmN S q0, ((a0 : Int), ())), ((n : Int), ())) = some (((pmN S q, ((a : Int), ())), (tab n (fun i => sb S (168 * q0 + a0 + i)), ())), ()) := by
  obtain ⟨r, hr, q, a, h1, h2, rfl⟩ := impl_take_loop hS (p := 168 * q0 + a0) hn ([], (0, ())) ha rfl
  refine ⟨q, a, h1, h2, ?_⟩
  have hl := pmN_len hS q0
  unfold impl_StreamTake.f
  simp only
  rw [in_ok, decide_eq_true (show 0 ≤ (n : Int) ∧ (n : Int) ≤ 4000 by omega)]
  simp only [bnd_some, Bool.not_true, cond_false]
  rw [cond_nf (by omega), in_ok, decide_eq_true (show 0 ≤ (a0 : Int) ∧ (a0 : Int) ≤ 168 by omega)]
  simp only [bnd_some, Bool.not_true, cond_false]
  rw [hr]
  rfl
end Go.Vi

set_option autoImplicit false
set_option linter.unusedVariables false
set_option linter.unusedSimpArgs false
namespace Go.Vi
open Go
abbrev sbI (S : List UInt8) (p : Nat) : Int := (((sb S p).toNat : Nat) : Int)
theorem sbI_R (S : List UInt8) (p : Nat) : 0 ≤ sbI S p ∧ sbI S p < 256 := by have := (sb S p).toNat_lt; unfold sbI; constructor <;> omega
theorem toBytes_tab (n : Nat) (G : Nat → UInt8) : toBytes (tab n G) = tab n (fun i => (((G i).toNat : Nat) : Int)) := by simp [toBytes, tab]
theorem ofBytes_tab (n : Nat) (G : Nat → UInt8) : ofBytes (tab n (fun i => (((G i).toNat : Nat) : Int))) = tab n G := by simp [ofBytes, tab]
theorem spec_l5_168 {S : List UInt8} (hS : S.length = 200) {n q : Nat} {L : List Int} {h2 : List UInt8 × (Int × Unit)} (hL : (L.length : Int) < (n : Int)) :
    spec_StreamTake.l5 (((n : Int), ((), ((), (L, ())))), ((pmN S q, (168, ())), (h2, ()))) = spec_StreamTake.l5 (((n : Int), ((), ((), (L, ())))), ((pmN S (q + 1), (0, ())), (h2, ()))) := by
  unfold spec_StreamTake.l5
  simp only
  rw [cond_t hL, cond_t hL, cond_t trivial, cond_f (show ¬ (0 : Int) = 168 by omega), spec_Permute_ok (pmN_len hS q), bnd_some]
  rfl
theorem spec_l5_step {S : List UInt8} (hS : S.length = 200) {n q a k p : Nat} (hn : n ≤ 4000) (hk : k < n) (ha : a < 168) (hp : 168 * q + a = p + k) {h2 : List UInt8 × (Int × Unit)} :
    ∃ d, 0 < d ∧ k + d ≤ n ∧ a + d ≤ 168 ∧ spec_StreamTake.l5 (((n : Int), ((), ((), (tab k (fun i => sbI S (p + i)), ())))), ((pmN S q, ((a : Int), ())), (h2, ()))) =
      some (.inl (((n : Int), ((), ((), (tab (k + d) (fun i => sbI S (p + i)), ())))), ((pmN S q, (((a + d : Nat) : Int), ())), (h2, ())))) := by
  have e1 : IntKind.wrap .i64 ((n : Int) - (k : Int)) = ((n - k : Nat) : Int) := by rw [w64 (by omega) (by omega)]; omega
  have e2 : IntKind.wrap .i64 (168 - (a : Int)) = ((168 - a : Nat) : Int) := by rw [w64 (by omega) (by omega)]; omega
  have hl := pmN_len hS q
  have tail : ∀ d : Nat, d ≤ n - k → a + d ≤ 168 → ((slc (pmN S q) (a : Int) (IntKind.wrap .i64 ((a : Int) + (d : Int)))) = some (tab d (fun i => sb S (p + (k + i))))) ∧ IntKind.wrap .i64 ((a : Int) + (d : Int)) = ((a + d : Nat) : Int) ∧
      app 1 (tab k (fun i => sbI S (p + i))) (toBytes (tab d (fun i => sb S (p + (k + i))))) = some (tab (k + d) (fun i => sbI S (p + i))) := by
    intro d hd1 hd2
    refine ⟨?_, ?_, ?_⟩
    · rw [w64 (by omega) (by omega), slc_ok (by omega) (by omega) (by omega), show ((a : Int) + (d : Int)).toNat = a + d by omega, show ((a : Int)).toNat = a by omega, sb_slice hS (by omega) hp]
    · rw [w64 (by omega) (by omega)]; omega
    · rw [app_ok (by simp [tab_len, toBytes_len]; omega), toBytes_tab]
      exact congrArg some (tab_add k d (fun i => sbI S (p + i)))
  unfold spec_StreamTake.l5
  simp only [tab_len, e1, e2]
  by_cases hc : n - k < 168 - a
  · obtain ⟨t1, t2, t3⟩ := tail (n - k) (Nat.le_refl _) (by omega)
    refine ⟨n - k, by omega, by omega, by omega, ?_⟩
    rw [cond_t (by omega), cond_f (by omega)]
    simp only [bnd_some, tab_len, e1, e2]
    rw [cond_t (by omega)]
    simp only [bnd_some]
    rw [t1, t2, bnd_some, t3, bnd_some]
  · obtain ⟨t1, t2, t3⟩ := tail (168 - a) (by omega) (by omega)
    refine ⟨168 - a, by omega, by omega, by omega, ?_⟩
    rw [cond_t (by omega), cond_f (by omega)]
    simp only [bnd_some, tab_len, e1, e2]
    rw [cond_f (by omega)]
    simp only [bnd_some]
    rw [t1, t2, bnd_some, t3, bnd_some]
theorem spec_take_loop {S : List UInt8} (hS : S.length = 200) {n p : Nat} (hn : n ≤ 4000) (h2 : List UInt8 × (Int × Unit)) {q0 a0 : Nat} (ha : a0 ≤ 168) (hp : 168 * q0 + a0 = p) :
    ∃ r, iter spec_StreamTake.l5 (((n : Int), ((), ((), ([], ())))), ((pmN S q0, ((a0 : Int), ())), (h2, ()))) = some r ∧
      ∃ q a, a ≤ 168 ∧ 168 * q + a = p + n ∧ r = .inl (((), ((), (tab n (fun i => sbI S (p + i)), ()))), ((pmN S q, ((a : Int), ())), (h2, ()))) := by
  refine iter_inv (fun s => ∃ k q a, k ≤ n ∧ a ≤ 168 ∧ 168 * q + a = p + k ∧ s = (((n : Int), ((), ((), (tab k (fun i => sbI S (p + i)), ())))), ((pmN S q, ((a : Int), ())), (h2, ())))) (fun s => n - s.1.2.2.2.1.length) _ ?_ _ ⟨0, q0, a0, Nat.zero_le _, ha, hp, rfl⟩
  rintro _ ⟨k, q, a, hk, ha, hp, rfl⟩
  by_cases hkn : k < n
  · left
    by_cases h168 : a = 168
    · subst h168
      obtain ⟨d, d1, d2, d3, hd⟩ := spec_l5_step (p := p) hS (q := q + 1) (a := 0) hn hkn (by omega) (by omega) (h2 := h2)
      refine ⟨_, (spec_l5_168 hS (by rw [tab_len]; omega)).trans hd, ⟨k + d, q + 1, 0 + d, by omega, by omega, by omega, rfl⟩, by simp [tab_len]; omega⟩
    · obtain ⟨d, d1, d2, d3, hd⟩ := spec_l5_step (p := p) hS hn hkn (by omega) hp (h2 := h2)
      exact ⟨_, hd, ⟨k + d, q, a + d, by omega, by omega, by omega, rfl⟩, by simp [tab_len]; omega⟩
  · right
    have : k = n := by omega
    subst this
    refine ⟨_, ?_, q, a, ha, hp, rfl⟩
    unfold spec_StreamTake.l5
    simp only
    rw [tab_len, cond_f (by omega)]
theorem spec_StreamTake_ok {S : List UInt8} (hS : S.length = 200) {n q0 a0 : Nat} (hn : n ≤ 4000) (ha : a0 ≤ 168) :
    ∃ q a, a ≤ 168 ∧ 168 * q + a = 168 * q0 + a0 + n ∧ spec_StreamTake.f ((pmN S q0, ((a0 : Int), ())), ((n : Int), ())) = some (((pmN S q, ((a : Int), ())), (tab n (fun i => sb S (168 * q0 + a0 + i)), ())), ()) := by
  obtain ⟨r, hr, q, a, h1, h2, rfl⟩ := spec_take_loop hS (p := 168 * q0 + a0) hn ([], (0, ())) ha rfl
  refine ⟨q, a, h1, h2, ?_⟩
  have hl := pmN_len hS q0
  unfold spec_StreamTake.f
  simp only
  rw [l01In_ok, decide_eq_true (show 0 ≤ (n : Int) ∧ (n : Int) ≤ 4000 by omega)]
  simp only [bnd_some, Bool.not_true, cond_false]
  rw [cond_nf (by omega), l01In_ok, decide_eq_true (show 0 ≤ (a0 : Int) ∧ (a0 : Int) ≤ 168 by omega)]
  simp only [bnd_some, Bool.not_true, cond_false]
  rw [hr]
  simp only [bnd_some, ofBytes_tab]
/-- bytes of a stream -/
def shk (s : List UInt8) (n : Nat) : List UInt8 := tab n (fun i => sb (absB s) i)
theorem impl_ShakeOf_ok {s : List UInt8} {n : Nat} (h : s.length ≤ 1000000) (hn : n ≤ 4000) : impl_ShakeOf.f (s, ((n : Int), ())) = some ((shk s n, (true, ())), ()) := by
  obtain ⟨q, a, h1, h2, h3⟩ := impl_StreamTake_ok (absB_len s) (n := n) (q0 := 0) (a0 := 0) hn (by omega)
  unfold impl_ShakeOf.f
  simp only
  rw [in_ok, decide_eq_true (show 0 ≤ (n : Int) ∧ (n : Int) ≤ 4000 by omega)]
  simp only [bnd_some, Bool.not_true, cond_false]
  rw [impl_StreamNew_ok h, bnd_some, show impl_StreamTake.f ((absB s, (0, ())), ((n : Int), ())) = _ from h3, bnd_some]
  simp only [Nat.mul_zero, Nat.zero_add, shk]
theorem spec_ShakeOf_ok {s : List UInt8} {n : Nat} (h : s.length ≤ 1000000) (hn : n ≤ 4000) : spec_ShakeOf.f (s, ((n : Int), ())) = some ((shk s n, (true, ())), ()) := by
  obtain ⟨q, a, h1, h2, h3⟩ := spec_StreamTake_ok (absB_len s) (n := n) (q0 := 0) (a0 := 0) hn (by omega)
  unfold spec_ShakeOf.f
  simp only
  rw [l01In_ok, decide_eq_true (show 0 ≤ (n : Int) ∧ (n : Int) ≤ 4000 by omega)]
  simp only [bnd_some, Bool.not_true, cond_false]
  rw [spec_StreamNew_ok h, bnd_some, show spec_StreamTake.f ((absB s, (0, ())), ((n : Int), ())) = _ from h3, bnd_some]
  simp only [Nat.mul_zero, Nat.zero_add, shk]
end Go.Vi

set_option autoImplicit false
set_option linter.unusedVariables false
set_option linter.unusedSimpArgs false
namespace Go.Vi
open Go
/-! ## Polynomials -/
abbrev RQ (x : Int) : Prop := 0 ≤ x ∧ x < 3329
theorem modQ_ok {x : Int} (h : -1000000000000 ≤ x) (h2 : x ≤ 1000000000000) : impl_modQ.f (x, ()) = some ((x % 3329, ()), ()) := by
  unfold impl_modQ.f
  simp only
  by_cases h0 : 0 ≤ x
  · rw [tmd h0, w64 (by omega) (by omega), tmd (by omega)]
    congr 3
    omega
  · have e : Int.tmod x 3329 = -((-x) % 3329) := by
      have := Int.neg_tmod (-x) 3329
      rw [Int.neg_neg] at this
      rw [this, tmd (by omega)]
    rw [e, w64 (by omega) (by omega), tmd (by omega)]
    congr 3
    omega
/-- a power, as the loop leaves it -/
noncomputable def powI (b e : Int) : Int := match iter impl_PowQ.l2 ((b, (e, (1, ()))), ()) with
  | some (.inl u) => u.1.1
  | _ => 0
theorem pow_loop {b e : Int} (hb : RQ b) (he : 0 ≤ e) (he2 : e ≤ 1000000000) : iter impl_PowQ.l2 ((b, (e, (1, ()))), ()) = some (.inl ((powI b e, ()), ())) ∧ RQ (powI b e) := by
  obtain ⟨r, hr, o, ho, rfl⟩ := iter_inv (f := impl_PowQ.l2) (fun s => ∃ b e o, RQ b ∧ 0 ≤ e ∧ e ≤ 1000000000 ∧ RQ o ∧ s = ((b, (e, (o, ()))), ())) (fun s => s.1.2.1.toNat) (fun r => ∃ o, RQ o ∧ r = .inl ((o, ()), ())) (by
    rintro _ ⟨b, e, o, hb, he, he2, ho, rfl⟩
    unfold impl_PowQ.l2
    simp only
    have sq : 0 ≤ b * b ∧ b * b ≤ 3328 * 3328 := ⟨Int.mul_nonneg hb.1 hb.1, Int.mul_le_mul (by omega) (by omega) hb.1 (by omega)⟩
    have ob : 0 ≤ o * b ∧ o * b ≤ 3328 * 3328 := ⟨Int.mul_nonneg ho.1 hb.1, Int.mul_le_mul (by omega) (by omega) hb.1 (by omega)⟩
    generalize b * b = p at sq
    generalize o * b = q at ob
    by_cases h0 : e > 0
    · left
      rw [cond_t h0, tdv he, tmd he, w64 (n := p) (by omega) (by omega), w64 (n := q) (by omega) (by omega), w64 (n := e / 2) (by omega) (by omega), tmd (a := p) (by omega), tmd (a := q) (by omega)]
      by_cases h1 : e % 2 = 1
      · rw [cond_t h1]
        exact ⟨_, rfl, ⟨p % 3329, e / 2, q % 3329, ⟨by omega, by omega⟩, by omega, by omega, ⟨by omega, by omega⟩, rfl⟩, by simp only; omega⟩
      · rw [cond_f h1]
        exact ⟨_, rfl, ⟨p % 3329, e / 2, o, ⟨by omega, by omega⟩, by omega, by omega, ho, rfl⟩, by simp only; omega⟩
    · right
      rw [cond_f h0]
      exact ⟨_, rfl, o, ho, rfl⟩) ((b, (e, (1, ()))), ()) ⟨b, e, 1, hb, he, he2, ⟨by omega, by omega⟩, rfl⟩
  have hp : powI b e = o := by unfold powI; rw [hr]
  rw [hp]
  exact ⟨hr, ho⟩
theorem impl_PowQ_ok {e : Int} (he : 0 ≤ e) (he2 : e ≤ 1000000000) : impl_PowQ.f (17, (e, ())) = some ((powI 17 e, ()), ()) := by
  unfold impl_PowQ.f
  simp only
  rw [in_ok, decide_eq_true (show 0 ≤ e ∧ e ≤ 1000000000 from ⟨he, he2⟩)]
  simp only [bnd_some, Bool.not_true, cond_false]
  rw [modQ_ok (by omega) (by omega), bnd_some]
  simp only
  rw [show (17 : Int) % 3329 = 17 from rfl, (pow_loop ⟨by omega, by omega⟩ he he2).1]
  rfl
theorem spec_PowQ_ok {e : Int} (he : 0 ≤ e) (he2 : e ≤ 1000000000) : spec_PowQ.f (17, (e, ())) = some ((powI 17 e, ()), ()) := by
  have hl : spec_PowQ.l4 = impl_PowQ.l2 := rfl
  unfold spec_PowQ.f
  simp only
  rw [l01In_ok, decide_eq_true (show 0 ≤ e ∧ e ≤ 1000000000 from ⟨he, he2⟩)]
  simp only [bnd_some, Bool.not_true, cond_false]
  rw [cond_f (show ¬ Int.tmod 17 3329 < 0 by decide)]
  simp only [bnd_some]
  rw [hl, show Int.tmod 17 3329 = 17 by decide, (pow_loop ⟨by omega, by omega⟩ he he2).1]
  rfl
/-! ### Bits turned around -/
theorem iand1 {a : Nat} (ha : a < 9223372036854775808) : ibits .and .i64 (a : Int) 1 = ((a % 2 : Nat) : Int) := by
  show IntKind.wrap .i64 ((BitVec.ofInt 64 (a : Int) &&& BitVec.ofInt 64 1).toNat : Nat) = _
  rw [BitVec.toNat_and, bv64 a (by omega), show (BitVec.ofInt 64 1).toNat = 1 from rfl, Nat.and_one_is_mod]
  exact w64 (by omega) (by omega)
def t7 (n : Nat) : Nat → Nat
  | 0 => 0
  | i + 1 => 2 * t7 n i + n / 2 ^ i % 2
theorem t7_lt (n : Nat) : ∀ i, t7 n i < 2 ^ i
  | 0 => by simp [t7]
  | i + 1 => by have := t7_lt n i; simp only [t7]; rw [Nat.pow_succ]; omega
theorem impl_Turn7_ok {n : Nat} (h : n < 128) : impl_Turn7.f ((n : Int), ()) = some ((((t7 n 7 : Nat) : Int), ()), ()) := by
  have hit : iter impl_Turn7.l0 (((n : Int), (0, (0, ()))), ()) = some (.inl ((((t7 n 7 : Nat) : Int), ()), ())) := by
    refine iter_for' (fun i => (((n : Int), (((t7 n i : Nat) : Int), ((i : Int), ()))), ())) 7 rfl ?_ ?_
    · intro i hi
      have ht := t7_lt n i
      have hle : 2 ^ i ≤ 2 ^ 7 := Nat.pow_le_pow_right (by omega) (by omega)
      have hd : n / 2 ^ i ≤ n := Nat.div_le_self _ _
      unfold impl_Turn7.l0
      simp only [t7]
      have e : ishr .i64 (n : Int) (i : Int) = ((n / 2 ^ i : Nat) : Int) := by
        unfold ishr
        rw [show min (i : Int).toNat IntKind.i64.bits = i by show min (i : Int).toNat 64 = i; omega]
        have : (2 ^ i : Int) = ((2 ^ i : Nat) : Int) := by simp
        rw [this, Int.fdiv_eq_ediv_of_nonneg _ (Int.natCast_nonneg _)]
        rfl
      generalize n / 2 ^ i = q at hd e
      generalize t7 n i = t at ht
      rw [cond_t (by omega), cond_f (by omega), e, iand1 (by omega), w64 (n := 2 * (t : Int)) (by omega) (by omega), w64 (by omega) (by omega), w64 (by omega) (by omega)]
      congr 4
    · unfold impl_Turn7.l0
      simp only
      rw [cond_f (by omega)]
  unfold impl_Turn7.f
  simp only
  rw [hit]
  rfl
theorem spec_Turn7_ok {n : Nat} (h : n < 128) : spec_Turn7.f ((n : Int), ()) = some ((((t7 n 7 : Nat) : Int), ()), ()) := by
  have hit : iter spec_Turn7.l3 (((n : Int), (0, (0, ()))), ()) = some (.inl ((((t7 n 7 : Nat) : Int), ()), ())) := by
    refine iter_for' (fun i => ((((n / 2 ^ i : Nat) : Int), (((t7 n i : Nat) : Int), ((i : Int), ()))), ())) 7 ?_ ?_ ?_
    · simp [t7]
    · intro i hi
      have ht := t7_lt n i
      have hle : 2 ^ i ≤ 2 ^ 7 := Nat.pow_le_pow_right (by omega) (by omega)
      have hd : n / 2 ^ i ≤ n := Nat.div_le_self _ _
      have hs : n / 2 ^ (i + 1) = n / 2 ^ i / 2 := by rw [Nat.pow_succ, ← Nat.div_div_eq_div_mul]
      unfold spec_Turn7.l3
      simp only [t7, hs]
      generalize n / 2 ^ i = q at hd
      generalize t7 n i = t at ht
      rw [cond_t (by omega), tdv (by omega), tmd (by omega), w64 (n := (q : Int) / 2) (by omega) (by omega), w64 (n := 2 * (t : Int)) (by omega) (by omega), w64 (by omega) (by omega), w64 (by omega) (by omega)]
      rfl
    · unfold spec_Turn7.l3
      simp only
      rw [cond_f (by omega)]
  unfold spec_Turn7.f
  simp only
  rw [tmd (by omega), cond_f (by omega)]
  simp only [bnd_some]
  rw [show (n : Int) % 128 = (n : Int) by omega, hit]
  rfl
/-! ### Right polynomials -/
theorem impl_PolyOk_ok {a : Nat → Int} (ha : ∀ i, RQ (a i)) : impl_PolyOk.f (tab 256 a, ()) = some ((true, ()), ()) := by
  have hit : iter impl_PolyOk.l0 ((tab 256 a, (tab 256 a, (256, (0, ())))), ()) = some (.inl ((tab 256 a, ()), ())) := by
    refine iter_for' (fun i => ((tab 256 a, (tab 256 a, (256, ((i : Int), ())))), ())) 256 rfl ?_ ?_
    · intro i hi
      have := ha i
      unfold impl_PolyOk.l0
      simp only
      rw [cond_t (by omega), tab_geti (by omega) (by omega), bnd_some, show ((i : Int)).toNat = i by omega, in_ok, bnd_some, decide_eq_true (show 0 ≤ a i ∧ a i ≤ 3328 by omega), w64 (by omega) (by omega)]
      rfl
    · unfold impl_PolyOk.l0
      simp only
      rw [cond_f (by omega)]
  unfold impl_PolyOk.f
  simp only
  rw [tab_len, show (((256 : Nat)) : Int) = 256 from rfl, hit]
  simp only [bnd_some]
  rw [tab_len]
  rfl
theorem spec_PolyOk_ok {a : Nat → Int} (ha : ∀ i, RQ (a i)) : spec_PolyOk.f (tab 256 a, ()) = some ((true, ()), ()) := by
  have hit : iter spec_PolyOk.l0 ((tab 256 a, (0, ())), ()) = some (.inl ((), ())) := by
    refine iter_for' (fun i => ((tab 256 a, ((i : Int), ())), ())) 256 rfl ?_ ?_
    · intro i hi
      have := ha i
      unfold spec_PolyOk.l0
      simp only
      rw [tab_len, cond_t (by omega), tab_geti (by omega) (by omega), bnd_some, show ((i : Int)).toNat = i by omega, l01In_ok, bnd_some, decide_eq_true (show 0 ≤ a i ∧ a i ≤ 3328 by omega), w64 (by omega) (by omega)]
      rfl
    · unfold spec_PolyOk.l0
      simp only
      rw [tab_len, cond_f (by omega)]
  unfold spec_PolyOk.f
  simp only
  rw [tab_len, cond_nf (by omega), hit]
  rfl
def addI (a b : Nat → Int) (i : Nat) : Int := (a i + b i) % 3329
theorem addI_R (a b : Nat → Int) (i : Nat) : RQ (addI a b i) := by unfold addI; constructor <;> omega
theorem impl_PolyAdd_ok {a b : Nat → Int} (ha : ∀ i, RQ (a i)) (hb : ∀ i, RQ (b i)) : impl_PolyAdd.f (tab 256 a, (tab 256 b, ())) = some ((tab 256 (addI a b), ()), ()) := by
  have hit : iter impl_each.l5 ((tab 256 a, (tab 256 b, ((), ((List.replicate 256 0), (256, (0, ())))))), ()) = some (.inl ((tab 256 (addI a b), ()), ())) := by
    refine iter_for' (fun i => ((tab 256 a, (tab 256 b, ((), (tab 256 (fun j => if j < i then addI a b j else 0), (256, ((i : Int), ())))))), ())) 256 ?_ ?_ ?_
    · have : tab 256 (fun j => if j < 0 then addI a b j else 0) = List.replicate 256 0 := by rw [tab_rep]; simp
      rw [this]; rfl
    · intro i hi
      have h1 := ha i; have h2 := hb i
      unfold impl_each.l5 impl_PolyAdd_1.f
      simp only
      rw [cond_t (by omega), tab_geti (by omega) (by omega), bnd_some, tab_geti (by omega) (by omega), bnd_some, bnd_some, show ((i : Int)).toNat = i by omega, w64 (n := a i + b i) (by omega) (by omega), modQ_ok (x := a i + b i) (by omega) (by omega), bnd_some, tab_geti (by omega) (by omega), bnd_some, tab_get (by omega), bnd_some, tab_set, w64 (by omega) (by omega), show ((i : Int) + 1) = ((i + 1 : Nat) : Int) by omega]
      refine congrArg (fun L => some (Sum.inl ((_, (_, (_, (L, _)))), _))) (tab_ext ?_)
      intro j hj
      by_cases h : j = i
      · subst h; rw [if_pos rfl, if_pos (by omega)]; rfl
      · rw [if_neg h]
        by_cases h2 : j < i
        · rw [if_pos h2, if_pos (by omega)]
        · rw [if_neg h2, if_neg (by omega)]
    · unfold impl_each.l5
      simp only
      rw [cond_f (by omega)]
      refine congrArg (fun L => some (Sum.inr (Sum.inl ((L, _), _)))) (tab_ext ?_)
      intro j hj
      rw [if_pos hj]
  unfold impl_PolyAdd.f impl_each.f
  simp only
  rw [impl_PolyOk_ok ha]
  simp only [bnd_some, Bool.not_true, cond_false]
  rw [impl_PolyOk_ok hb]
  simp only [bnd_some, Bool.not_true, cond_false]
  rw [show Int.toNat 256 = 256 from rfl, List.length_replicate, show (((256 : Nat)) : Int) = 256 from rfl, hit]
  rfl
theorem spec_PolyAdd_ok {a b : Nat → Int} (ha : ∀ i, RQ (a i)) (hb : ∀ i, RQ (b i)) : spec_PolyAdd.f (tab 256 a, (tab 256 b, ())) = some ((tab 256 (addI a b), ()), ()) := by
  have hit : iter spec_PolyAdd.l0 ((tab 256 a, (tab 256 b, ([], (0, ())))), ()) = some (.inl ((tab 256 (addI a b), ()), ())) := by
    refine iter_for' (fun i => ((tab 256 a, (tab 256 b, (tab i (addI a b), ((i : Int), ())))), ())) 256 rfl ?_ ?_
    · intro i hi
      have h1 := ha i; have h2 := hb i
      unfold spec_PolyAdd.l0
      simp only
      rw [cond_t (by omega), spec_PolyOk_ok ha]
      simp only [bnd_some, cond_true]
      rw [spec_PolyOk_ok hb]
      simp only [bnd_some, cond_true]
      rw [tab_geti (by omega) (by omega), bnd_some, tab_geti (by omega) (by omega), bnd_some, show ((i : Int)).toNat = i by omega, w64 (n := a i + b i) (by omega) (by omega), tmd (by omega), app_ok (by rw [tab_len]; simp; omega), bnd_some, w64 (by omega) (by omega), show ((i : Int) + 1) = ((i + 1 : Nat) : Int) by omega, ← tab_snoc i (addI a b)]
      rfl
    · unfold spec_PolyAdd.l0
      simp only
      rw [cond_f (by omega)]
      simp only [bnd_some, cond_false]
  unfold spec_PolyAdd.f
  simp only
  rw [hit]
  rfl
end Go.Vi

set_option autoImplicit false
set_option linter.unusedVariables false
set_option linter.unusedSimpArgs false
namespace Go.Vi
open Go
/-! ## The transform -/
def bfI (a : Nat → Int) (z : Int) (len st m : Nat) (i : Nat) : Int :=
  if st ≤ i ∧ i < st + m then (a i + z * a (i + len)) % 3329 else if st + len ≤ i ∧ i < st + len + m then (a (i - len) - z * a i) % 3329 else a i
theorem bfI_R {a : Nat → Int} (ha : ∀ i, RQ (a i)) (z : Int) (len st m i : Nat) : RQ (bfI a z len st m i) := by
  unfold bfI
  split
  · constructor <;> omega
  · split
    · constructor <;> omega
    · exact ha i
theorem mul_RQ {x y : Int} (hx : RQ x) (hy : RQ y) : 0 ≤ x * y ∧ x * y ≤ 11075584 := ⟨Int.mul_nonneg hx.1 hy.1, Int.le_trans (Int.mul_le_mul (by omega : x ≤ 3328) (by omega : y ≤ 3328) hy.1 (by omega)) (by omega)⟩
theorem bf_step {a : Nat → Int} {z : Int} {len st m : Nat} (hl : 1 ≤ len) (hm : m < len) :
    (bfI a z len st m (st + m + len) = a (st + m + len)) ∧ bfI a z len st m (st + m) = a (st + m) ∧
    ∀ i, bfI a z len st (m + 1) i = if i = st + m + len then (a (st + m) - z * a (st + m + len)) % 3329 else if i = st + m then (a (st + m) + z * a (st + m + len)) % 3329 else bfI a z len st m i := by
  refine ⟨?_, ?_, ?_⟩
  · unfold bfI; rw [if_neg (by omega), if_neg (by omega)]
  · unfold bfI; rw [if_neg (by omega), if_neg (by omega)]
  · intro i
    by_cases h1 : i = st + m + len
    · subst h1
      rw [if_pos rfl]
      unfold bfI
      rw [if_neg (by omega), if_pos (by omega), show st + m + len - len = st + m by omega]
    · rw [if_neg h1]
      by_cases h2 : i = st + m
      · subst h2
        rw [if_pos rfl]
        unfold bfI
        rw [if_pos (by omega)]
      · rw [if_neg h2]
        unfold bfI
        by_cases h3 : st ≤ i ∧ i < st + m
        · rw [if_pos h3, if_pos (by omega)]
        · rw [if_neg h3, if_neg (by omega)]
          by_cases h4 : st + len ≤ i ∧ i < st + len + m
          · rw [if_pos h4, if_pos (by omega)]
          · rw [if_neg h4, if_neg (by omega)]
theorem imp_n8 {a : Nat → Int} (ha : ∀ i, RQ (a i)) {z k : Int} (hz : RQ z) {len st : Nat} (hl : 1 ≤ len) (hs : st + 2 * len ≤ 256) :
    iter impl_Ntt.l8 ((tab 256 a, (k, ((len : Int), ((st : Int), (z, ((st : Int), ())))))), ()) = some (.inl ((tab 256 (bfI a z len st len), (k, ((len : Int), ((st : Int), ())))), ())) := by
  refine iter_for' (fun m => ((tab 256 (bfI a z len st m), (k, ((len : Int), ((st : Int), (z, (((st + m : Nat) : Int), ())))))), ())) len ?_ ?_ ?_
  · have : tab 256 (bfI a z len st 0) = tab 256 a := tab_ext fun i _ => by unfold bfI; rw [if_neg (by omega), if_neg (by omega)]
    rw [this]; rfl
  · intro m hm
    obtain ⟨b1, b2, b3⟩ := bf_step (a := a) (z := z) (st := st) hl hm
    have hp := mul_RQ hz (ha (st + m + len))
    have hx := ha (st + m)
    have e : ((st + m : Nat) : Int) + (len : Int) = ((st + m + len : Nat) : Int) := by omega
    have hr : tab 256 (bfI a z len st (m + 1)) = tab 256 (fun i => if i = st + m + len then (a (st + m) - z * a (st + m + len)) % 3329 else if i = st + m then (a (st + m) + z * a (st + m + len)) % 3329 else bfI a z len st m i) := tab_ext fun i _ => b3 i
    rw [hr]
    unfold impl_Ntt.l8
    simp only
    rw [w64 (n := (st : Int) + (len : Int)) (by omega) (by omega), cond_t (by omega), e, w64 (n := ((st + m + len : Nat) : Int)) (by omega) (by omega), show ((st + m + len : Nat) : Int).toNat = st + m + len by omega, show ((st + m : Nat) : Int).toNat = st + m by omega]
    rw [tab_geti (by omega) (by omega), bnd_some, tab_get (by omega), bnd_some, tab_geti (by omega) (by omega), bnd_some, tab_get (by omega), bnd_some, b1, b2]
    generalize z * a (st + m + len) = p at hp
    generalize a (st + m) = x at hx
    rw [w64 (n := p) (by omega) (by omega), w64 (n := x + p) (by omega) (by omega), modQ_ok (x := x + p) (by omega) (by omega), bnd_some, bnd_some, bnd_some, w64 (n := x - p) (by omega) (by omega), modQ_ok (x := x - p) (by omega) (by omega), bnd_some, bnd_some, bnd_some, tab_set, tab_geti (by omega) (by omega), bnd_some, tab_get (by omega), bnd_some, tab_set, w64 (by omega) (by omega), show ((st + m : Nat) : Int) + 1 = ((st + (m + 1) : Nat) : Int) by omega]
  · unfold impl_Ntt.l8
    simp only
    rw [w64 (by omega) (by omega), cond_f (by omega)]
theorem spc_n8 {a : Nat → Int} (ha : ∀ i, RQ (a i)) {z k : Int} (hz : RQ z) {len st : Nat} (hl : 1 ≤ len) (hs : st + 2 * len ≤ 256) :
    iter spec_Ntt.l8 ((tab 256 a, (k, ((len : Int), ((st : Int), (z, ((st : Int), ())))))), ()) = some (.inl ((tab 256 (bfI a z len st len), (k, ((len : Int), ((st : Int), ())))), ())) := by
  refine iter_for' (fun m => ((tab 256 (bfI a z len st m), (k, ((len : Int), ((st : Int), (z, (((st + m : Nat) : Int), ())))))), ())) len ?_ ?_ ?_
  · have : tab 256 (bfI a z len st 0) = tab 256 a := tab_ext fun i _ => by unfold bfI; rw [if_neg (by omega), if_neg (by omega)]
    rw [this]; rfl
  · intro m hm
    obtain ⟨b1, b2, b3⟩ := bf_step (a := a) (z := z) (st := st) hl hm
    have hp := mul_RQ hz (ha (st + m + len))
    have hx := ha (st + m)
    have e : ((st + m : Nat) : Int) + (len : Int) = ((st + m + len : Nat) : Int) := by omega
    have hr : tab 256 (bfI a z len st (m + 1)) = tab 256 (fun i => if i = st + m then (a (st + m) + z * a (st + m + len)) % 3329 else if i = st + m + len then (a (st + m) - z * a (st + m + len)) % 3329 else bfI a z len st m i) := tab_ext fun i _ => by
      rw [b3 i]
      by_cases h1 : i = st + m + len
      · rw [if_pos h1, if_neg (by omega), if_pos h1]
      · rw [if_neg h1]
        by_cases h2 : i = st + m
        · rw [if_pos h2, if_pos h2]
        · rw [if_neg h2, if_neg h2, if_neg h1]
    rw [hr]
    unfold spec_Ntt.l8
    simp only
    rw [w64 (n := (st : Int) + (len : Int)) (by omega) (by omega), cond_t (by omega), e, w64 (n := ((st + m + len : Nat) : Int)) (by omega) (by omega), show ((st + m + len : Nat) : Int).toNat = st + m + len by omega, show ((st + m : Nat) : Int).toNat = st + m by omega]
    rw [tab_geti (by omega) (by omega), bnd_some, tab_get (by omega), bnd_some, tab_geti (by omega) (by omega), bnd_some, tab_get (by omega), bnd_some, bnd_some, bnd_some, b1, b2]
    generalize z * a (st + m + len) = p at hp
    rw [tab_set]
    generalize hxa : a (st + m) = x at hx
    rw [w64 (n := p) (by omega) (by omega), tmd (a := p) (by omega), w64 (n := x - p % 3329) (by omega) (by omega), w64 (n := x - p % 3329 + 3329) (by omega) (by omega), tmd (a := x - p % 3329 + 3329) (by omega)]
    rw [tab_geti (by omega) (by omega), bnd_some, tab_get (by omega), bnd_some, bnd_some, bnd_some, if_neg (show ¬ st + m = st + m + len by omega), b2, hxa, tab_set, w64 (n := x + p % 3329) (by omega) (by omega), tmd (by omega), w64 (by omega) (by omega), show ((st + m : Nat) : Int) + 1 = ((st + (m + 1) : Nat) : Int) by omega]
    rw [show (x - p % 3329 + 3329) % 3329 = (x - p) % 3329 by omega, show (x + p % 3329) % 3329 = (x + p) % 3329 by omega]
  · unfold spec_Ntt.l8
    simp only
    rw [w64 (by omega) (by omega), cond_f (by omega)]
end Go.Vi

set_option autoImplicit false
set_option linter.unusedVariables false
set_option linter.unusedSimpArgs false
namespace Go.Vi
open Go
noncomputable def zt (k : Nat) : Int := powI 17 ((t7 k 7 : Nat) : Int)
theorem zt_R {k : Nat} : RQ (zt k) := by
  have h := t7_lt k 7
  have := (pow_loop (b := 17) (e := ((t7 k 7 : Nat) : Int)) ⟨by omega, by omega⟩ (by omega) (by omega)).2
  exact this
noncomputable def nbI (a : Nat → Int) (len k0 : Nat) : Nat → Nat → Int
  | 0 => a
  | s + 1 => bfI (nbI a len k0 s) (zt (k0 + s)) len (2 * len * s) len
theorem nbI_R {a : Nat → Int} (ha : ∀ i, RQ (a i)) (len k0 : Nat) : ∀ s i, RQ (nbI a len k0 s i)
  | 0 => ha
  | s + 1 => bfI_R (nbI_R ha len k0 s) _ _ _ _
theorem blk_fact {len c s : Nat} (hc : 2 * len * c = 256) (hs : s < c) : 2 * len * s + 2 * len ≤ 256 ∧ 2 * len * (s + 1) = 2 * len * s + 2 * len := by
  have h1 : 2 * len * (s + 1) = 2 * len * s + 2 * len := Nat.mul_succ _ _
  have h2 := Nat.mul_le_mul_left (2 * len) (show s + 1 ≤ c by omega)
  omega
theorem imp_n4 {a : Nat → Int} (ha : ∀ i, RQ (a i)) {len k0 c : Nat} (hl : 1 ≤ len) (hc : 2 * len * c = 256) (hk : k0 + c ≤ 128) :
    iter impl_Ntt.l4 ((tab 256 a, ((k0 : Int), ((len : Int), (0, ())))), ()) = some (.inl ((tab 256 (nbI a len k0 c), (((k0 + c : Nat) : Int), ((len : Int), ()))), ())) := by
  refine iter_for' (fun s => ((tab 256 (nbI a len k0 s), (((k0 + s : Nat) : Int), ((len : Int), (((2 * len * s : Nat) : Int), ())))), ())) c rfl ?_ ?_
  · intro s hs
    obtain ⟨f1, f2⟩ := blk_fact hc hs
    have hR := nbI_R ha len k0 s
    simp only [nbI, f2]
    have h7 := t7_lt (k0 + s) 7
    generalize 2 * len * s = st at f1
    unfold impl_Ntt.l4
    simp only
    rw [cond_t (by omega), impl_Turn7_ok (by omega), bnd_some, impl_PowQ_ok (e := ((t7 (k0 + s) 7 : Nat) : Int)) (by omega) (by omega), bnd_some, w64 (n := ((k0 + s : Nat) : Int) + 1) (by omega) (by omega)]
    simp only
    rw [show powI 17 ((t7 (k0 + s) 7 : Nat) : Int) = zt (k0 + s) from rfl, imp_n8 hR zt_R hl f1]
    simp only [bnd_some]
    rw [w64 (n := 2 * (len : Int)) (by omega) (by omega), w64 (by omega) (by omega), show ((k0 + s : Nat) : Int) + 1 = ((k0 + (s + 1) : Nat) : Int) by omega, show (st : Int) + 2 * (len : Int) = ((st + 2 * len : Nat) : Int) by omega]
  · unfold impl_Ntt.l4
    simp only
    rw [cond_f (by rw [hc]; omega)]
theorem spc_n4 {a : Nat → Int} (ha : ∀ i, RQ (a i)) {len k0 c : Nat} (hl : 1 ≤ len) (hc : 2 * len * c = 256) (hk : k0 + c ≤ 128) :
    iter spec_Ntt.l4 ((tab 256 a, ((k0 : Int), ((len : Int), (0, ())))), ()) = some (.inl ((tab 256 (nbI a len k0 c), (((k0 + c : Nat) : Int), ((len : Int), ()))), ())) := by
  refine iter_for' (fun s => ((tab 256 (nbI a len k0 s), (((k0 + s : Nat) : Int), ((len : Int), (((2 * len * s : Nat) : Int), ())))), ())) c rfl ?_ ?_
  · intro s hs
    obtain ⟨f1, f2⟩ := blk_fact hc hs
    have hR := nbI_R ha len k0 s
    simp only [nbI, f2]
    have h7 := t7_lt (k0 + s) 7
    generalize 2 * len * s = st at f1
    unfold spec_Ntt.l4
    simp only
    rw [cond_t (by omega), spec_Turn7_ok (by omega), bnd_some, spec_PowQ_ok (e := ((t7 (k0 + s) 7 : Nat) : Int)) (by omega) (by omega), bnd_some, w64 (n := ((k0 + s : Nat) : Int) + 1) (by omega) (by omega)]
    simp only
    rw [show powI 17 ((t7 (k0 + s) 7 : Nat) : Int) = zt (k0 + s) from rfl, spc_n8 hR zt_R hl f1]
    simp only [bnd_some]
    rw [w64 (n := 2 * (len : Int)) (by omega) (by omega), w64 (by omega) (by omega), show ((k0 + s : Nat) : Int) + 1 = ((k0 + (s + 1) : Nat) : Int) by omega, show (st : Int) + 2 * (len : Int) = ((st + 2 * len : Nat) : Int) by omega]
  · unfold spec_Ntt.l4
    simp only
    rw [cond_f (by rw [hc]; omega)]
noncomputable def ntI (a : Nat → Int) : Nat → Nat → Int
  | 0 => a
  | r + 1 => nbI (ntI a r) (2 ^ (7 - r)) (2 ^ r) (2 ^ r)
theorem ntI_R {a : Nat → Int} (ha : ∀ i, RQ (a i)) : ∀ r i, RQ (ntI a r i)
  | 0 => ha
  | r + 1 => nbI_R (ntI_R ha r) _ _ _
theorem nt_fact : ∀ r : _root_.Fin 7, 2 * 2 ^ (7 - r.val) * 2 ^ r.val = 256 ∧ 2 ^ r.val + 2 ^ r.val ≤ 128 ∧ 2 ≤ 2 ^ (7 - r.val) ∧ 2 ^ (r.val + 1) = 2 ^ r.val + 2 ^ r.val ∧ 2 ^ (7 - (r.val + 1)) = 2 ^ (7 - r.val) / 2 ∧ 2 ^ (7 - r.val) ≤ 128 := by decide
theorem impl_Ntt_ok {a : Nat → Int} (ha : ∀ i, RQ (a i)) : impl_Ntt.f (tab 256 a, ()) = some ((tab 256 (ntI a 7), ()), ()) := by
  have hit : iter impl_Ntt.l2 ((tab 256 a, (1, (128, ()))), ()) = some (.inl ((tab 256 (ntI a 7), ()), ())) := by
    refine iter_for' (fun r => ((tab 256 (ntI a r), (((2 ^ r : Nat) : Int), (((2 ^ (7 - r) : Nat) : Int), ()))), ())) 7 rfl ?_ ?_
    · intro r hr
      obtain ⟨f1, f2, f3, f4, f5, f6⟩ := nt_fact ⟨r, hr⟩
      simp only at f1 f2 f3 f4 f5 f6
      have hR := ntI_R ha r
      simp only [ntI, f4, f5]
      generalize 2 ^ (7 - r) = len at f1 f3 f6
      generalize 2 ^ r = c at f1 f2
      unfold impl_Ntt.l2
      simp only
      rw [cond_t (by omega), imp_n4 hR (by omega) f1 f2]
      simp only [bnd_some]
      rw [tdv (by omega), w64 (by omega) (by omega)]
      rfl
    · unfold impl_Ntt.l2
      simp only
      rw [cond_f (by decide)]
  unfold impl_Ntt.f impl_copyInts.f
  simp only
  rw [impl_PolyOk_ok ha]
  simp only [bnd_some, Bool.not_true, cond_false]
  rw [app_ok (by rw [tab_len]; simp), bnd_some, bnd_some, List.nil_append]
  simp only
  rw [hit]
  rfl
theorem spec_Ntt_ok {a : Nat → Int} (ha : ∀ i, RQ (a i)) : spec_Ntt.f (tab 256 a, ()) = some ((tab 256 (ntI a 7), ()), ()) := by
  have hit : iter spec_Ntt.l2 ((tab 256 a, (1, (128, ()))), ()) = some (.inl ((tab 256 (ntI a 7), ()), ())) := by
    refine iter_for' (fun r => ((tab 256 (ntI a r), (((2 ^ r : Nat) : Int), (((2 ^ (7 - r) : Nat) : Int), ()))), ())) 7 rfl ?_ ?_
    · intro r hr
      obtain ⟨f1, f2, f3, f4, f5, f6⟩ := nt_fact ⟨r, hr⟩
      simp only at f1 f2 f3 f4 f5 f6
      have hR := ntI_R ha r
      simp only [ntI, f4, f5]
      generalize 2 ^ (7 - r) = len at f1 f3 f6
      generalize 2 ^ r = c at f1 f2
      unfold spec_Ntt.l2
      simp only
      rw [cond_t (by omega), spc_n4 hR (by omega) f1 f2]
      simp only [bnd_some]
      rw [tdv (by omega), w64 (by omega) (by omega)]
      rfl
    · unfold spec_Ntt.l2
      simp only
      rw [cond_f (by decide)]
  unfold spec_Ntt.f
  simp only
  rw [spec_PolyOk_ok ha]
  simp only [bnd_some, Bool.not_true, cond_false]
  rw [app_ok (by rw [tab_len]; simp), bnd_some, List.nil_append, hit]
  rfl
/-! ## Products -/
noncomputable def g2 (i : Nat) : Int := powI 17 ((2 * t7 i 7 + 1 : Nat) : Int)
theorem g2_R {i : Nat} : RQ (g2 i) := by
  have h := t7_lt i 7
  exact (pow_loop (b := 17) (e := ((2 * t7 i 7 + 1 : Nat) : Int)) ⟨by omega, by omega⟩ (by omega) (by omega)).2
noncomputable def muI (a b : Nat → Int) (i : Nat) : Int :=
  if i % 2 = 0 then (a i * b i + a (i + 1) * b (i + 1) % 3329 * g2 (i / 2)) % 3329 else (a (i - 1) * b i + a i * b (i - 1)) % 3329
theorem muI_R (a b : Nat → Int) (i : Nat) : RQ (muI a b i) := by
  unfold muI
  split <;> constructor <;> omega
theorem impl_MulNtt_ok {a b : Nat → Int} (ha : ∀ i, RQ (a i)) (hb : ∀ i, RQ (b i)) : impl_MulNtt.f (tab 256 a, (tab 256 b, ())) = some ((tab 256 (muI a b), ()), ()) := by
  have hit : iter impl_MulNtt.l5 ((tab 256 a, (tab 256 b, ((List.replicate 256 0), (0, ())))), ()) = some (.inl ((tab 256 (muI a b), ()), ())) := by
    refine iter_for' (fun i => ((tab 256 a, (tab 256 b, (tab 256 (fun j => if j < 2 * i then muI a b j else 0), ((i : Int), ())))), ())) 128 ?_ ?_ ?_
    · have : tab 256 (fun j => if j < 2 * 0 then muI a b j else 0) = List.replicate 256 0 := by rw [tab_rep]; simp
      rw [this]; rfl
    · intro i hi
      have h7 := t7_lt i 7
      have hg := g2_R (i := i)
      have m0 : muI a b (2 * i) = (a (2 * i) * b (2 * i) + a (2 * i + 1) * b (2 * i + 1) % 3329 * g2 i) % 3329 := by unfold muI; rw [if_pos (by omega), show 2 * i / 2 = i by omega]
      have m1 : muI a b (2 * i + 1) = (a (2 * i) * b (2 * i + 1) + a (2 * i + 1) * b (2 * i)) % 3329 := by unfold muI; rw [if_neg (by omega), show 2 * i + 1 - 1 = 2 * i by omega]
      unfold impl_MulNtt.l5
      simp only
      rw [cond_t (by omega), impl_Turn7_ok (by omega), bnd_some]
      simp only
      rw [w64 (n := 2 * ((t7 i 7 : Nat) : Int)) (by omega) (by omega), w64 (n := 2 * ((t7 i 7 : Nat) : Int) + 1) (by omega) (by omega), show 2 * ((t7 i 7 : Nat) : Int) + 1 = ((2 * t7 i 7 + 1 : Nat) : Int) by omega, impl_PowQ_ok (by omega) (by omega), bnd_some]
      simp only
      rw [show powI 17 ((2 * t7 i 7 + 1 : Nat) : Int) = g2 i from rfl]
      rw [w64 (n := 2 * (i : Int)) (by omega) (by omega), w64 (n := 2 * (i : Int) + 1) (by omega) (by omega), show (2 * (i : Int)).toNat = 2 * i by omega, show (2 * (i : Int) + 1).toNat = 2 * i + 1 by omega]
      rw [tab_geti (by omega) (by omega), bnd_some, tab_geti (by omega) (by omega), bnd_some, tab_geti (by omega) (by omega), bnd_some, tab_geti (by omega) (by omega), bnd_some, show (2 * (i : Int)).toNat = 2 * i by omega, show (2 * (i : Int) + 1).toNat = 2 * i + 1 by omega]
      have p1 := mul_RQ (ha (2 * i)) (hb (2 * i))
      have p2 := mul_RQ (ha (2 * i + 1)) (hb (2 * i + 1))
      have p3 := mul_RQ (ha (2 * i)) (hb (2 * i + 1))
      have p4 := mul_RQ (ha (2 * i + 1)) (hb (2 * i))
      have p5 := mul_RQ (x := a (2 * i + 1) * b (2 * i + 1) % 3329) ⟨by omega, by omega⟩ hg
      rw [w64 (n := a (2 * i + 1) * b (2 * i + 1)) (by omega) (by omega), tmd (a := a (2 * i + 1) * b (2 * i + 1)) (by omega)]
      generalize a (2 * i + 1) * b (2 * i + 1) % 3329 * g2 i = q5 at p5 m0
      generalize a (2 * i) * b (2 * i) = q1 at p1 m0
      generalize a (2 * i) * b (2 * i + 1) = q3 at p3 m1
      generalize a (2 * i + 1) * b (2 * i) = q4 at p4 m1
      rw [w64 (n := q1) (by omega) (by omega), w64 (n := q5) (by omega) (by omega), w64 (n := q1 + q5) (by omega) (by omega), modQ_ok (x := q1 + q5) (by omega) (by omega), bnd_some, tab_geti (by omega) (by omega), bnd_some, tab_get (by omega), bnd_some, w64 (n := q3) (by omega) (by omega), w64 (n := q4) (by omega) (by omega), w64 (n := q3 + q4) (by omega) (by omega), modQ_ok (x := q3 + q4) (by omega) (by omega), bnd_some, tab_set, tab_geti (by omega) (by omega), bnd_some, tab_get (by omega), bnd_some, tab_set, w64 (by omega) (by omega), show ((i : Int) + 1) = ((i + 1 : Nat) : Int) by omega]
      refine congrArg (fun L => some (Sum.inl ((_, (_, (L, _))), _))) (tab_ext ?_)
      intro j hj
      by_cases h : j = 2 * i + 1
      · subst h; rw [if_pos rfl, if_pos (by omega), m1]
      · rw [if_neg h]
        by_cases h0 : j = 2 * i
        · subst h0; rw [if_pos rfl, if_pos (by omega), m0]
        · rw [if_neg h0]
          by_cases h2 : j < 2 * i
          · rw [if_pos h2, if_pos (by omega)]
          · rw [if_neg h2, if_neg (by omega)]
    · unfold impl_MulNtt.l5
      simp only
      rw [cond_f (by omega)]
      refine congrArg (fun L => some (Sum.inr (Sum.inl ((L, _), _)))) (tab_ext ?_)
      intro j hj
      rw [if_pos hj]
  unfold impl_MulNtt.f
  simp only
  rw [impl_PolyOk_ok ha]
  simp only [bnd_some, Bool.not_true, cond_false]
  rw [impl_PolyOk_ok hb]
  simp only [bnd_some, Bool.not_true, cond_false]
  rw [show Int.toNat 256 = 256 from rfl, hit]
  rfl
end Go.Vi

set_option autoImplicit false
set_option linter.unusedVariables false
set_option linter.unusedSimpArgs false
namespace Go.Vi
open Go
theorem spec_MulNtt_ok {a b : Nat → Int} (ha : ∀ i, RQ (a i)) (hb : ∀ i, RQ (b i)) : spec_MulNtt.f (tab 256 a, (tab 256 b, ())) = some ((tab 256 (muI a b), ()), ()) := by
  have hit : iter spec_MulNtt.l5 ((tab 256 a, (tab 256 b, ([], (0, ())))), ()) = some (.inl ((tab 256 (muI a b), ()), ())) := by
    refine iter_for' (fun i => ((tab 256 a, (tab 256 b, (tab (2 * i) (muI a b), ((i : Int), ())))), ())) 128 rfl ?_ ?_
    · intro i hi
      have h7 := t7_lt i 7
      have hg := g2_R (i := i)
      have m0 : muI a b (2 * i) = (a (2 * i) * b (2 * i) + a (2 * i + 1) * b (2 * i + 1) % 3329 * g2 i) % 3329 := by unfold muI; rw [if_pos (by omega), show 2 * i / 2 = i by omega]
      have m1 : muI a b (2 * i + 1) = (a (2 * i) * b (2 * i + 1) + a (2 * i + 1) * b (2 * i)) % 3329 := by unfold muI; rw [if_neg (by omega), show 2 * i + 1 - 1 = 2 * i by omega]
      unfold spec_MulNtt.l5
      simp only
      rw [cond_t (by omega), spec_Turn7_ok (by omega), bnd_some]
      simp only
      rw [w64 (n := 2 * ((t7 i 7 : Nat) : Int)) (by omega) (by omega), w64 (n := 2 * ((t7 i 7 : Nat) : Int) + 1) (by omega) (by omega), show 2 * ((t7 i 7 : Nat) : Int) + 1 = ((2 * t7 i 7 + 1 : Nat) : Int) by omega, spec_PowQ_ok (by omega) (by omega), bnd_some]
      simp only
      rw [show powI 17 ((2 * t7 i 7 + 1 : Nat) : Int) = g2 i from rfl]
      have g : ∀ W : Nat → Int, geti (tab 256 W) (2 * (i : Int)) = some (W (2 * i)) := fun W => by rw [tab_geti (by omega) (by omega), show (2 * (i : Int)).toNat = 2 * i by omega]
      have g' : ∀ W : Nat → Int, geti (tab 256 W) (2 * (i : Int) + 1) = some (W (2 * i + 1)) := fun W => by rw [tab_geti (by omega) (by omega), show (2 * (i : Int) + 1).toNat = 2 * i + 1 by omega]
      rw [w64 (n := 2 * (i : Int)) (by omega) (by omega), w64 (n := 2 * (i : Int) + 1) (by omega) (by omega)]
      simp only [g, g', bnd_some]
      have p1 := mul_RQ (ha (2 * i)) (hb (2 * i))
      have p2 := mul_RQ (ha (2 * i + 1)) (hb (2 * i + 1))
      have p3 := mul_RQ (ha (2 * i)) (hb (2 * i + 1))
      have p4 := mul_RQ (ha (2 * i + 1)) (hb (2 * i))
      have p5 := mul_RQ (x := a (2 * i + 1) * b (2 * i + 1) % 3329) ⟨by omega, by omega⟩ hg
      rw [w64 (n := a (2 * i + 1) * b (2 * i + 1)) (by omega) (by omega), tmd (a := a (2 * i + 1) * b (2 * i + 1)) (by omega)]
      have hr : tab (2 * (i + 1)) (muI a b) = tab (2 * i) (muI a b) ++ [muI a b (2 * i), muI a b (2 * i + 1)] := by
        rw [show 2 * (i + 1) = 2 * i + 1 + 1 by omega, ← tab_snoc (2 * i + 1), ← tab_snoc (2 * i), List.append_assoc]
        rfl
      rw [hr, m0, m1]
      generalize a (2 * i + 1) * b (2 * i + 1) % 3329 * g2 i = q5 at p5
      generalize a (2 * i) * b (2 * i) = q1 at p1
      generalize a (2 * i) * b (2 * i + 1) = q3 at p3
      generalize a (2 * i + 1) * b (2 * i) = q4 at p4
      rw [w64 (n := q1) (by omega) (by omega), w64 (n := q5) (by omega) (by omega), w64 (n := q1 + q5) (by omega) (by omega), w64 (n := q3) (by omega) (by omega), w64 (n := q4) (by omega) (by omega), w64 (n := q3 + q4) (by omega) (by omega), tmd (a := q1 + q5) (by omega), tmd (a := q3 + q4) (by omega), app_ok (by rw [tab_len]; simp; omega), bnd_some, w64 (by omega) (by omega), show ((i : Int) + 1) = ((i + 1 : Nat) : Int) by omega]
    · unfold spec_MulNtt.l5
      simp only
      rw [cond_f (by omega)]
  unfold spec_MulNtt.f
  simp only
  rw [spec_PolyOk_ok ha]
  simp only [bnd_some, Bool.not_true, cond_false]
  rw [spec_PolyOk_ok hb]
  simp only [bnd_some, Bool.not_true, cond_false]
  rw [hit]
  rfl
/-! ## Sums of products of two -/
noncomputable def dotI (a b : Nat → Nat → Int) : Nat → Nat → Int
  | 0 => fun _ => 0
  | n + 1 => addI (dotI a b n) (muI (a n) (b n))
theorem dotI_R (a b : Nat → Nat → Int) : ∀ n i, RQ (dotI a b n i)
  | 0 => fun _ => by unfold dotI; constructor <;> omega
  | n + 1 => addI_R _ _
theorem impl_dot_ok {a b : Nat → Nat → Int} {n : Nat} (hn : n ≤ 100) (ha : ∀ k i, RQ (a k i)) (hb : ∀ k i, RQ (b k i)) :
    impl_dot.f (tab n (fun k => tab 256 (a k)), (tab n (fun k => tab 256 (b k)), ())) = some ((tab 256 (dotI a b n), ()), ()) := by
  have hit : iter impl_dot.l0 ((tab n (fun k => tab 256 (a k)), (tab n (fun k => tab 256 (b k)), ((List.replicate 256 0), ((n : Int), (0, ()))))), ()) = some (.inl ((tab 256 (dotI a b n), ()), ())) := by
    refine iter_for' (fun k => ((tab n (fun k => tab 256 (a k)), (tab n (fun k => tab 256 (b k)), (tab 256 (dotI a b k), ((n : Int), ((k : Int), ()))))), ())) n ?_ ?_ ?_
    · have : tab 256 (dotI a b 0) = List.replicate 256 0 := by rw [tab_rep]; rfl
      rw [this]; rfl
    · intro k hk
      unfold impl_dot.l0
      simp only
      rw [cond_t (by omega), tab_geti (by omega) (by omega), bnd_some, tab_geti (by omega) (by omega), bnd_some, show ((k : Int)).toNat = k by omega, impl_MulNtt_ok (ha k) (hb k), bnd_some, impl_PolyAdd_ok (dotI_R a b k) (muI_R _ _), bnd_some, w64 (by omega) (by omega), show ((k : Int) + 1) = ((k + 1 : Nat) : Int) by omega]
      rfl
    · unfold impl_dot.l0
      simp only
      rw [cond_f (by omega)]
  unfold impl_dot.f
  simp only
  rw [tab_len, show Int.toNat 256 = 256 from rfl, hit]
  rfl
theorem spec_l13Sum_ok {a b : Nat → Nat → Int} {n : Nat} (hn : n ≤ 100) (ha : ∀ k i, RQ (a k i)) (hb : ∀ k i, RQ (b k i)) :
    spec_l13Sum.f (tab n (fun k => tab 256 (a k)), (tab n (fun k => tab 256 (b k)), ())) = some ((tab 256 (dotI a b n), ()), ()) := by
  have hit : iter spec_l13Sum.l0 ((tab n (fun k => tab 256 (a k)), (tab n (fun k => tab 256 (b k)), ((List.replicate 256 0), (0, ())))), ()) = some (.inl ((tab 256 (dotI a b n), ()), ())) := by
    refine iter_for' (fun k => ((tab n (fun k => tab 256 (a k)), (tab n (fun k => tab 256 (b k)), (tab 256 (dotI a b k), ((k : Int), ())))), ())) n ?_ ?_ ?_
    · have : tab 256 (dotI a b 0) = List.replicate 256 0 := by rw [tab_rep]; rfl
      rw [this]; rfl
    · intro k hk
      unfold spec_l13Sum.l0
      simp only
      rw [tab_len, cond_t (by omega), tab_geti (by omega) (by omega), bnd_some, tab_geti (by omega) (by omega), bnd_some, show ((k : Int)).toNat = k by omega, spec_MulNtt_ok (ha k) (hb k), bnd_some, spec_PolyAdd_ok (dotI_R a b k) (muI_R _ _), bnd_some, w64 (by omega) (by omega), show ((k : Int) + 1) = ((k + 1 : Nat) : Int) by omega]
      rfl
    · unfold spec_l13Sum.l0
      simp only
      rw [tab_len, cond_f (by omega)]
  unfold spec_l13Sum.f
  simp only
  rw [show Int.toNat 256 = 256 from rfl, hit]
  rfl
/-! ## A byte -/
def one (n : Nat) : List UInt8 := [UInt8.ofNat n]
theorem impl_oneByte_ok {n : Nat} (h : n < 256) : impl_oneByte.f ((n : Int), ()) = some ((one n, ()), ()) := by
  unfold impl_oneByte.f
  simp only
  rw [w8i (by omega) (by omega)]
  simp [ofBytes, one]
theorem spec_l06Byte_ok {n : Nat} (h : n < 256) : spec_l06Byte.f ((n : Int), ()) = some ((one n, ()), ()) := by
  unfold spec_l06Byte.f
  simp only
  rw [tmd (by omega), cond_f (by omega), w8i (by omega) (by omega), show (n : Int) % 256 = (n : Int) by omega]
  simp [ofBytes, one]
/-! ## Small polynomials -/
def nib (s : List UInt8) (i : Nat) : Nat := byn s (i / 2) / 16 ^ (i % 2)
theorem nib_lt (s : List UInt8) (i : Nat) : nib s i < 256 := Nat.lt_of_le_of_lt (Nat.div_le_self _ _) (byn_lt _ _)
def smI (s : List UInt8) (i : Nat) : Int := (((nib s i % 2 : Nat) : Int) + ((nib s i / 2 % 2 : Nat) : Int) - ((nib s i / 4 % 2 : Nat) : Int) - ((nib s i / 8 % 2 : Nat) : Int)) % 3329
theorem smI_R (s : List UInt8) (i : Nat) : RQ (smI s i) := by unfold smI; constructor <;> omega
theorem ishr64c {c k : Nat} (hk : k ≤ 60) : ishr .i64 (c : Int) (k : Int) = ((c / 2 ^ k : Nat) : Int) := by
  unfold ishr
  rw [show min (k : Int).toNat IntKind.i64.bits = k by show min (k : Int).toNat 64 = k; omega]
  have : (2 ^ k : Int) = ((2 ^ k : Nat) : Int) := by simp
  rw [this, Int.fdiv_eq_ediv_of_nonneg _ (Int.natCast_nonneg _)]
  rfl
theorem impl_small_loop {s : List UInt8} (hs : s.length = 128) : iter impl_Small.l3 ((s, ((List.replicate 256 0), (256, (0, ())))), ()) = some (.inl ((tab 256 (smI s), ()), ())) := by
  refine iter_for' (fun i => ((s, (tab 256 (fun j => if j < i then smI s j else 0), (256, ((i : Int), ())))), ())) 256 ?_ ?_ ?_
  · have : tab 256 (fun j => if j < 0 then smI s j else 0) = List.replicate 256 0 := by rw [tab_rep]; simp
    rw [this]; rfl
  · intro i hi
    unfold impl_Small.l3
    simp only
    have hb := byn_lt s (i / 2)
    have e2 : ((i : Int) / 2).toNat = i / 2 := by omega
    rw [cond_t (by omega), tdv (by omega), tmd (by omega), w64 (n := (i : Int) / 2) (by omega) (by omega), geti_ok (by omega) (by omega), bnd_some, w64 (n := 4 * ((i : Int) % 2)) (by omega) (by omega), cond_f (by omega), e2]
    have ey : (((s.getD (i / 2) default).toNat : Nat) : Int) = ((byn s (i / 2) : Nat) : Int) := rfl
    have hn := nib_lt s i
    have ec : IntKind.wrap .i64 (ishr .u8 ((byn s (i / 2) : Nat) : Int) (4 * ((i : Int) % 2))) = ((nib s i : Nat) : Int) := by
      have : ishr .u8 ((byn s (i / 2) : Nat) : Int) (4 * ((i : Int) % 2)) = ((nib s i : Nat) : Int) := by
        unfold ishr nib
        rw [show min (4 * ((i : Int) % 2)).toNat IntKind.u8.bits = 4 * (i % 2) by show min (4 * ((i : Int) % 2)).toNat 8 = 4 * (i % 2); omega]
        have : (2 ^ (4 * (i % 2)) : Int) = ((16 ^ (i % 2) : Nat) : Int) := by rw [show (16 : Nat) = 2 ^ 4 from rfl, ← Nat.pow_mul]; simp
        rw [this, Int.fdiv_eq_ediv_of_nonneg _ (Int.natCast_nonneg _)]
        rfl
      rw [this, w64 (by omega) (by omega)]
    rw [ey, ec]
    have r1 := ishr64c (c := nib s i) (k := 1) (by omega)
    have r2 := ishr64c (c := nib s i) (k := 2) (by omega)
    have r3 := ishr64c (c := nib s i) (k := 3) (by omega)
    simp only [Int.cast_ofNat_Int, Nat.reducePow] at r1 r2 r3
    rw [show ishr .i64 ((nib s i : Nat) : Int) 1 = _ from r1, r2, r3, iand1 (by omega), iand1 (by omega), iand1 (by omega), iand1 (by omega)]
    have hm : smI s i = (((nib s i % 2 : Nat) : Int) + ((nib s i / 2 % 2 : Nat) : Int) - ((nib s i / 4 % 2 : Nat) : Int) - ((nib s i / 8 % 2 : Nat) : Int)) % 3329 := rfl
    generalize nib s i = c at hn hm
    rw [w64 (n := ((c % 2 : Nat) : Int) + ((c / 2 % 2 : Nat) : Int)) (by omega) (by omega), w64 (n := ((c % 2 : Nat) : Int) + ((c / 2 % 2 : Nat) : Int) - ((c / 4 % 2 : Nat) : Int)) (by omega) (by omega), w64 (n := ((c % 2 : Nat) : Int) + ((c / 2 % 2 : Nat) : Int) - ((c / 4 % 2 : Nat) : Int) - ((c / 8 % 2 : Nat) : Int)) (by omega) (by omega), modQ_ok (x := ((c % 2 : Nat) : Int) + ((c / 2 % 2 : Nat) : Int) - ((c / 4 % 2 : Nat) : Int) - ((c / 8 % 2 : Nat) : Int)) (by omega) (by omega), bnd_some, tab_geti (by omega) (by omega), bnd_some, show ((i : Int)).toNat = i by omega, tab_get (by omega), bnd_some, tab_set, w64 (by omega) (by omega), show ((i : Int) + 1) = ((i + 1 : Nat) : Int) by omega, ← hm]
    refine congrArg (fun L => some (Sum.inl ((_, (L, _)), _))) (tab_ext ?_)
    intro j hj
    by_cases h : j = i
    · subst h; rw [if_pos rfl, if_pos (by omega)]
    · rw [if_neg h]
      by_cases h2 : j < i
      · rw [if_pos h2, if_pos (by omega)]
      · rw [if_neg h2, if_neg (by omega)]
  · unfold impl_Small.l3
    simp only
    rw [cond_f (by omega)]
    refine congrArg (fun L => some (Sum.inr (Sum.inl ((L, _), _)))) (tab_ext ?_)
    intro j hj
    rw [if_pos hj]
theorem impl_Small_ok {s : List UInt8} {n : Nat} (h : s.length ≤ 100000) (hn : n < 256) : impl_Small.f (s, ((n : Int), ())) = some ((tab 256 (smI (shk (s ++ one n) 128)), ()), ()) := by
  have hsh := impl_ShakeOf_ok (s := s ++ one n) (n := 128) (by simp [one]; omega) (by omega)
  simp only [Int.cast_ofNat_Int] at hsh
  unfold impl_Small.f
  simp only
  rw [impl_oneByte_ok hn, bnd_some, cat_ok (by simp [one]; omega), bnd_some, show impl_ShakeOf.f (s ++ one n, (128, ())) = _ from hsh, bnd_some]
  simp only
  rw [show Int.toNat 256 = 256 from rfl, List.length_replicate, show (((256 : Nat)) : Int) = 256 from rfl, impl_small_loop (by simp [shk, tab_len])]
  rfl
end Go.Vi

set_option autoImplicit false
set_option linter.unusedVariables false
set_option linter.unusedSimpArgs false
namespace Go.Vi
open Go
/-! ## Chains and trees -/
def chop (s : List UInt8) : List UInt8 := (dig s).take 4
theorem chop_len (s : List UInt8) : (chop s).length = 4 := by simp [chop, dig_len]
theorem slc4 (s : List UInt8) : slc (dig s) 0 4 = some (chop s) := by
  rw [slc_ok (by omega) (by omega) (by rw [dig_len]; omega)]
  rfl
theorem impl_Chop_ok {s : List UInt8} (h : s.length ≤ 1000000) : impl_Chop.f (s, ()) = some ((chop s, ()), ()) := by
  unfold impl_Chop.f
  simp only
  rw [impl_DigestOf_ok (by omega), bnd_some, slc4, bnd_some]
theorem spec_Chop_ok {s : List UInt8} (h : s.length ≤ 1000000) : spec_Chop.f (s, ()) = some ((chop s, ()), ()) := by
  unfold spec_Chop.f
  simp only
  rw [spec_DigestOf_ok (by omega), bnd_some, slc4, bnd_some]
theorem one_len (n : Nat) : (one n).length = 1 := rfl
def chn (x : List UInt8) (leaf c : Nat) : Nat → List UInt8
  | 0 => x
  | k + 1 => chop (one leaf ++ one c ++ one k ++ chn x leaf c k)
theorem chn_len {x : List UInt8} (h : x.length = 4) (leaf c : Nat) : ∀ k, (chn x leaf c k).length = 4
  | 0 => h
  | k + 1 => chop_len _
theorem impl_ChainOf_ok {x : List UInt8} (hx : x.length = 4) {leaf c : Nat} (h1 : leaf < 256) (h2 : c < 256) : impl_ChainOf.f (x, ((leaf : Int), ((c : Int), (0, (15, ()))))) = some ((chn x leaf c 15, ()), ()) := by
  have hit : iter impl_ChainOf.l0 ((x, ((leaf : Int), ((c : Int), (0, (15, (0, ())))))), ()) = some (.inl ((chn x leaf c 15, ()), ())) := by
    refine iter_for' (fun k => ((chn x leaf c k, ((leaf : Int), ((c : Int), (0, (15, ((k : Int), ())))))), ())) 15 rfl ?_ ?_
    · intro k hk
      have hl := chn_len hx leaf c k
      unfold impl_ChainOf.l0
      simp only
      rw [cond_t (by omega), impl_oneByte_ok h1, bnd_some, impl_oneByte_ok h2, bnd_some, cat_ok (by simp [one_len]), bnd_some, w64 (n := (0 : Int) + (k : Int)) (by omega) (by omega), Int.zero_add, impl_oneByte_ok (by omega), bnd_some, cat_ok (by simp [one_len]), bnd_some, cat_ok (by simp [one_len, hl]), bnd_some, impl_Chop_ok (by simp [one_len, hl]), bnd_some, w64 (by omega) (by omega), show ((k : Int) + 1) = ((k + 1 : Nat) : Int) by omega]
      rfl
    · unfold impl_ChainOf.l0
      simp only
      rw [cond_f (by omega)]
  unfold impl_ChainOf.f
  simp only
  rw [show mn 15 15 = 15 from rfl, hit]
  rfl
theorem spec_ChainOf_ok {x : List UInt8} (hx : x.length = 4) {leaf c : Nat} (h1 : leaf < 256) (h2 : c < 256) : spec_ChainOf.f (x, ((leaf : Int), ((c : Int), (0, (15, ()))))) = some ((chn x leaf c 15, ()), ()) := by
  have hit : iter spec_ChainOf.l0 ((x, ((leaf : Int), ((c : Int), (0, (15, (0, ())))))), ()) = some (.inl ((chn x leaf c 15, ()), ())) := by
    refine iter_for' (fun k => ((chn x leaf c k, ((leaf : Int), ((c : Int), (0, (15, ((k : Int), ())))))), ())) 15 rfl ?_ ?_
    · intro k hk
      have hl := chn_len hx leaf c k
      unfold spec_ChainOf.l0
      simp only
      rw [cond_t (by omega)]
      simp only [bnd_some]
      rw [cond_t (by omega), spec_l06Byte_ok h1, bnd_some, spec_l06Byte_ok h2, bnd_some, cat_ok (by simp [one_len]), bnd_some, show Int.tmod 0 256 = 0 by decide, w64 (n := (0 : Int) + (k : Int)) (by omega) (by omega), Int.zero_add, spec_l06Byte_ok (by omega), bnd_some, cat_ok (by simp [one_len]), bnd_some, cat_ok (by simp [one_len, hl]), bnd_some, spec_Chop_ok (by simp [one_len, hl]), bnd_some, w64 (by omega) (by omega), show ((k : Int) + 1) = ((k + 1 : Nat) : Int) by omega]
      rfl
    · unfold spec_ChainOf.l0
      simp only
      rw [cond_f (by omega)]
      simp only [bnd_some, cond_false]
  unfold spec_ChainOf.f
  simp only
  rw [hit]
  rfl
def onk (s : List UInt8) (leaf c : Nat) : List UInt8 := chop (s ++ one leaf ++ one c ++ [111])
theorem impl_OnceKey_ok {s : List UInt8} (hs : s.length ≤ 10000) {leaf : Nat} (h1 : leaf < 256) : impl_OnceKey.f (s, ((leaf : Int), ())) = some ((tab 10 (onk s leaf), ()), ()) := by
  have hit : iter impl_OnceKey.l0 ((s, ((leaf : Int), ([], (0, ())))), ()) = some (.inl ((tab 10 (onk s leaf), ()), ())) := by
    refine iter_for' (fun c => ((s, ((leaf : Int), (tab c (onk s leaf), ((c : Int), ())))), ())) 10 rfl ?_ ?_
    · intro c hc
      unfold impl_OnceKey.l0
      simp only
      rw [cond_t (by omega), impl_oneByte_ok h1, bnd_some, cat_ok (by simp [one_len]; omega), bnd_some, impl_oneByte_ok (by omega), bnd_some, cat_ok (by simp [one_len]; omega), bnd_some, cat_ok (by simp [one_len]; omega), bnd_some, impl_Chop_ok (by simp [one_len]; omega), bnd_some, app_ok (by rw [tab_len]; simp; omega), bnd_some, w64 (by omega) (by omega), show ((c : Int) + 1) = ((c + 1 : Nat) : Int) by omega, ← tab_snoc c (onk s leaf)]
      rfl
    · unfold impl_OnceKey.l0
      simp only
      rw [cond_f (by omega)]
  unfold impl_OnceKey.f
  simp only
  rw [hit]
  rfl
theorem spec_OnceKey_ok {s : List UInt8} (hs : s.length ≤ 10000) {leaf : Nat} (h1 : leaf < 256) : spec_OnceKey.f (s, ((leaf : Int), ())) = some ((tab 10 (onk s leaf), ()), ()) := by
  have hit : iter spec_OnceKey.l0 ((s, ((leaf : Int), ([], (0, ())))), ()) = some (.inl ((tab 10 (onk s leaf), ()), ())) := by
    refine iter_for' (fun c => ((s, ((leaf : Int), (tab c (onk s leaf), ((c : Int), ())))), ())) 10 rfl ?_ ?_
    · intro c hc
      unfold spec_OnceKey.l0
      simp only
      rw [cond_t (by omega), spec_l06Byte_ok h1, bnd_some, cat_ok (by simp [one_len]; omega), bnd_some, spec_l06Byte_ok (by omega), bnd_some, cat_ok (by simp [one_len]; omega), bnd_some, cat_ok (by simp [one_len]; omega), bnd_some, spec_Chop_ok (by simp [one_len]; omega), bnd_some, app_ok (by rw [tab_len]; simp; omega), bnd_some, w64 (by omega) (by omega), show ((c : Int) + 1) = ((c + 1 : Nat) : Int) by omega, ← tab_snoc c (onk s leaf)]
      rfl
    · unfold spec_OnceKey.l0
      simp only
      rw [cond_f (by omega)]
  unfold spec_OnceKey.f
  simp only
  rw [hit]
  rfl
def allc (K : Nat → List UInt8) (leaf : Nat) : Nat → List UInt8
  | 0 => []
  | c + 1 => allc K leaf c ++ chn (K c) leaf c 15
theorem allc_len {K : Nat → List UInt8} (hK : ∀ c, (K c).length = 4) (leaf : Nat) : ∀ c, (allc K leaf c).length = 4 * c
  | 0 => rfl
  | c + 1 => by simp [allc, allc_len hK leaf c, chn_len (hK c)]; omega
def onp (K : Nat → List UInt8) (leaf : Nat) : List UInt8 := chop (allc K leaf 10)
theorem impl_OncePublic_ok {K : Nat → List UInt8} (hK : ∀ c, (K c).length = 4) {leaf : Nat} (h1 : leaf < 256) : impl_OncePublic.f (tab 10 K, ((leaf : Int), ())) = some ((onp K leaf, ()), ()) := by
  have hit : iter impl_chopped.l0 (((leaf : Int), ((), ((), ([], (tab 10 K, (10, (0, ()))))))), ()) = some (.inl ((allc K leaf 10, ()), ())) := by
    refine iter_for' (fun c => (((leaf : Int), ((), ((), (allc K leaf c, (tab 10 K, (10, ((c : Int), ()))))))), ())) 10 rfl ?_ ?_
    · intro c hc
      have hl := allc_len hK leaf c
      have hc15 := chn_len (hK c) leaf c 15
      unfold impl_chopped.l0 impl_OncePublic_1.f impl_OncePublic_2.f
      simp only
      rw [cond_t (by omega), tab_geti (by omega) (by omega), bnd_some, bnd_some, bnd_some, show ((c : Int)).toNat = c by omega]
      simp only
      rw [impl_ChainOf_ok (hK c) h1 (by omega), bnd_some, cat_ok (by simp only [hl, hc15]; omega), bnd_some, w64 (by omega) (by omega), show ((c : Int) + 1) = ((c + 1 : Nat) : Int) by omega]
      rfl
    · unfold impl_chopped.l0
      simp only
      rw [cond_f (by omega)]
  unfold impl_OncePublic.f impl_chopped.f
  simp only
  rw [cond_nf (by rw [tab_len]; rfl), tab_len, show (((10 : Nat)) : Int) = 10 from rfl, hit]
  simp only [bnd_some]
  rw [impl_Chop_ok (by rw [allc_len hK]; omega), bnd_some, bnd_some]
  rfl
theorem spec_OncePublic_ok {K : Nat → List UInt8} (hK : ∀ c, (K c).length = 4) {leaf : Nat} (h1 : leaf < 256) : spec_OncePublic.f (tab 10 K, ((leaf : Int), ())) = some ((onp K leaf, ()), ()) := by
  have hit : iter spec_OncePublic.l0 ((tab 10 K, ((leaf : Int), ([], (0, ())))), ()) = some (.inl ((allc K leaf 10, ()), ())) := by
    refine iter_for' (fun c => ((tab 10 K, ((leaf : Int), (allc K leaf c, ((c : Int), ())))), ())) 10 rfl ?_ ?_
    · intro c hc
      have hl := allc_len hK leaf c
      have hc15 := chn_len (hK c) leaf c 15
      unfold spec_OncePublic.l0
      simp only
      rw [cond_t (by omega), tab_geti (by omega) (by omega), bnd_some, show ((c : Int)).toNat = c by omega, spec_ChainOf_ok (hK c) h1 (by omega), bnd_some, cat_ok (by simp only [hl, hc15]; omega), bnd_some, w64 (by omega) (by omega), show ((c : Int) + 1) = ((c + 1 : Nat) : Int) by omega]
      rfl
    · unfold spec_OncePublic.l0
      simp only
      rw [cond_f (by omega)]
  unfold spec_OncePublic.f
  simp only
  rw [cond_nf (by rw [tab_len]; rfl), hit]
  simp only [bnd_some]
  rw [spec_Chop_ok (by rw [allc_len hK]; omega), bnd_some]
  rfl
def lvs (s : List UInt8) (leaf : Nat) : List UInt8 := onp (onk s leaf) leaf
theorem lvs_len (s : List UInt8) (leaf : Nat) : (lvs s leaf).length = 4 := chop_len _
theorem impl_leavesOf_ok {s : List UInt8} (hs : s.length ≤ 10000) : impl_leavesOf.f (s, ()) = some ((tab 4 (lvs s), ()), ()) := by
  have hit : iter impl_leavesOf.l0 ((s, ([], (0, ()))), ()) = some (.inl ((tab 4 (lvs s), ()), ())) := by
    refine iter_for' (fun i => ((s, (tab i (lvs s), ((i : Int), ()))), ())) 4 rfl ?_ ?_
    · intro i hi
      unfold impl_leavesOf.l0
      simp only
      rw [cond_t (by omega), impl_OnceKey_ok hs (by omega), bnd_some, impl_OncePublic_ok (K := onk s i) (leaf := i) (fun c => chop_len _) (by omega), bnd_some, app_ok (by rw [tab_len]; simp; omega), bnd_some, w64 (by omega) (by omega), show ((i : Int) + 1) = ((i + 1 : Nat) : Int) by omega, ← tab_snoc i (lvs s)]
      rfl
    · unfold impl_leavesOf.l0
      simp only
      rw [cond_f (by omega)]
  unfold impl_leavesOf.f
  simp only
  rw [hit]
  rfl
theorem spec_l16Leaves_ok {s : List UInt8} (hs : s.length ≤ 10000) : spec_l16Leaves.f (s, ()) = some ((tab 4 (lvs s), ()), ()) := by
  have hit : iter spec_l16Leaves.l0 ((s, ([], (0, ()))), ()) = some (.inl ((tab 4 (lvs s), ()), ())) := by
    refine iter_for' (fun i => ((s, (tab i (lvs s), ((i : Int), ()))), ())) 4 rfl ?_ ?_
    · intro i hi
      unfold spec_l16Leaves.l0
      simp only
      rw [cond_t (by omega), spec_OnceKey_ok hs (by omega), bnd_some, spec_OncePublic_ok (K := onk s i) (leaf := i) (fun c => chop_len _) (by omega), bnd_some, app_ok (by rw [tab_len]; simp; omega), bnd_some, w64 (by omega) (by omega), show ((i : Int) + 1) = ((i + 1 : Nat) : Int) by omega, ← tab_snoc i (lvs s)]
      rfl
    · unfold spec_l16Leaves.l0
      simp only
      rw [cond_f (by omega)]
  unfold spec_l16Leaves.f
  simp only
  rw [hit]
  rfl
end Go.Vi

set_option autoImplicit false
set_option linter.unusedVariables false
set_option linter.unusedSimpArgs false
namespace Go.Vi
open Go
def ndI (level i : Nat) (a b : List UInt8) : List UInt8 := chop (one level ++ one i ++ a ++ b ++ [110])
theorem impl_Node_ok {level i : Nat} {a b : List UInt8} (h1 : level < 256) (h2 : i < 256) (ha : a.length = 4) (hb : b.length = 4) : impl_Node.f ((level : Int), ((i : Int), (a, (b, ())))) = some ((ndI level i a b, ()), ()) := by
  unfold impl_Node.f
  simp only
  rw [impl_oneByte_ok h1, bnd_some, impl_oneByte_ok h2, bnd_some, cat_ok (by simp [one_len]), bnd_some, cat_ok (by simp [one_len, ha]), bnd_some, cat_ok (by simp [one_len, ha, hb]), bnd_some, cat_ok (by simp [one_len, ha, hb]), bnd_some, impl_Chop_ok (by simp [one_len, ha, hb]), bnd_some]
  rfl
theorem spec_Node_ok {level i : Nat} {a b : List UInt8} (h1 : level < 256) (h2 : i < 256) (ha : a.length = 4) (hb : b.length = 4) : spec_Node.f ((level : Int), ((i : Int), (a, (b, ())))) = some ((ndI level i a b, ()), ()) := by
  unfold spec_Node.f
  simp only
  rw [spec_l06Byte_ok h1, bnd_some, spec_l06Byte_ok h2, bnd_some, cat_ok (by simp [one_len]), bnd_some, cat_ok (by simp [one_len, ha]), bnd_some, cat_ok (by simp [one_len, ha, hb]), bnd_some, cat_ok (by simp [one_len, ha, hb]), bnd_some, spec_Chop_ok (by simp [one_len, ha, hb]), bnd_some]
  rfl
def upI (level : Nat) (L : Nat → List UInt8) (i : Nat) : List UInt8 := ndI level i (L (2 * i)) (L (2 * i + 1))
theorem upI_len (level : Nat) (L : Nat → List UInt8) (i : Nat) : (upI level L i).length = 4 := chop_len _
theorem impl_LevelUp_ok {level m : Nat} {L : Nat → List UInt8} (h1 : level < 256) (hm : m ≤ 100) (hL : ∀ i, (L i).length = 4) : impl_LevelUp.f ((level : Int), (tab (2 * m) L, ())) = some ((tab m (upI level L), ()), ()) := by
  have hit : iter impl_LevelUp.l0 (((level : Int), (tab (2 * m) L, ([], (0, ())))), ()) = some (.inl ((tab m (upI level L), ()), ())) := by
    refine iter_for' (fun i => (((level : Int), (tab (2 * m) L, (tab i (upI level L), (((2 * i : Nat) : Int), ())))), ())) m rfl ?_ ?_
    · intro i hi
      unfold impl_LevelUp.l0
      simp only
      rw [w64 (n := ((2 * i : Nat) : Int) + 1) (by omega) (by omega), cond_t (by rw [tab_len]; omega), tab_geti (by omega) (by omega), bnd_some, tab_geti (by omega) (by omega), bnd_some, show ((2 * i : Nat) : Int).toNat = 2 * i by omega, show (((2 * i : Nat) : Int) + 1).toNat = 2 * i + 1 by omega, tdv (by omega), show ((2 * i : Nat) : Int) / 2 = (i : Int) by omega, w64 (n := (i : Int)) (by omega) (by omega), impl_Node_ok h1 (by omega) (hL _) (hL _), bnd_some, app_ok (by rw [tab_len]; simp; omega), bnd_some, w64 (by omega) (by omega), show ((2 * i : Nat) : Int) + 2 = ((2 * (i + 1) : Nat) : Int) by omega, ← tab_snoc i (upI level L)]
      rfl
    · unfold impl_LevelUp.l0
      simp only
      rw [w64 (by omega) (by omega), cond_f (by rw [tab_len]; omega)]
  unfold impl_LevelUp.f
  simp only
  rw [hit]
  rfl
theorem spec_LevelUp_ok {level m : Nat} {L : Nat → List UInt8} (h1 : level < 256) (hm : m ≤ 100) (hL : ∀ i, (L i).length = 4) : spec_LevelUp.f ((level : Int), (tab (2 * m) L, ())) = some ((tab m (upI level L), ()), ()) := by
  have hit : iter spec_LevelUp.l0 (((level : Int), (tab (2 * m) L, ([], (0, ())))), ()) = some (.inl ((tab m (upI level L), ()), ())) := by
    refine iter_for' (fun i => (((level : Int), (tab (2 * m) L, (tab i (upI level L), ((i : Int), ())))), ())) m rfl ?_ ?_
    · intro i hi
      unfold spec_LevelUp.l0
      simp only
      rw [w64 (n := 2 * (i : Int)) (by omega) (by omega), w64 (n := 2 * (i : Int) + 1) (by omega) (by omega), cond_t (by rw [tab_len]; omega), tab_geti (by omega) (by omega), bnd_some, tab_geti (by omega) (by omega), bnd_some, show (2 * (i : Int)).toNat = 2 * i by omega, show (2 * (i : Int) + 1).toNat = 2 * i + 1 by omega, spec_Node_ok h1 (by omega) (hL _) (hL _), bnd_some, app_ok (by rw [tab_len]; simp; omega), bnd_some, w64 (by omega) (by omega), show ((i : Int) + 1) = ((i + 1 : Nat) : Int) by omega, ← tab_snoc i (upI level L)]
      rfl
    · unfold spec_LevelUp.l0
      simp only
      rw [w64 (n := 2 * (m : Int)) (by omega) (by omega), w64 (by omega) (by omega), cond_f (by rw [tab_len]; omega)]
  unfold spec_LevelUp.f
  simp only
  rw [hit]
  rfl
def rtI (L : Nat → List UInt8) : List UInt8 := upI 2 (upI 1 L) 0
theorem impl_RootOf_ok {L : Nat → List UInt8} (hL : ∀ i, (L i).length = 4) : impl_RootOf.f (tab 4 L, ()) = some ((rtI L, ()), ()) := by
  have l1 := impl_LevelUp_ok (level := 1) (m := 2) (L := L) (by omega) (by omega) hL
  have l2 := impl_LevelUp_ok (level := 2) (m := 1) (L := upI 1 L) (by omega) (by omega) (upI_len 1 L)
  have s1 : impl_RootOf.l0 ((tab 4 L, (1, ())), ()) = some (.inl ((tab 2 (upI 1 L), (2, ())), ())) := by
    unfold impl_RootOf.l0
    simp only
    rw [cond_t (by rw [tab_len]; omega), show impl_LevelUp.f (1, (tab 4 L, ())) = _ from l1, bnd_some]
    rfl
  have s2 : impl_RootOf.l0 ((tab 2 (upI 1 L), (2, ())), ()) = some (.inl ((tab 1 (upI 2 (upI 1 L)), (3, ())), ())) := by
    unfold impl_RootOf.l0
    simp only
    rw [cond_t (by rw [tab_len]; omega), show impl_LevelUp.f (2, (tab 2 (upI 1 L), ())) = _ from l2, bnd_some]
    rfl
  have s3 : impl_RootOf.l0 ((tab 1 (upI 2 (upI 1 L)), (3, ())), ()) = some (.inr (.inl ((tab 1 (upI 2 (upI 1 L)), ()), ()))) := by
    unfold impl_RootOf.l0
    simp only
    rw [cond_f (by rw [tab_len]; omega)]
  unfold impl_RootOf.f
  simp only
  rw [cond_nf (by rw [tab_len]; rfl), iter_eq, s1]
  simp only [bnd_some]
  rw [iter_eq, s2]
  simp only [bnd_some]
  rw [iter_eq, s3]
  simp only [bnd_some]
  rw [tab_geti (by omega) (by omega), bnd_some]
  rfl
theorem spec_RootOf_ok {L : Nat → List UInt8} (hL : ∀ i, (L i).length = 4) : spec_RootOf.f (tab 4 L, ()) = some ((rtI L, ()), ()) := by
  have l1 := spec_LevelUp_ok (level := 1) (m := 2) (L := L) (by omega) (by omega) hL
  have l2 := spec_LevelUp_ok (level := 2) (m := 1) (L := upI 1 L) (by omega) (by omega) (upI_len 1 L)
  have s1 : spec_RootOf.l0 ((tab 4 L, (1, ())), ()) = some (.inl ((tab 2 (upI 1 L), (2, ())), ())) := by
    unfold spec_RootOf.l0
    simp only
    rw [cond_t (by omega), show spec_LevelUp.f (1, (tab 4 L, ())) = _ from l1, bnd_some]
    rfl
  have s2 : spec_RootOf.l0 ((tab 2 (upI 1 L), (2, ())), ()) = some (.inl ((tab 1 (upI 2 (upI 1 L)), (3, ())), ())) := by
    unfold spec_RootOf.l0
    simp only
    rw [cond_t (by omega), show spec_LevelUp.f (2, (tab 2 (upI 1 L), ())) = _ from l2, bnd_some]
    rfl
  have s3 : spec_RootOf.l0 ((tab 1 (upI 2 (upI 1 L)), (3, ())), ()) = some (.inr (.inl ((tab 1 (upI 2 (upI 1 L)), ()), ()))) := by
    unfold spec_RootOf.l0
    simp only
    rw [cond_f (by omega)]
  unfold spec_RootOf.f
  simp only
  rw [cond_nf (by rw [tab_len]; rfl), iter_eq, s1]
  simp only [bnd_some]
  rw [iter_eq, s2]
  simp only [bnd_some]
  rw [iter_eq, s3]
  simp only [bnd_some]
  rw [tab_geti (by omega) (by omega), bnd_some]
  rfl
def hyp (s : List UInt8) : List UInt8 := rtI (lvs (s ++ [116]))
theorem impl_HyperPublic_ok {s : List UInt8} (hs : s.length ≤ 1000) : impl_HyperPublic.f (s, ()) = some ((hyp s, ()), ()) := by
  unfold impl_HyperPublic.f impl_PublicOf.f
  simp only
  rw [cat_ok (by simp; omega), bnd_some, impl_leavesOf_ok (by simp; omega), bnd_some, impl_RootOf_ok (lvs_len _), bnd_some, bnd_some]
  rfl
theorem spec_HyperPublic_ok {s : List UInt8} (hs : s.length ≤ 1000) : spec_HyperPublic.f (s, ()) = some ((hyp s, ()), ()) := by
  unfold spec_HyperPublic.f spec_PublicOf.f
  simp only
  rw [cat_ok (by simp; omega), bnd_some, spec_l16Leaves_ok (by simp; omega), bnd_some, spec_RootOf_ok (lvs_len _), bnd_some, bnd_some]
  rfl
end Go.Vi

