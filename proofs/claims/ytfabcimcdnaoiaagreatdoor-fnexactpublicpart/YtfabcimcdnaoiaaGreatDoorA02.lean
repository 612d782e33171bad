/- A part of the proof of publicPart_holds: ViP, ViQ, ViR, ViS, ViT, ViU. No condition of its own. -/
import Derived.Test.YtfabcimcdnaoiaaGreatDoorA01
import Derived.Laws.Strings2
import Derived.Lib.ConvBytes
set_option autoImplicit false
set_option linter.unusedVariables false
set_option linter.unusedSimpArgs false
namespace Go.Vi
open Go
section
variable {R : Type} {P : Program}
theorem run_indexAt_slice {t el : TypeId} {e : Ty} (hu : P.underlying t = some (.slice el)) (hl : Lay P e (.inl el) = true) {b o n c : Nat} {k : IntKind} {i : Int} (h0 : 0 ≤ i) (h1 : i < (n : Int)) (w : World) :
    (Instr.indexAt t (.slice (some ⟨b, o, none⟩) n c) (.int k i)).run P w = .ok (.pointer (some ⟨b, o + i.toNat * e.size, none⟩)) w := by
  simp [Instr.indexAt, asIntOf, run_underlying hu, h0, h1, run_sizeOf hl, add_at]
theorem run_indexAt_array {t el : TypeId} {e : Ty} {n : Nat} (hu : P.underlying t = some (.array n el)) (hl : Lay P e (.inl el) = true) {b o : Nat} {k : IntKind} {i : Int} (h0 : 0 ≤ i) (h1 : i < (n : Int)) (w : World) :
    (Instr.indexAt t (.pointer (some ⟨b, o, none⟩)) (.int k i)).run P w = .ok (.pointer (some ⟨b, o + i.toNat * e.size, none⟩)) w := by
  simp [Instr.indexAt, asIntOf, run_underlying hu, Instr.sureAddr, h0, h1, run_sizeOf hl, add_at]
/-- an element of a list of cells -/
theorem cells_elem {A : Nat → Prop} {w : World} {t : Ty} {xs : List t.den} {cs : List Value} {i : Nat} {y : t.den} (h : RepAll (Rep A w t) xs cs) (hi : xs[i]? = some y) {b o : Nat} (hc : CellsAt w b o cs) :
    ∃ mid, Rep A w t y mid ∧ CellsAt w b (o + i * t.size) mid := by
  obtain ⟨pre, c, post, rfl, hpl, hrc, _, _⟩ := RepAll.split (fun x c h => Rep.length h) h hi
  have := CellsAt.mid hc
  rw [hpl] at this
  exact ⟨c, hrc, this⟩

theorem indexAddrK_ok {m : Lk} {ty : Ty} {x i : AV} {K : AV → Option R} {r : R} (h : indexAddrK m ty x i K = some r) :
    ∃ v, K v = some r ∧ ∀ {M : Ms} {L : Lk} {w : World} {t : TypeId} {val iv : Value}, Lay P ty (.inl t) = true → Msk m L → WInv M L w → AVR M L w x val → AVR M L w i iv →
      ∃ val', (Instr.indexAt t val iv).run P w = .ok val' w ∧ AVR M L w v val' := by
  unfold indexAddrK at h
  split at h
  · rename_i k n
    split at h
    · rename_i t id ver
      replace h := beq_case h
      obtain ⟨hv, h⟩ := h
      split at h
      · rename_i s xs hc
        split at h
        · rename_i e
          subst e
          simp only [bnd, Option.bind_eq_some_iff] at h
          obtain ⟨y, hy, h⟩ := h
          obtain ⟨g0, g1, g2⟩ := geti_some hy
          refine ⟨_, h, ?_⟩
          intro M L w tid val iv hl hm hw hx hi
          rw [avr_int.1 hi]
          obtain ⟨el, hu, _, hle⟩ := lay_slice hl
          have hL := hm.eq (i := id) (by rw [hc]; simp)
          have hvL : (L id).1 = ver := by rw [← hL]; exact hv
          have hcL : (L id).2 = .rowb s xs := by rw [← hL]; exact hc
          obtain ⟨rfl, hnil, hs0, hrow⟩ := row_hdr hw hx hvL (.inl hcL)
          cases hι : M.ι id with
          | none => have := hnil hι; rw [this] at g1; simp at g1; omega
          | some p =>
            obtain ⟨b, cap⟩ := p
            refine ⟨_, run_indexAt_slice hu hle g0 g1 w, [_], ⟨⟨_, rfl, rfl⟩, ?_, fun _ => ?_⟩, rfl⟩
            · omega
            · rw [hcL]
              exact ⟨b, cap, _, [], 0, hι, rfl, by omega, offT_nil s, by simp⟩
        · simp at h
      · rename_i s xs hc
        split at h
        · rename_i e
          subst e
          simp only [bnd, Option.bind_eq_some_iff] at h
          obtain ⟨y, hy, h⟩ := h
          obtain ⟨g0, g1, g2⟩ := geti_some hy
          refine ⟨_, h, ?_⟩
          intro M L w tid val iv hl hm hw hx hi
          rw [avr_int.1 hi]
          obtain ⟨el, hu, _, hle⟩ := lay_slice hl
          have hL := hm.eq (i := id) (by rw [hc]; simp)
          have hvL : (L id).1 = ver := by rw [← hL]; exact hv
          have hcL : (L id).2 = .ro s xs := by rw [← hL]; exact hc
          obtain ⟨rfl, hnil, hs0, hrow⟩ := row_hdr hw hx hvL (.inr hcL)
          cases hι : M.ι id with
          | none => have := hnil hι; rw [this] at g1; simp at g1; omega
          | some p =>
            obtain ⟨b, cap⟩ := p
            obtain ⟨hcap, cs, hcells, hrep, hfre⟩ := hrow b cap hι
            obtain ⟨mid, hmid, hcm⟩ := cells_elem hrep g2 hcells
            exact ⟨_, run_indexAt_slice hu hle g0 g1 w, [_], ⟨b, _, mid, rfl, hfre hcL, hcm, hmid⟩, rfl⟩
        · simp at h
      · simp at h
    · rename_i t s xs
      split at h
      · rename_i e
        subst e
        simp only [bnd, Option.bind_eq_some_iff] at h
        obtain ⟨y, hy, h⟩ := h
        obtain ⟨g0, g1, g2⟩ := geti_some hy
        refine ⟨_, h, ?_⟩
        intro M L w tid val iv hl hm hw hx hi
        rw [avr_int.1 hi]
        obtain ⟨el, hu, _, hle⟩ := lay_slice hl
        obtain ⟨cs, ⟨a, c, rfl, _, hr⟩, rfl⟩ := avr_val' hx
        rcases hr with rfl | ⟨b, o, all, rfl, hA, hcells, hrep⟩
        · simp at g1; omega
        · obtain ⟨mid, hmid, hcm⟩ := cells_elem hrep g2 hcells
          exact ⟨_, run_indexAt_slice hu hle g0 g1 w, [_], ⟨b, _, mid, rfl, hA, hcm, hmid⟩, rfl⟩
      · simp at h
    · rename_i t id ver lo hi
      replace h := beq_case h
      obtain ⟨hv, h⟩ := h
      split at h
      · rename_i s xs hc
        split at h
        · rename_i e
          subst e
          simp only [bnd, Option.bind_eq_some_iff] at h
          obtain ⟨y, hy, h⟩ := h
          obtain ⟨g0, g1, g2⟩ := geti_some hy
          refine ⟨_, h, ?_⟩
          intro M L w tid val iv hl hm hw hx hi'
          rw [avr_int.1 hi']
          obtain ⟨el, hu, _, hle⟩ := lay_slice hl
          have hL := hm.eq (i := id) (by rw [hc]; simp)
          have hvL : (L id).1 = ver := by rw [← hL]; exact hv
          have hcL : (L id).2 = .rowb s xs := by rw [← hL]; exact hc
          obtain ⟨rfl, h1, h2, hnil, hs0, hcap⟩ := rowv_hdr hw hx hvL (.inl hcL)
          have hlen : ((xs.take hi).drop lo).length = hi - lo := by simp; omega
          rw [hlen] at g1
          cases hι : M.ι id with
          | none => have := hnil hι; rw [this] at h2; simp at h2; omega
          | some p =>
            obtain ⟨b, cap⟩ := p
            have hcp := hcap b cap hι
            have hne : ¬ cap = lo := by omega
            simp only [hdrv, if_neg hne, add_at, Nat.zero_add]
            refine ⟨_, run_indexAt_slice hu hle g0 g1 w, [_], ⟨⟨_, rfl, rfl⟩, ?_, fun _ => ?_⟩, rfl⟩
            · omega
            · rw [hcL]
              exact ⟨b, cap, _, [], 0, hι, rfl, by omega, offT_nil s, by simp [Nat.add_mul]⟩
        · simp at h
      · simp at h
    · rename_i n' t id ver p s
      split at h
      · rename_i e
        subst e
        replace h := cond_none h
        obtain ⟨hlv, h⟩ := h
        obtain ⟨hv, hn⟩ := live_of hlv
        replace h := cnd_none h
        obtain ⟨hib, h⟩ := h
        simp only [inb, decide_eq_true_eq] at hib
        refine ⟨_, h, ?_⟩
        intro M L w tid val iv hl hm hw hx hi
        rw [avr_int.1 hi]
        obtain ⟨el, hu, _, hle⟩ := lay_array hl
        have hL := hm.eq (i := id) hn
        have hoff : offT (.arr n' t) [.idx (Int.toNat n)] = some (Int.toNat n * t.size, t) := by
          simp only [offT, offT_nil, Option.map_some, Nat.add_zero]
          rw [if_pos (by omega)]
        obtain ⟨a, rfl, hp⟩ := ptr_step hx (by rw [← hL]; exact hv) (by rw [← hL]; exact hn) hoff
        exact ⟨_, run_indexAt_array hu hle hib.1 hib.2 w, hp⟩
      · simp at h
    · rename_i n' t n'' t' xs
      split at h
      · rename_i e
        subst e
        replace h := cond_none h
        obtain ⟨hnn, h⟩ := h
        have hnn := Nat.eq_of_beq_eq_true hnn
        subst hnn
        simp only [bnd, Option.bind_eq_some_iff] at h
        obtain ⟨y, hy, h⟩ := h
        obtain ⟨g0, g1, g2⟩ := geti_some hy
        refine ⟨_, h, ?_⟩
        intro M L w tid val iv hl hm hw hx hi
        rw [avr_int.1 hi]
        obtain ⟨el, hu, _, hle⟩ := lay_array hl
        obtain ⟨cs0, ⟨b, o, c, rfl, hf, hcells, hlen, hrep⟩, rfl⟩ := hx
        obtain ⟨mid, hmid, hcm⟩ := cells_elem hrep g2 hcells
        exact ⟨_, run_indexAt_array hu hle g0 (by rw [← hlen]; exact g1) w, [_], ⟨b, _, mid, rfl, hf, hcm, hmid⟩, rfl⟩
      · simp at h
    · simp at h
  · simp at h

theorem getAV_field {r : R} : ∀ {x : AV} {ty : Ty} {f : Nat} {K : AV → Option R}, fits x ty = true → getAV x [.fld f] K = some r → ∃ s, fieldTy ty f = some s := by
  intro x
  induction x with
  | val s x =>
    intro ty f K hfit h
    simp [fits] at hfit
    subst hfit
    exact getVal_field (f := f) (K := K) (x := x) h
  | cons a b iha ihb =>
    intro ty f K hfit h
    cases ty <;> simp [fits] at hfit
    cases f with
    | zero => exact ⟨_, rfl⟩
    | succ f => simp only [getAV] at h; have := ihb hfit.2 h; simpa [fieldTy] using this
  | _ => intro ty f K hfit h; simp [getAV] at h
theorem field_ok {ty : Ty} {x : AV} {f : Nat} {K : AV → Option R} {r : R} (h : cond (fits x ty) (getAV x [.fld f] K) none = some r) :
    ∃ v, K v = some r ∧ ∀ {M : Ms} {L : Lk} {w : World} {t : TypeId} {val : Value}, Lay P ty (.inl t) = true → AVR M L w x val →
      ∃ val', (Instr.field t val f).run P w = .ok val' w ∧ AVR M L w v val' := by
  obtain ⟨hfit, h⟩ := cond_none h
  obtain ⟨v, hk, hh⟩ := getAV_ok h
  refine ⟨v, hk, ?_⟩
  intro M L w t val hl hx
  obtain ⟨cs, hc, rfl, hlen, _⟩ := fits_avr hfit hx
  obtain ⟨s, hf⟩ := getAV_field hfit h
  have hp : (∃ a b, ty = .pair a b) ∨ ty = .unit := by
    cases ty with
    | pair a b => exact .inl ⟨_, _, rfl⟩
    | _ => simp [fieldTy] at hf
  obtain ⟨fs, hu, h2⟩ := lay_struct hl hp
  obtain ⟨fl, d, h3, h4, h5, h6, h7⟩ := lay_field h2 hf
  obtain ⟨hfv, pre, mid, post, rfl, hpl, hm⟩ := hh hc hfit h4
  have hf' : fs[f]? = some fl := by rw [← Array.getElem?_toList]; exact h3
  have hag : ty.isAgg = true := by rcases hp with ⟨a, b, rfl⟩ | rfl <;> rfl
  have hr := run_part (P := P) h6 (pre := pre) (mid := mid) (post := post) (fits_length hfv hm) w
  refine ⟨toV s.isAgg mid, ?_, avr_fits hfv hm⟩
  rw [hpl] at hr
  simp only [Nat.zero_add] at h5
  simp only [toV, hag, if_true, Instr.field, Sem.run_bind, run_underlying hu, Result.andThen_ok, hf', asAgg, Sem.run_pure, h5]
  rw [hr]
  rfl

theorem nth_ok {M : Ms} {L : Lk} {w : World} : ∀ {a : AV} {i : Nat} {vs : List Value}, TupR M L w a vs → hasNth a i = true → ∃ v, vs[i]? = some v ∧ AVR M L w (nthAV a i) v := by
  intro a
  induction a with
  | cons a b _ ihb =>
    rintro i vs ⟨v, r, rfl, h1, h2⟩ h
    cases i with
    | zero =>
      refine ⟨v, rfl, ?_⟩
      simp only [nthAV]
      cases a with
      | dead => trivial
      | und => obtain ⟨cs, hc, _⟩ := h1; exact hc.elim
      | tup s => obtain ⟨cs, hc, _⟩ := h1; exact hc.elim
      | _ => exact h1
    | succ i => exact ihb h2 h
  | _ => intro i vs _ h; simp [hasNth] at h
theorem extract_ok {M : Ms} {L : Lk} {w : World} {a : AV} {i : Nat} {val : Value} (hx : AVR M L w (.tup a) val) (h : hasNth a i = true) :
    ∃ v, (Instr.extract val i).run P w = .ok v w ∧ AVR M L w (nthAV a i) v := by
  obtain ⟨vs, rfl, ht⟩ := hx
  obtain ⟨v, h1, h2⟩ := nth_ok ht h
  exact ⟨v, by simp [Instr.extract, h1], h2⟩
end
end Go.Vi

set_option autoImplicit false
set_option linter.unusedVariables false
set_option linter.unusedSimpArgs false
namespace Go.Vi
open Go
section
variable {R : Type} {P : Program}
theorem index_str_ok {s : List UInt8} {i : Int} {c : UInt8} (h : geti s i = some c) {t : TypeId} (hl : Lay P .str (.inl t) = true) (k : IntKind) (w : World) :
    (Instr.index t (sv s) (.int k i)).run P w = .ok (.int .u8 (c.toNat : Int)) w := by
  obtain ⟨g0, g1, g2⟩ := geti_some h
  have h2 : (⟨⟨s⟩⟩ : ByteArray)[i.toNat]? = some c := by
    have : i.toNat < (⟨⟨s⟩⟩ : ByteArray).size := by show i.toNat < s.length; omega
    rw [ByteArray.getElem?_lt' _ _ this]
    congr 1
    have h3 : i.toNat < s.length := by omega
    rw [List.getElem?_eq_getElem h3] at g2
    simp only [Option.some.injEq] at g2
    exact g2
  simp [Instr.index, asIntOf, run_underlying (lay_string hl), sv, g0, h2]
theorem index_arr_ok {A : Nat → Prop} {w : World} {n : Nat} {e : Ty} {xs : List e.den} {i : Int} {y : e.den} (h : geti xs i = some y) {t : TypeId} (hl : Lay P (.arr n e) (.inl t) = true) (k : IntKind) {cs : List Value} (hr : Rep A w (.arr n e) xs cs) :
    ∃ mid, (Instr.index t (.agg cs.toArray) (.int k i)).run P w = .ok (toV e.isAgg mid) w ∧ Rep A w e y mid := by
  obtain ⟨g0, g1, g2⟩ := geti_some h
  obtain ⟨el, hu, _, hle⟩ := lay_array hl
  obtain ⟨hn, hra⟩ := hr
  obtain ⟨pre, mid, post, rfl, hpl, hrc, _, _⟩ := RepAll.split (fun x c h => Rep.length h) hra g2
  refine ⟨mid, ?_, hrc⟩
  have hp := run_part (P := P) hle (pre := pre) (mid := mid) (post := post) (Rep.length hrc) w
  rw [hpl] at hp
  have h1 : i < (n : Int) := by rw [← hn]; exact g1
  simp only [Instr.index, asIntOf, Sem.run_bind, Sem.run_pure, Result.andThen_ok, run_underlying hu, g0, h1, and_self, if_true, run_sizeOf hle, hp]

def OptR (M : Ms) (L : Lk) (w : World) : Option AV → Option Value → Prop
  | none, none => True
  | some a, some u => AVR M L w a u
  | _, _ => False
theorem slc_some {α : Type} {xs : List α} {l h : Int} {r : List α} (e : slc xs l h = some r) : 0 ≤ l ∧ l ≤ h ∧ h ≤ (xs.length : Int) ∧ r = (xs.take h.toNat).drop l.toNat := by
  unfold slc at e
  split at e
  · rename_i hh
    simp only [Option.some.injEq] at e
    exact ⟨hh.1, hh.2.1, hh.2.2, e.symm⟩
  · simp at e
theorem run_bounds {isSlice : Bool} {len cap : Nat} {M : Ms} {L : Lk} {w : World} {lo hi : Option AV} {lv hv : Option Value} {l h : Int} (hlo : OptR M L w lo lv) (hhi : OptR M L w hi hv) (h1 : optI 0 lo = some l) (h2 : optI (len : Int) hi = some h)
    (g0 : 0 ≤ l) (g1 : l ≤ h) (g2 : h ≤ (cap : Int)) (hc : len ≤ cap) : (Instr.sliceBounds isSlice len cap lv hv none).run P w = .ok (l.toNat, h.toNat, cap) w := by
  have bd : ∀ (k : IntKind) (n : Int) (y : Nat) (c : BoundsCode), 0 ≤ n → n ≤ (y : Int) → (Instr.sliceBound (.int k n) y c).run P w = .ok n.toNat w := by
    intro k n y c a b
    simp [Instr.sliceBound, asIntOf, a, b]
  have hh : ∀ v, hv = some v → ∃ k, v = .int k h := by
    intro v hv'
    subst hv'
    cases hi with
    | none => simp [OptR] at hhi
    | some a =>
      cases a with
      | val t n =>
        cases t with
        | int k => simp only [optI, Option.some.injEq] at h2; simp only [OptR] at hhi; exact ⟨k, by rw [avr_int.1 hhi, h2]⟩
        | _ => simp [optI] at h2
      | _ => simp [optI] at h2
  have hl : ∀ v, lv = some v → ∃ k, v = .int k l := by
    intro v hv'
    subst hv'
    cases lo with
    | none => simp [OptR] at hlo
    | some a =>
      cases a with
      | val t n =>
        cases t with
        | int k => simp only [optI, Option.some.injEq] at h1; simp only [OptR] at hlo; exact ⟨k, by rw [avr_int.1 hlo, h1]⟩
        | _ => simp [optI] at h1
      | _ => simp [optI] at h1
  have hhn : hv = none → h = (len : Int) := by
    intro e
    subst e
    cases hi with
    | none => simp only [optI, Option.some.injEq] at h2; exact h2.symm
    | some a => simp [OptR] at hhi
  have hln : lv = none → l = 0 := by
    intro e
    subst e
    cases lo with
    | none => simp only [optI, Option.some.injEq] at h1; exact h1.symm
    | some a => simp [OptR] at hlo
  have hht : ((h.toNat : Nat) : Int) = h := by omega
  cases hv with
  | none =>
    have e := hhn rfl
    cases lv with
    | none => have e2 := hln rfl; subst e2; subst e; simp [Instr.sliceBounds]
    | some v =>
      obtain ⟨k, rfl⟩ := hl v rfl
      subst e
      simp [Instr.sliceBounds, bd k l len _ g0 (by omega)]
  | some v =>
    obtain ⟨k, rfl⟩ := hh v rfl
    cases lv with
    | none => have e2 := hln rfl; subst e2; simp [Instr.sliceBounds, bd k h cap _ (by omega) g2]
    | some v =>
      obtain ⟨k', rfl⟩ := hl v rfl
      simp [Instr.sliceBounds, bd k h cap _ (by omega) g2, bd k' l h.toNat _ g0 (by omega)]
theorem run_sliceAt_slice {t el : TypeId} {e : Ty} (hu : P.underlying t = some (.slice el)) (hl : Lay P e (.inl el) = true) {a : Option Addr} {len cap : Nat} {lv hv : Option Value} {w : World} {l h : Int}
    (hb : (Instr.sliceBounds true len cap lv hv none).run P w = .ok (l.toNat, h.toNat, cap) w) :
    (Instr.sliceAt t (.slice a len cap) lv hv none).run P w = .ok (.slice (if cap = l.toNat then a else a.map (·.add (l.toNat * e.size))) (h.toNat - l.toNat) (cap - l.toNat)) w := by
  simp [Instr.sliceAt, run_underlying hu, Instr.slice, hb, run_sizeOf hl]
theorem run_sliceAt_string {t : TypeId} (hl : Lay P .str (.inl t) = true) {s : List UInt8} {lv hv : Option Value} {w : World} {l h : Int}
    (hb : (Instr.sliceBounds false s.length s.length lv hv none).run P w = .ok (l.toNat, h.toNat, s.length) w) :
    (Instr.sliceAt t (sv s) lv hv none).run P w = .ok (sv ((s.take h.toNat).drop l.toNat)) w := by
  have hs : (⟨⟨s⟩⟩ : ByteArray).size = s.length := rfl
  have he : (⟨⟨s⟩⟩ : ByteArray).extract l.toNat h.toNat = ⟨⟨(s.take h.toNat).drop l.toNat⟩⟩ := by
    have := ByteArray.extract_mk s l.toNat h.toNat
    rw [List.drop_take]
    exact this
  simp [Instr.sliceAt, run_underlying (lay_string hl), Instr.slice, sv, hs, hb, he]
/-- a part of data's list -/
theorem rep_slice {A : Nat → Prop} {w : World} {t : Ty} {xs : List t.den} {a : Option Addr} {c : Nat} {l h : Int} (g0 : 0 ≤ l) (g1 : l ≤ h) (g2 : h ≤ (xs.length : Int)) (hc : xs.length ≤ c)
    (hr : xs = [] ∨ ∃ b o all, a = some ⟨b, o, none⟩ ∧ A b ∧ CellsAt w b o all ∧ RepAll (Rep A w t) xs all) :
    Rep A w (.list t) ((xs.take h.toNat).drop l.toNat) [.slice (if c = l.toNat then a else a.map (·.add (l.toNat * t.size))) (h.toNat - l.toNat) (c - l.toNat)] := by
  have hlen : ((xs.take h.toNat).drop l.toNat).length = h.toNat - l.toNat := by simp; omega
  refine ⟨_, _, by rw [hlen], by rw [hlen]; omega, ?_⟩
  by_cases he : l.toNat = h.toNat
  · left; apply List.eq_nil_of_length_eq_zero; rw [hlen]; omega
  · right
    rcases hr with rfl | ⟨b, o, all, rfl, hA, hcells, hrep⟩
    · simp at g2; omega
    · have hne : ¬ c = l.toNat := by omega
      rw [if_neg hne]
      refine ⟨b, o + l.toNat * t.size, (all.take (h.toNat * t.size)).drop (l.toNat * t.size), by simp [add_at], hA, ?_, ?_⟩
      · exact (hcells.take (h.toNat * t.size)).drop (l.toNat * t.size)
      · have ht := (RepAll.take_drop (fun x c h => Rep.length h) h.toNat hrep).1
        exact (RepAll.take_drop (fun x c h => Rep.length h) l.toNat ht).2

theorem sliceK_ok {m : Lk} {ty : Ty} {x : AV} {lo hi : Option AV} {K : AV → Option R} {r : R} (h : sliceK m ty x lo hi K = some r) :
    ∃ v, K v = some r ∧ ∀ {M : Ms} {L : Lk} {w : World} {t : TypeId} {val : Value} {lv hv : Option Value}, Lay P ty (.inl t) = true → Msk m L → WInv M L w → AVR M L w x val → OptR M L w lo lv → OptR M L w hi hv →
      ∃ val', (Instr.sliceAt t val lv hv none).run P w = .ok val' w ∧ AVR M L w v val' := by
  unfold sliceK at h
  split at h
  · rename_i s
    split at h
    · rename_i l hh e1 e2
      simp only [bnd, Option.bind_eq_some_iff] at h
      obtain ⟨q, hq, h⟩ := h
      obtain ⟨g0, g1, g2, rfl⟩ := slc_some hq
      refine ⟨_, h, ?_⟩
      intro M L w t val lv hv hl hm hw hx hlo hhi
      rw [avr_str.1 hx]
      exact ⟨_, run_sliceAt_string hl (run_bounds hlo hhi e1 e2 g0 g1 g2 (Nat.le_refl _)), avr_str.2 rfl⟩
    · simp at h
  · rename_i t u xs
    split at h
    · rename_i e
      subst e
      split at h
      · rename_i l hh e1 e2
        simp only [bnd, Option.bind_eq_some_iff] at h
        obtain ⟨q, hq, h⟩ := h
        obtain ⟨g0, g1, g2, rfl⟩ := slc_some hq
        refine ⟨_, h, ?_⟩
        intro M L w t val lv hv hl hm hw hx hlo hhi
        obtain ⟨el, hu, _, hle⟩ := lay_slice hl
        obtain ⟨cs, ⟨a, c, rfl, hc, hr⟩, rfl⟩ := avr_val' hx
        exact ⟨_, run_sliceAt_slice hu hle (run_bounds hlo hhi e1 e2 g0 g1 (by omega) hc), [_], rep_slice g0 g1 g2 hc hr, rfl⟩
      · simp at h
    · simp at h
  · rename_i t id ver
    replace h := beq_case h
    obtain ⟨hver, h⟩ := h
    split at h
    · rename_i u xs hc
      split at h
      · rename_i e
        subst e
        split at h
        · rename_i l hh e1 e2
          simp only [bnd, Option.bind_eq_some_iff] at h
          obtain ⟨q, hq, h⟩ := h
          obtain ⟨g0, g1, g2, rfl⟩ := slc_some hq
          refine ⟨_, h, ?_⟩
          intro M L w t val lv hv hl hm hw hx hlo hhi
          obtain ⟨el, hu, _, hle⟩ := lay_slice hl
          have hL := hm.eq (i := id) (by rw [hc]; simp)
          have hvL : (L id).1 = ver := by rw [← hL]; exact hver
          have hcL : (L id).2 = .rowb u xs := by rw [← hL]; exact hc
          obtain ⟨rfl, hnil, hs0, hrow⟩ := row_hdr hw hx hvL (.inl hcL)
          have fin : ∀ cs, cs = [hdrv (M.ι id) u.size l.toNat hh.toNat] → AVR M L w (.rowv id ver l.toNat hh.toNat) (toV false cs) := by
            intro cs e
            refine ⟨cs, ⟨?_, by omega, fun _ => ?_⟩, rfl⟩
            · rw [e]; cases hι : M.ι id with
              | none => exact ⟨_, rfl, rfl⟩
              | some p => exact ⟨_, rfl, rfl⟩
            · rw [hcL]; exact ⟨by omega, by omega, e⟩
          cases hι : M.ι id with
          | none =>
            have := hnil hι
            subst this
            simp at g2
            have e0 : l = 0 := by omega
            have e3 : hh = 0 := by omega
            subst e0 e3
            have hb := run_bounds (P := P) (isSlice := true) (len := 0) (cap := 0) hlo hhi e1 e2 (by omega) (by omega) (by simp) (Nat.le_refl _)
            refine ⟨_, run_sliceAt_slice (a := none) hu hle hb, ?_⟩
            have := fin _ rfl
            rw [hι] at this
            simpa [hdrv, toV] using this
          | some p =>
            obtain ⟨b, cap⟩ := p
            obtain ⟨hcap, _⟩ := hrow b cap hι
            refine ⟨_, run_sliceAt_slice (a := some ⟨b, 0, none⟩) hu hle (run_bounds hlo hhi e1 e2 g0 g1 (by omega) hcap), ?_⟩
            have := fin _ rfl
            rw [hι] at this
            simp only [hdrv, toV, Bool.false_eq_true, if_false, List.getD_cons_zero] at this
            have e5 : (if cap = l.toNat then some (⟨b, 0, none⟩ : Addr) else Option.map (fun a : Addr => a.add (l.toNat * u.size)) (some (⟨b, 0, none⟩ : Addr))) = some (if cap = l.toNat then ⟨b, 0, none⟩ else (⟨b, 0, none⟩ : Addr).add (l.toNat * u.size)) := by split <;> rfl
            show AVR M L w _ (.slice (if cap = l.toNat then some (⟨b, 0, none⟩ : Addr) else Option.map (fun a : Addr => a.add (l.toNat * u.size)) (some (⟨b, 0, none⟩ : Addr))) (hh.toNat - l.toNat) (cap - l.toNat))
            rw [e5]
            exact this
        · simp at h
      · simp at h
    · rename_i u xs hc
      split at h
      · rename_i e
        subst e
        split at h
        · rename_i l hh e1 e2
          simp only [bnd, Option.bind_eq_some_iff] at h
          obtain ⟨q, hq, h⟩ := h
          obtain ⟨g0, g1, g2, rfl⟩ := slc_some hq
          refine ⟨_, h, ?_⟩
          intro M L w t val lv hv hl hm hw hx hlo hhi
          obtain ⟨el, hu, _, hle⟩ := lay_slice hl
          have hL := hm.eq (i := id) (by rw [hc]; simp)
          have hvL : (L id).1 = ver := by rw [← hL]; exact hver
          have hcL : (L id).2 = .ro u xs := by rw [← hL]; exact hc
          obtain ⟨rfl, hnil, hs0, hrow⟩ := row_hdr hw hx hvL (.inr hcL)
          cases hι : M.ι id with
          | none =>
            have := hnil hι
            subst this
            exact ⟨_, run_sliceAt_slice (a := none) hu hle (run_bounds (cap := 0) hlo hhi e1 e2 g0 g1 g2 (Nat.le_refl _)), [_], rep_slice g0 g1 g2 (Nat.le_refl _) (.inl rfl), rfl⟩
          | some p =>
            obtain ⟨b, cap⟩ := p
            obtain ⟨hcap, cs, hcells, hrep, hfre⟩ := hrow b cap hι
            exact ⟨_, run_sliceAt_slice (a := some ⟨b, 0, none⟩) hu hle (run_bounds hlo hhi e1 e2 g0 g1 (by omega) hcap), [_], rep_slice g0 g1 g2 hcap (.inr ⟨b, 0, cs, rfl, hfre hcL, hcells, hrep⟩), rfl⟩
        · simp at h
      · simp at h
    · simp at h
  · split at h
    · rename_i l hh e1 e2
      replace h := cnd_none h
      obtain ⟨hz, h⟩ := h
      simp only [Bool.and_eq_true, decide_eq_true_eq] at hz
      obtain ⟨rfl, rfl⟩ := hz
      refine ⟨_, h, ?_⟩
      intro M L w t val lv hv hl hm hw hx hlo hhi
      obtain ⟨el, hu, _, hle⟩ := lay_slice hl
      rw [avr_nil.1 hx]
      refine ⟨_, run_sliceAt_slice (a := none) hu hle (run_bounds (len := 0) (cap := 0) hlo hhi e1 e2 (by omega) (by omega) (by simp) (Nat.le_refl _)), avr_nil.2 ?_⟩
      simp
    · simp at h
  · simp at h
end
end Go.Vi

set_option autoImplicit false
set_option linter.unusedVariables false
set_option linter.unusedSimpArgs false
namespace Go.Vi
open Go
section
variable {R : Type} {P : Program}
/-! ## Zeros -/
theorem RepAll.replicate {α : Type} {R : α → List Value → Prop} {x : α} {c : List Value} (h : R x c) : ∀ n, RepAll R (List.replicate n x) (List.replicate n c).flatten
  | 0 => rfl
  | n + 1 => ⟨c, (List.replicate n c).flatten, by simp [List.replicate_succ], h, RepAll.replicate h n⟩
theorem rep_zero (A : Nat → Prop) (w : World) : ∀ t : Ty, Rep A w t t.zero (zc t)
  | .int k => rfl
  | .bool => rfl
  | .str => rfl
  | .list t => ⟨none, 0, rfl, Nat.le_refl _, .inl rfl⟩
  | .arr n t => ⟨by simp [Ty.zero], RepAll.replicate (rep_zero A w t) n⟩
  | .unit => rfl
  | .pair a b => ⟨zc a, zc b, rfl, rep_zero A w a, rep_zero A w b⟩
  | .err => .inl ⟨rfl, rfl⟩
theorem avc_zeroAV (M : Ms) (L : Lk) (w : World) : ∀ t : Ty, AVC M L w (zeroAV t) (zc t) ∧ fits (zeroAV t) t = true
  | .list t => ⟨rfl, rfl⟩
  | .pair a b => ⟨⟨zc a, zc b, rfl, (avc_zeroAV M L w a).1, (avc_zeroAV M L w b).1⟩, by simp [zeroAV, fits, (avc_zeroAV M L w a).2, (avc_zeroAV M L w b).2]⟩
  | .unit => ⟨rfl, rfl⟩
  | .int k => ⟨rep_zero _ _ _, by simp [zeroAV, fits]⟩
  | .bool => ⟨rep_zero _ _ _, by simp [zeroAV, fits]⟩
  | .str => ⟨rep_zero _ _ _, by simp [zeroAV, fits]⟩
  | .arr n t => ⟨rep_zero _ _ _, by simp [zeroAV, fits]⟩
  | .err => ⟨rep_zero _ _ _, by simp [zeroAV, fits]⟩
theorem avc_zero (M : Ms) (L : Lk) (w : World) (t : Ty) : AVC M L w (zeroOf t) (zc t) ∧ fits (zeroOf t) t = true := by
  unfold zeroOf
  cases hasList t
  · exact ⟨rep_zero _ _ _, by simp [fits]⟩
  · exact avc_zeroAV M L w t

/-! ## New variables and rows -/
theorem new_box {M : Ms} {L : Lk} {w w' : World} (h : WInv M L w) {d ver : Nat} (he : (L d).1 < ver) {t : Ty} {a : AV} {cs : List Value} (hf : fits a t = true) (ha : AVC M L w a cs) {el : TypeId} (hs : Same w w') (hh : w'.heap = w.heap.push (.cells cs.toArray el)) :
    ∃ M', Later M M' L (upd1 L d (ver, .box t a)) w w' ∧ WInv M' (upd1 L d (ver, .box t a)) w' ∧ AVR M' (upd1 L d (ver, .box t a)) w' (.ptr d ver [] t) (.pointer (some ⟨w.heap.size, 0, none⟩)) := by
  obtain ⟨hl, hw⟩ := alloc_step h (d := d) (n := 0) (e := (ver, .box t a)) he hs hh
  have hι : (msAlloc M w d 0).ι d = some (w.heap.size, 0) := by simp [msAlloc]
  refine ⟨_, hl, hw ?_, [_], ⟨⟨_, rfl, rfl⟩, by simp [upd1], fun _ => ?_⟩, rfl⟩
  · refine ⟨hf, w.heap.size, 0, cs.toArray, el, hι, by simp [msAlloc], .inl h.frame.size, ⟨(0, 0), ?_, fun j _ => by simp⟩, cs, hl.avc ha, fun j v hj => by simpa using hj⟩
    rw [hh]; simp
  · simp only [upd1, if_true]
    exact ⟨w.heap.size, 0, 0, hι, offT_nil t, rfl⟩
theorem new_row {M : Ms} {L : Lk} {w w' : World} (h : WInv M L w) {d ver : Nat} (he : (L d).1 < ver) {t : Ty} (ht : 0 < t.size) {xs : List t.den} {cs : List Value} (ha : RepAll (Rep (Fre M w) w t) xs cs) {cur : Array Value} {cap : Nat} {el : TypeId} {fr : Nat × Nat}
    (hcap : xs.length ≤ cap) (hsz : cur.size = cap * t.size) (hfr : ∀ j, j < cur.size → ¬ (fr.1 ≤ j ∧ j < fr.2)) (hcs : ∀ (j : Nat) (v : Value), cs[j]? = some v → cur[j]? = some v)
    (hs : Same w w') (hh : w'.heap = w.heap.push (.cells cur el fr)) :
    ∃ M', Later M M' L (upd1 L d (ver, .rowb t xs)) w w' ∧ WInv M' (upd1 L d (ver, .rowb t xs)) w' ∧ AVR M' (upd1 L d (ver, .rowb t xs)) w' (.row d ver) (.slice (some ⟨w.heap.size, 0, none⟩) xs.length cap) := by
  obtain ⟨hl, hw⟩ := alloc_step h (d := d) (n := cap) (e := (ver, .rowb t xs)) he hs hh
  have hι : (msAlloc M w d cap).ι d = some (w.heap.size, cap) := by simp [msAlloc]
  refine ⟨_, hl, hw ?_, [_], ⟨⟨_, rfl, rfl⟩, by simp [upd1], fun _ => ?_⟩, rfl⟩
  · refine ⟨ht, .inr ⟨w.heap.size, cap, cur, el, hι, by simp [msAlloc], .inl h.frame.size, ⟨fr, ?_, hfr⟩, hsz, hcap, cs, ha.mono fun x c hx => hl.rep hx, hcs⟩⟩
    rw [hh]; simp
  · simp only [upd1, if_true, hι]; rfl
/-- an empty row without a block -/
theorem new_none {M : Ms} {L : Lk} {w : World} (h : WInv M L w) {d ver : Nat} (he : (L d).1 < ver) {t : Ty} (ht : 0 < t.size) :
    ∃ M', Later M M' L (upd1 L d (ver, .rowb t [])) w w ∧ WInv M' (upd1 L d (ver, .rowb t [])) w ∧ AVR M' (upd1 L d (ver, .rowb t [])) w (.row d ver) (.slice none 0 0) := by
  let M' : Ms := { M with ι := fun i => if i = d then none else M.ι i }
  have hl : Later M M' L (upd1 L d (ver, .rowb t [])) w w := by
    refine ⟨rfl, fun b hb => ⟨hb, rfl⟩, ?_, ?_⟩
    · intro id; by_cases hid : id = d
      · subst hid; simp only [upd1, if_true]; omega
      · simp [upd1, hid]
    · intro id hid; by_cases hidd : id = d
      · subst hidd; simp only [upd1, if_true] at hid; omega
      · simp only [upd1, M', if_neg hidd]; exact ⟨trivial, Compat.refl _⟩
  refine ⟨M', hl, ?_, [_], ⟨⟨_, rfl, rfl⟩, by simp [upd1], fun _ => ?_⟩, rfl⟩
  · constructor
    · intro id
      by_cases hid : id = d
      · subst hid; simp only [upd1, if_true]; exact ⟨ht, .inl ⟨by simp [M'], rfl⟩⟩
      · have e1 : upd1 L d (ver, .rowb t []) id = L id := by simp [upd1, hid]
        rw [e1]
        exact hl.blk (h.blk id) (by simp [M', hid]) fun b hκ => ⟨hκ, rfl⟩
    · exact h.own
    · exact h.hid
    · exact h.ed
    · exact h.frame
    · exact hl.glob h.glob
  · simp only [upd1, if_true, M']; rfl

theorem Same.alloc (w : World) (o : Obj) : Same w (w.alloc o) := ⟨rfl, rfl, rfl⟩
theorem alloc_ok {ty : Ty} {e : TypeId} (hl : Lay P ty (.inl e) = true) {M : Ms} {L : Lk} {w : World} (h : WInv M L w) {d ver : Nat} (he : (L d).1 < ver) :
    ∃ val w' M', (Instr.alloc e true (.tuple #[])).run P w = .ok val w' ∧ Later M M' L (upd1 L d (ver, .box ty (zeroOf ty))) w w' ∧ WInv M' (upd1 L d (ver, .box ty (zeroOf ty))) w' ∧ AVR M' (upd1 L d (ver, .box ty (zeroOf ty))) w' (.ptr d ver [] ty) val := by
  obtain ⟨i, z, hi, hs, hz, hc⟩ := lay_info hl
  obtain ⟨ha, hf⟩ := avc_zero M L w ty
  obtain ⟨M', h1, h2, h3⟩ := new_box h he hf ha (Same.alloc w (.cells (zc ty).toArray e)) rfl
  refine ⟨_, _, M', ?_, h1, h2, h3⟩
  have hc' : z.cells = (zc ty).toArray := by rw [← hc]
  simp only [Instr.alloc, zeroValue, typeInfo, Sem.run_bind, run_program, Result.andThen_ok, hi, Sem.run_pure, hz, newVar, newRow, run_newObj, hc']
  rfl
theorem box_ok {ty : Ty} {e : TypeId} {a : AV} {v : Value} {M : Ms} {L : Lk} {w : World} (hf : fits a ty = true) (ha : AVR M L w a v) (h : WInv M L w) {d ver : Nat} (he : (L d).1 < ver) :
    ∃ val w' M', (Instr.box e v).run P w = .ok val w' ∧ Later M M' L (upd1 L d (ver, .box ty a)) w w' ∧ WInv M' (upd1 L d (ver, .box ty a)) w' ∧ AVR M' (upd1 L d (ver, .box ty a)) w' (.ptr d ver [] ty) val := by
  obtain ⟨cs, hc, rfl, hlen, hcells⟩ := fits_avr hf ha
  obtain ⟨M', h1, h2, h3⟩ := new_box h he hf hc (Same.alloc w (.cells cs.toArray e)) rfl
  refine ⟨_, _, M', ?_, h1, h2, h3⟩
  have hc' : (toV ty.isAgg cs).cells = cs.toArray := by apply Array.ext'; rw [hcells]
  simp only [Instr.box, Sem.run_bind, newVar, newRow, run_newObj, Result.andThen_ok, Sem.run_pure, hc']
  rfl

/-! ## Made slices -/
theorem madeCells_zero {z : List Value} {s : Nat} (hz : z.length = s) (h0 : 0 < s) : ∀ n : Nat, (madeCells z.toArray (n * s)).toList = (List.replicate n z).flatten
  | 0 => by simp [madeCells]
  | n + 1 => by
    have ih := madeCells_zero hz h0 n
    simp only [madeCells, Array.toList_map, Array.toList_range] at ih ⊢
    rw [Nat.add_mul, Nat.one_mul, List.range_add, List.map_append, ih, List.replicate_succ', List.flatten_append]
    congr 1
    simp only [List.flatten_cons, List.flatten_nil, List.append_nil, List.map_map]
    apply List.ext_getElem?
    intro j
    by_cases hj : j < s
    · have hm : (n * s + j) % s = j := by rw [Nat.mul_comm, Nat.mul_add_mod, Nat.mod_eq_of_lt hj]
      have hjz : j < z.length := by omega
      simp [hj, hz, hm, hjz]
    · rw [List.getElem?_eq_none (by simp; omega), List.getElem?_eq_none (by omega)]
theorem zc_length (t : Ty) : (zc t).length = t.size := (rep_zero (fun _ => True) default t).length
theorem list_zero {t : Ty} {n : Nat} {A : Nat → Prop} {w : World} : RepAll (Rep A w t) (List.replicate n t.zero) (List.replicate n (zc t)).flatten := RepAll.replicate (rep_zero A w t) n
theorem makeSlice_ok {t : TypeId} {e : Ty} {eb : Nat} {el : TypeId} (ht : tiOk P t ⟨.list e, eb, el⟩ = true) {n : Int} (h0 : 0 ≤ n) (hb : n * eb ≤ 140737488355328) (k k' : IntKind)
    {M : Ms} {L : Lk} {w : World} (h : WInv M L w) {d ver : Nat} (he : (L d).1 < ver) :
    ∃ val w' M', (Instr.makeSlice t (.int k n) (.int k' n)).run P w = .ok val w' ∧ Later M M' L (upd1 L d (ver, .rowb e (List.replicate n.toNat e.zero))) w w' ∧ WInv M' (upd1 L d (ver, .rowb e (List.replicate n.toNat e.zero))) w' ∧
      AVR M' (upd1 L d (ver, .rowb e (List.replicate n.toNat e.zero))) w' (.row d ver) val := by
  obtain ⟨hu, hle, hs0, heb, i, z, hi, hib, his, hz, hc⟩ := tiOk_list ht
  have hn : n ≤ 140737488355328 := by
    have : n * 1 ≤ n * (eb : Int) := Int.mul_le_mul_of_nonneg_left (by omega) h0
    omega
  have hr := run_make (P := P) w t el i z hu hi hz k k' n n h0 (Int.le_refl _) (by rw [hib, Int.mul_comm]; omega) (by omega)
  have hcz : z.cells = (zc e).toArray := by rw [← hc]
  rw [his, hcz] at hr
  have hsz : (madeCells (zc e).toArray (n.toNat * e.size)).size = n.toNat * e.size := by simp [madeCells]
  have hml := madeCells_zero (zc_length e) hs0 n.toNat
  obtain ⟨M', h1, h2, h3⟩ := new_row h he hs0 (xs := List.replicate n.toNat e.zero) (list_zero (n := n.toNat)) (cur := madeCells (zc e).toArray (n.toNat * e.size)) (cap := n.toNat) (el := el) (fr := (0, 0)) (by simp) hsz (by simp)
    (fun j v hj => by rw [← Array.getElem?_toList, hml]; exact hj) (Same.alloc w _) rfl
  exact ⟨_, _, M', hr, h1, h2, by simpa using h3⟩
/-- bytes of a string, in a row of its own -/
theorem toBytes_rep {A : Nat → Prop} {w : World} : ∀ s : List UInt8, RepAll (Rep A w (.int .u8)) (toBytes s) (s.map fun b => Value.int .u8 b.toNat)
  | [] => rfl
  | c :: s => ⟨[.int .u8 c.toNat], _, rfl, rfl, toBytes_rep s⟩
theorem rep_bytes {A : Nat → Prop} {w : World} : ∀ {xs : List Int} {cs : List Value}, RepAll (Rep A w (.int .u8)) xs cs → cs = xs.map (Value.int .u8)
  | [], cs, h => h
  | x :: xs, cs, ⟨c1, c2, e, h1, h2⟩ => by simp only [Rep] at h1; rw [e, h1, rep_bytes h2]; rfl
theorem lay_u8 {k : IntKind} {t : TypeId} (h : Lay P (.int k) (.inl t) = true) : P.underlying t = some (.int k) := by
  simp only [Lay, Bool.and_eq_true] at h
  obtain ⟨_, h⟩ := h
  split at h
  · rename_i k' hu; simp only [decide_eq_true_eq] at h; rw [h]; exact hu
  · simp at h
theorem lay_under {ty : Ty} {t : TypeId} (h : Lay P ty (.inl t) = true) : ∃ d, P.underlying t = some d := by
  cases ty <;> simp only [Lay, Bool.and_eq_true] at h <;> (obtain ⟨_, h⟩ := h; split at h <;> first | exact ⟨_, by assumption⟩ | simp at h)

theorem convK_ok {m : Lk} {d : Nat} {src dst : Ty} {x : AV} {K : AV → Mem → Option R} {r : R} (h : convK m d src dst x K = some r) :
    ∃ v u, K v u = some r ∧ ∀ {M : Ms} {L : Lk} {w : World} {s t : TypeId} {val : Value}, Lay P src (.inl s) = true → Lay P dst (.inl t) = true → Msk m L → (∀ i ∈ fsts u, m i = L i) → WInv M L w → AVR M L w x val → (fsts u).Nodup →
      ∃ val' w' M', (convert s t val).run P w = .ok val' w' ∧ Later M M' L (updL L u) w w' ∧ WInv M' (updL L u) w' ∧ AVR M' (updL L u) w' v val' := by
  unfold convK at h
  split at h
  · rename_i k0 k k1 n
    refine ⟨_, _, h, ?_⟩
    intro M L w s t val hs ht hm hd hw hx _
    rw [avr_int.1 hx]
    refine ⟨_, w, M, ?_, Later.refl _ _ _, hw, avr_int.2 rfl⟩
    simp [convert, run_underlying (lay_u8 hs), run_underlying (lay_u8 ht), Conv.intToInt]
  · refine ⟨_, _, h, ?_⟩
    intro M L w s t val hs ht hm hd hw hx _
    rw [avr_str.1 hx]
    refine ⟨_, w, M, ?_, Later.refl _ _ _, hw, avr_str.2 rfl⟩
    simp [convert, run_underlying (lay_string hs), run_underlying (lay_string ht), sv]
  · rename_i s
    refine ⟨_, _, h, ?_⟩
    intro M L w s' t val hs ht hm hd hw hx _
    rw [avr_str.1 hx]
    obtain ⟨el, hu, h0, hle⟩ := lay_slice ht
    have hr := Lib.run_convert_string_bytes (P := P) w s' t el ⟨⟨s⟩⟩ (lay_string hs) hu (lay_u8 hle)
    have hcap : s.length ≤ grownCap w s.length 0 el := grownCap_ge w s.length 0 el
    have hsz : (Lib.bytesCells w el ⟨⟨s⟩⟩).size = grownCap w s.length 0 el * (Ty.int .u8).size := by
      simp only [Lib.bytesCells, Array.size_append, Array.size_map, Array.size_replicate, Ty.size, Nat.mul_one]
      show s.length + (grownCap w s.length 0 el - s.length) = _
      omega
    have hnew := Lib.bytesWorld_at_new w el ⟨⟨s⟩⟩
    have hheap : (Lib.bytesWorld w el ⟨⟨s⟩⟩).heap = w.heap.push (.cells (Lib.bytesCells w el ⟨⟨s⟩⟩) el ((Lib.bytesCells w el ⟨⟨s⟩⟩).size, (Lib.bytesCells w el ⟨⟨s⟩⟩).size + 1)) := by
      apply Array.ext_getElem?
      intro j
      rw [Array.getElem?_push]
      split
      · rename_i e; rw [e]; exact hnew
      · rename_i hne
        rcases Nat.lt_or_ge j w.heap.size with hj | hj
        · exact Lib.bytesWorld_at_old w el _ j hj
        · have := Lib.bytesWorld_size w el ⟨⟨s⟩⟩
          rw [Array.getElem?_eq_none (by omega), Array.getElem?_eq_none (by omega)]
    obtain ⟨M', h1, h2, h3⟩ := new_row hw (d := d) (ver := stepVer m d) (by simp [stepVer, hd d (by simp [fsts])]) (t := .int .u8) (by simp [Ty.size]) (xs := toBytes s) (toBytes_rep s) (cur := Lib.bytesCells w el ⟨⟨s⟩⟩) (cap := grownCap w s.length 0 el) (el := el)
      (fr := ((Lib.bytesCells w el ⟨⟨s⟩⟩).size, (Lib.bytesCells w el ⟨⟨s⟩⟩).size + 1)) (by simpa [toBytes] using hcap) hsz (fun j hj => by simp; omega)
      (fun j v hj => by
        have hjl : j < (s.map fun b => Value.int .u8 b.toNat).length := by
          rcases Nat.lt_or_ge j (s.map fun b => Value.int .u8 b.toNat).length with h | h
          · exact h
          · rw [List.getElem?_eq_none h] at hj; simp at hj
        simp only [List.length_map] at hjl
        simp only [Lib.bytesCells]
        rw [Array.getElem?_append_left (by simpa using hjl)]
        simpa using hj)
      (w' := Lib.bytesWorld w el ⟨⟨s⟩⟩) ⟨rfl, rfl, rfl⟩ hheap
    refine ⟨_, _, M', hr, h1, h2, ?_⟩
    have e : (toBytes s).length = s.length := by simp [toBytes]
    rw [e] at h3
    exact h3
  · obtain ⟨xs, ids, hk, hids, hfit, hrep⟩ := valK_ok h
    refine ⟨_, _, hk, ?_⟩
    intro M L w s t val hs ht hm hd hw hx _
    obtain ⟨el, hu, h0, hle⟩ := lay_slice hs
    obtain ⟨cs, hc, rfl, _, _⟩ := fits_avr hfit hx
    obtain ⟨a, c, rfl, hc0, hr⟩ := hrep hm hw hc (A := fun _ => True) (fun _ _ => trivial) fun _ _ _ _ _ => trivial
    refine ⟨sv (ofBytes xs), w, M, ?_, Later.refl _ _ _, hw, avr_str.2 rfl⟩
    have e0 := run_convert_bytes_string (P := P) w s t el a xs.length c hu (lay_u8 hle) (lay_string ht)
    simp only [toV, Ty.isAgg, Bool.false_eq_true, if_false, List.getD_cons_zero]
    rw [e0]
    have fin : ∀ ad, a = some ad → (loadCells ad xs.length).run P w = .ok (xs.map (Value.int .u8)).toArray w → (Conv.bytesToString (.slice a xs.length c)).run P w = .ok (sv (ofBytes xs)) w := by
      rintro ad rfl hl
      rw [run_bytesToString w ad xs.length c xs hl, foldl_push_bytes]
      simp [sv, ofBytes]
    rcases hr with rfl | ⟨b, o, all, rfl, _, hcells, hra⟩
    · cases a with
      | none => simp [Conv.bytesToString]; rfl
      | some ad => exact fin ad rfl (by simp [loadCells, loadCellsFrom])
    · refine fin _ rfl ?_
      have e := rep_bytes hra
      subst e
      have := run_loadCells_list (P := P) w ⟨b, o, none⟩ (xs.map (Value.int .u8)) fun j v hj => by rw [add_at]; exact hcells j v hj
      simpa using this
  · simp at h
end
end Go.Vi

set_option autoImplicit false
set_option linter.unusedVariables false
set_option linter.unusedSimpArgs false
namespace Go.Vi
open Go
section
variable {R : Type} {P : Program}
/-! ## append -/
theorem run_append_in {t ty el : TypeId} {i : TypeInfo} (hu : P.underlying t = some (.slice el)) (hi : P.info? el = some i) {w : World} {b : Nat} {cur : Array Value} {bel : TypeId} (ho : Open w b cur bel) {sLen sCap m c : Nat} {a : Option Addr} {news : List Value}
    (hf : (Builtin.firstCells i.size m (.slice a m c)).run P w = .ok news.toArray w) (h1 : ∀ u ∈ news, u.oneCell' = true) (hroom : sLen + m ≤ sCap) (hfit : sLen * i.size + news.length ≤ cur.size) :
    (Builtin.append_ #[t, t] ty #[.slice (some ⟨b, 0, none⟩) sLen sCap, .slice a m c]).run P w = .ok (.slice (some ⟨b, 0, none⟩) (sLen + m) sCap) (w.setRow b (seg cur (sLen * i.size) news)) := by
  obtain ⟨fr, k1, k2⟩ := ho
  have hst := run_storeCells_open P b (sLen * i.size) bel fr news 0 cur w k1 k2 (by simpa using hfit) h1
  simp only [Nat.add_zero] at hst
  simp [Builtin.append_, run_underlying hu, sizeOf, typeInfo, hi, Builtin.lenOf, hroom, hf, add_at, hst, seg]
theorem run_append_none {t ty el : TypeId} {i : TypeInfo} (hu : P.underlying t = some (.slice el)) (hi : P.info? el = some i) {w : World} {c : Nat} {a : Option Addr} :
    (Builtin.append_ #[t, t] ty #[.slice none 0 0, .slice a 0 c]).run P w = .ok (.slice none 0 0) w := by
  cases a <;> simp [Builtin.append_, run_underlying hu, sizeOf, typeInfo, hi, Builtin.lenOf, Builtin.firstCells, loadCells, loadCellsFrom]
theorem firstCells_ok {A : Nat → Prop} {w : World} {e : Ty} {ys : List e.den} {a : Option Addr} {s c : Nat} (hs : s = e.size)
    (hr : ys = [] ∨ ∃ b o all, a = some ⟨b, o, none⟩ ∧ CellsAt w b o all ∧ RepAll (Rep A w e) ys all) :
    ∃ all, (Builtin.firstCells s ys.length (.slice a ys.length c)).run P w = .ok all.toArray w ∧ RepAll (Rep A w e) ys all ∧ all.length = ys.length * s ∧
      (ys ≠ [] → ∃ b o, a = some ⟨b, o, none⟩ ∧ ∀ j v, all[j]? = some v → w.cell? ((⟨b, o, none⟩ : Addr).add j) = some v) := by
  subst hs
  rcases hr with rfl | ⟨b, o, all, rfl, hcells, hra⟩
  · refine ⟨[], ?_, rfl, by simp, fun h => absurd rfl h⟩
    cases a <;> simp [Builtin.firstCells, loadCells, loadCellsFrom]
  · have hl := RepAll.length (fun x c h => Rep.length h) hra
    refine ⟨all, ?_, hra, hl, fun _ => ⟨b, o, rfl, fun j v hj => by rw [add_at]; exact hcells j v hj⟩⟩
    have := run_loadCells_list (P := P) w ⟨b, o, none⟩ all fun j v hj => by rw [add_at]; exact hcells j v hj
    rw [hl] at this
    simpa [Builtin.firstCells] using this
theorem zeroCells_size {z : Array Value} {n : Nat} : (Builtin.zeroCells z n).size = n * z.size := by simp [Builtin.zeroCells]

/-- a row grows, or is begun: d is the row's number afterwards -/
theorem append_core {t ty : TypeId} {e : Ty} {eb : Nat} {el : TypeId} (ht : tiOk P t ⟨.list e, eb, el⟩ = true) {M : Ms} {L : Lk} {w : World} (hw : WInv M L w) {d ver : Nat} (hd : (L d).1 < ver) {xs ys : List e.den} {sv : Value} {a : Option Addr} {c : Nat}
    (hb : (xs.length + ys.length) * eb ≤ 140737488355328)
    (hx : (sv = .slice none 0 0 ∧ xs = []) ∨ ((L d).2 = .rowb e xs ∧ sv = hdr (M.ι d) xs.length))
    (hy : ys = [] ∨ ∃ b o all, a = some ⟨b, o, none⟩ ∧ CellsAt w b o all ∧ RepAll (Rep (Fre M w) w e) ys all) :
    ∃ val w' M', (Builtin.append_ #[t, t] ty #[sv, .slice a ys.length c]).run P w = .ok val w' ∧ Later M M' L (upd1 L d (ver, .rowb e (xs ++ ys))) w w' ∧ WInv M' (upd1 L d (ver, .rowb e (xs ++ ys))) w' ∧
      AVR M' (upd1 L d (ver, .rowb e (xs ++ ys))) w' (.row d ver) val := by
  obtain ⟨hu, hle, hs0, heb, i, z, hi, hib, his, hz, hc⟩ := tiOk_list ht
  have hlen : xs.length + ys.length ≤ 140737488355328 := by
    have : (xs.length + ys.length) * 1 ≤ (xs.length + ys.length) * eb := Nat.mul_le_mul_left _ heb
    omega
  have hzs : z.cells.size = e.size := by rw [← zc_length, ← hc]; simp
  obtain ⟨all, f1, f2, f3, f4⟩ := firstCells_ok (P := P) (A := Fre M w) (a := a) (c := c) his hy
  -- a new block
  have grow : ∀ (olds : List Value) (old : Nat), old < xs.length + ys.length → RepAll (Rep (Fre M w) w e) xs olds → olds.length = xs.length * i.size →
      ∃ M', Later M M' L (upd1 L d (ver, .rowb e (xs ++ ys))) w (w.drew.alloc (.cells (olds.toArray ++ all.toArray ++ Builtin.zeroCells z.cells (grownCap w (xs.length + ys.length) old el - (xs.length + ys.length))) el)) ∧
        WInv M' (upd1 L d (ver, .rowb e (xs ++ ys))) (w.drew.alloc (.cells (olds.toArray ++ all.toArray ++ Builtin.zeroCells z.cells (grownCap w (xs.length + ys.length) old el - (xs.length + ys.length))) el)) ∧
        AVR M' (upd1 L d (ver, .rowb e (xs ++ ys))) (w.drew.alloc (.cells (olds.toArray ++ all.toArray ++ Builtin.zeroCells z.cells (grownCap w (xs.length + ys.length) old el - (xs.length + ys.length))) el)) (.row d ver)
          (.slice (some ⟨w.heap.size, 0, none⟩) (xs.length + ys.length) (grownCap w (xs.length + ys.length) old el)) := by
    intro olds old ho hol hll
    have hge := grownCap_ge w (xs.length + ys.length) old el
    have := new_row hw hd hs0 (xs := xs ++ ys) (cs := olds ++ all) (hol.append f2) (cur := olds.toArray ++ all.toArray ++ Builtin.zeroCells z.cells (grownCap w (xs.length + ys.length) old el - (xs.length + ys.length)))
      (cap := grownCap w (xs.length + ys.length) old el) (el := el) (fr := (0, 0)) (by simpa using hge)
      (by
        simp only [Array.size_append, List.size_toArray, zeroCells_size, hzs, hll, f3, his, ← Nat.add_mul]
        congr 1; omega)
      (fun j _ => by simp)
      (fun j v hj => by
        have hjl : j < (olds ++ all).length := by
          rcases Nat.lt_or_ge j (olds ++ all).length with h | h
          · exact h
          · rw [List.getElem?_eq_none h] at hj; simp at hj
        rw [Array.getElem?_append_left (by simpa using hjl), List.append_toArray]
        simpa using hj)
      (w' := w.drew.alloc (.cells (olds.toArray ++ all.toArray ++ Builtin.zeroCells z.cells (grownCap w (xs.length + ys.length) old el - (xs.length + ys.length))) el)) ⟨rfl, rfl, rfl⟩ rfl
    simpa using this
  have none_case : sv = .slice none 0 0 → xs = [] → ∃ val w' M', (Builtin.append_ #[t, t] ty #[sv, .slice a ys.length c]).run P w = .ok val w' ∧ Later M M' L (upd1 L d (ver, .rowb e (xs ++ ys))) w w' ∧ WInv M' (upd1 L d (ver, .rowb e (xs ++ ys))) w' ∧
      AVR M' (upd1 L d (ver, .rowb e (xs ++ ys))) w' (.row d ver) val := by
    rintro rfl rfl
    by_cases hys : ys = []
    · subst hys
      obtain ⟨M', h1, h2, h3⟩ := new_none hw hd hs0
      exact ⟨_, w, M', run_append_none hu hi, h1, h2, h3⟩
    · have hpos : 0 < ys.length := List.length_pos_iff.2 hys
      obtain ⟨b, o, rfl, hcell⟩ := f4 hys
      have hr := run_append_nil (P := P) w t ty el i z hu hi hz ⟨b, o, none⟩ ys.length c all f3 hcell hpos (by simp at hlen; omega) (by rw [hib]; simp at hb; omega)
      obtain ⟨M', h1, h2, h3⟩ := grow [] 0 (by simpa using hpos) rfl (by simp)
      simp only [List.length_nil, Nat.zero_add, Array.empty_append, List.nil_append] at h1 h2 h3 ⊢
      exact ⟨_, _, M', hr, h1, h2, h3⟩
  rcases hx with ⟨h1, h2⟩ | ⟨hcd, rfl⟩
  · exact none_case h1 h2
  · have hb' := hw.blk d
    rw [hcd] at hb'
    cases hι : M.ι d with
    | none =>
      have hnil : xs = [] := by
        obtain ⟨_, hr⟩ := hb'
        rcases hr with hr | ⟨b, cap, cur, el', k1, _⟩
        · exact hr.2
        · rw [hι] at k1; simp at k1
      rw [hι] at none_case
      subst hnil
      exact none_case rfl rfl
    | some p =>
      obtain ⟨b, cap⟩ := p
      obtain ⟨_, hκ, kw, cur, bel, cs, hop, hsz, hcap, hrep, hcur, hcells⟩ := row_cells hb' hι
      have hcl := RepAll.length (fun x c h => Rep.length h) hrep
      show ∃ val w' M', (Builtin.append_ #[t, t] ty #[.slice (some ⟨b, 0, none⟩) xs.length cap, .slice a ys.length c]).run P w = .ok val w' ∧ _
      by_cases hroom : xs.length + ys.length ≤ cap
      · have hfit : xs.length * i.size + all.length ≤ cur.size := by
          rw [f3, ← Nat.add_mul, hsz, his]; exact Nat.mul_le_mul_right _ hroom
        have hr := run_append_in (P := P) (ty := ty) hu hi hop (sLen := xs.length) (sCap := cap) f1 (RepAll.one f2) hroom hfit
        obtain ⟨fr, ho1, ho2⟩ := hop
        obtain ⟨hlat, hwin⟩ := mod_step hw hκ (e := (ver, .rowb e (xs ++ ys))) (.inl hd) (cur' := seg cur (xs.length * i.size) all) ho1 (seg_size (.inl hfit)) (lo := 0) (hi := cap * e.size)
          (fun j hj => by
            rw [seg_get (.inl hfit), if_neg]
            rw [hsz] at hfit
            omega) kw
        refine ⟨_, _, M, hr, hlat, hwin ?_, [_], ⟨⟨_, rfl, rfl⟩, by simp [upd1], fun _ => ?_⟩, rfl⟩
        · refine ⟨hs0, .inr ⟨b, cap, _, bel, hι, hκ, kw, open_seg ⟨fr, ho1, ho2⟩ (.inl hfit), by rw [seg_size (.inl hfit), hsz], by simpa using hroom, cs ++ all,
            (hrep.mono fun x c h => hlat.rep h).append (f2.mono fun x c h => hlat.rep h), ?_⟩⟩
          intro j v hj
          rw [seg_get (.inl hfit)]
          by_cases h1 : j < cs.length
          · rw [if_neg (by rw [his, ← hcl]; omega)]
            rw [List.getElem?_append_left h1] at hj
            exact hcur j v hj
          · rw [List.getElem?_append_right (by omega)] at hj
            have hjl : j - cs.length < all.length := by
              rcases Nat.lt_or_ge (j - cs.length) all.length with h | h
              · exact h
              · rw [List.getElem?_eq_none h] at hj; simp at hj
            rw [if_pos (by rw [his, ← hcl]; omega), his, ← hcl]
            exact hj
        · simp only [upd1, if_true, hι, List.length_append]; rfl
      · have hne : ys ≠ [] := by rintro rfl; simp at hroom; omega
        obtain ⟨b', o', rfl, hcell⟩ := f4 hne
        have hg : cap < xs.length + ys.length := by omega
        have hr := run_append_grow (P := P) w t ty el i z hu hi hz ⟨b, 0, none⟩ xs.length cap cs (by rw [hcl, his]) (fun j v hj => by rw [add_at]; exact hcells j v hj) ⟨b', o', none⟩ ys.length c all f3 hcell hg (by omega)
          (growslice_fits hg (by rw [hib]; exact hb))
        obtain ⟨M', h1, h2, h3⟩ := grow cs cap hg hrep (by rw [hcl, his])
        exact ⟨_, _, M', hr, h1, h2, h3⟩

/-- what a slice that is read holds, once its rows are read alone -/
theorem val_list {m : Lk} {t : Ty} {y : AV} {r : R} {K : List t.den → List Nat → Option R} (h : valK m (.list t) y K = some r) :
    ∃ ys ids, K ys ids = some r ∧ (∀ i ∈ ids, ∃ (s : Ty) (xs : List s.den), (m i).2 = .rowb s xs) ∧ ∀ {M Mf : Ms} {L : Lk} {w : World} {val : Value}, Msk m L → WInv M L w → AVR M L w y val → (∀ b, Fre M w b → Fre Mf w b) →
      (hasList t = false ∨ ∀ i ∈ ids, ∀ b cap, M.ι i = some (b, cap) → Fre Mf w b) →
      ∃ a c, val = .slice a ys.length c ∧ (ys = [] ∨ ∃ b o all, a = some ⟨b, o, none⟩ ∧ CellsAt w b o all ∧ RepAll (Rep (Fre Mf w) w t) ys all) := by
  obtain ⟨ys, ids, hk, hids, hfit, hrep⟩ := valK_ok h
  refine ⟨ys, ids, hk, hids, ?_⟩
  intro M Mf L w val hm hw hx hF hor
  obtain ⟨cs, hc, rfl, _, _⟩ := fits_avr hfit hx
  rcases hor with hb | hi
  · obtain ⟨a, c, rfl, _, hr⟩ := hrep hm hw hc (A := fun _ => True) (fun _ _ => trivial) fun _ _ _ _ _ => trivial
    refine ⟨a, c, rfl, ?_⟩
    rcases hr with h | ⟨b, o, all, h1, _, h2, h3⟩
    · exact .inl h
    · exact .inr ⟨b, o, all, h1, h2, h3.mono fun x c h => Rep.bare hb h⟩
  · obtain ⟨a, c, rfl, _, hr⟩ := hrep hm hw hc (A := Fre Mf w) hF hi
    refine ⟨a, c, rfl, ?_⟩
    rcases hr with h | ⟨b, o, all, h1, _, h2, h3⟩
    · exact .inl h
    · exact .inr ⟨b, o, all, h1, h2, h3⟩
theorem app_some {α : Type} {bytes : Nat} {xs ys zs : List α} (h : app bytes xs ys = some zs) : (xs.length + ys.length) * bytes ≤ 140737488355328 ∧ zs = xs ++ ys := by
  unfold app at h
  split at h
  · simp only [Option.some.injEq] at h; exact ⟨by assumption, h.symm⟩
  · simp at h
theorem froz_ids {m : Lk} {t : Ty} {ids : List Nat} {i : Nat} (h : hasList t = true) (hi : i ∈ ids) (hr : ∃ (s : Ty) (xs : List s.den), (m i).2 = .rowb s xs) : i ∈ fsts (storeK.froz m (cond (hasList t) (dedup ids) [])) := by
  rw [h]; exact froz_has (mem_dedup.2 hi) hr

set_option maxHeartbeats 1000000 in
theorem appendK_ok {m : Lk} {d : Nat} {t : Ty} {eb : Nat} {x y : AV} {K : AV → Mem → Option R} {r : R} (h : appendK m d t eb x y K = some r) :
    ∃ v u, K v u = some r ∧ ∀ {M : Ms} {L : Lk} {w : World} {t' el ty : TypeId} {xv yv : Value}, tiOk P t' ⟨.list t, eb, el⟩ = true → Msk m L → (∀ i ∈ fsts u, m i = L i) → WInv M L w → AVR M L w x xv → AVR M L w y yv → (fsts u).Nodup →
      ∃ val' w' M', (Builtin.append_ #[t', t'] ty #[xv, yv]).run P w = .ok val' w' ∧ Later M M' L (updL L u) w w' ∧ WInv M' (updL L u) w' ∧ AVR M' (updL L u) w' v val' := by
  unfold appendK at h
  split at h
  · obtain ⟨ys, ids, h, hids, hv⟩ := val_list h
    simp only [bnd, Option.bind_eq_some_iff] at h
    obtain ⟨zs, hzs, h⟩ := h
    obtain ⟨hb, ezs⟩ := app_some hzs
    rw [ezs] at h
    refine ⟨_, _, h, ?_⟩
    intro M L w t' el ty xv yv ht hm hd hw hx hy hnd
    simp only [fsts, List.nodup_cons] at hnd
    obtain ⟨Mf, lf, wf, eι, ff⟩ := freeze_step hw (froz_of hm _) hnd.2
    obtain ⟨a, c, rfl, hr⟩ := hv hm hw hy (fun b hb => (lf.fre b hb).1) (by
      cases hl : hasList t
      · exact .inl rfl
      · exact .inr fun i hi b cap hb => ff i (froz_ids hl hi (hids i hi)) b cap hb)
    rw [avr_nil.1 hx, updL_cons hnd.1]
    have hdv : ((updL L (storeK.froz m (cond (hasList t) (dedup ids) []))) d).1 < stepVer m d := by rw [updL_not hnd.1, stepVer, hd d (by simp [fsts])]; omega
    obtain ⟨val, w', M', h1, h2, h3, h4⟩ := append_core (P := P) (ty := ty) ht wf hdv (xs := ([] : List t.den)) (ys := ys) (c := c) hb (.inl ⟨rfl, rfl⟩) hr
    exact ⟨val, w', M', h1, lf.trans h2, h3, h4⟩
  · rename_i id ver
    replace h := beq_case h
    obtain ⟨hver, h⟩ := h
    split at h
    · rename_i s xs hc
      split at h
      · rename_i e
        subst e
        obtain ⟨ys, ids, h, hids, hv⟩ := val_list h
        cases hmem : memB id ids
        · rw [hmem] at h
          simp only [cond_false, bnd, Option.bind_eq_some_iff] at h
          obtain ⟨zs, hzs, h⟩ := h
          obtain ⟨hb, rfl⟩ := app_some hzs
          refine ⟨_, _, h, ?_⟩
          intro M L w t' el ty xv yv ht hm hd hw hx hy hnd
          simp only [fsts, List.nodup_cons] at hnd
          have hL := hm.eq (i := id) (by rw [hc]; simp)
          have hvL : (L id).1 = ver := by rw [← hL]; exact hver
          have hcL : (L id).2 = .rowb s xs := by rw [← hL]; exact hc
          obtain ⟨rfl, _, _, _⟩ := row_hdr hw hx hvL (.inl hcL)
          obtain ⟨Mf, lf, wf, eι, ff⟩ := freeze_step hw (froz_of hm _) hnd.2
          obtain ⟨a, c, rfl, hr⟩ := hv hm hw hy (fun b hb => (lf.fre b hb).1) (by
            cases hl : hasList s
            · exact .inl rfl
            · exact .inr fun i hi b cap hb => ff i (froz_ids hl hi (hids i hi)) b cap hb)
          rw [updL_cons hnd.1]
          have hLf : updL L (storeK.froz m (cond (hasList s) (dedup ids) [])) id = L id := updL_not hnd.1
          have hdv : ((updL L (storeK.froz m (cond (hasList s) (dedup ids) []))) id).1 < stepVer m id := by rw [hLf, stepVer, hL]; omega
          obtain ⟨val, w', M', h1, h2, h3, h4⟩ := append_core (P := P) (ty := ty) ht wf hdv (xs := xs) (ys := ys) (c := c) hb (.inr ⟨by rw [hLf]; exact hcL, by rw [eι]⟩) hr
          exact ⟨val, w', M', h1, lf.trans h2, h3, h4⟩
        · rw [hmem] at h; simp at h
      · simp at h
    · simp at h
  · rename_i id ver hi
    replace h := beq_case h
    obtain ⟨hver, h⟩ := h
    split at h
    · rename_i s xs hc
      split at h
      · rename_i e
        subst e
        cases hl : hasList s
        · rw [hl] at h
          simp only [cond_false] at h
          obtain ⟨ys, ids, h, hids, hv⟩ := val_list h
          replace h := cnd_none h
          obtain ⟨hle, h⟩ := h
          simp only [decide_eq_true_eq] at hle
          refine ⟨_, _, h, ?_⟩
          intro M L w t' el ty xv yv ht hm hd hw hx hy hnd
          have hL := hm.eq (i := id) (by rw [hc]; simp)
          have hvL : (L id).1 = ver := by rw [← hL]; exact hver
          have hcL : (L id).2 = .rowb s xs := by rw [← hL]; exact hc
          obtain ⟨rfl, _, h2, hnil, _, hcp⟩ := rowv_hdr hw hx hvL (.inl hcL)
          obtain ⟨a, c, rfl, hr⟩ := hv hm hw hy (Mf := M) (fun b hb => hb) (.inl hl)
          obtain ⟨hu, hlel, hs0, heb, i, z, hi', hib, his, hz, hcz⟩ := tiOk_list ht
          have hdv : (L id).1 < stepVer m id := by rw [stepVer, hL]; omega
          have hb' := hw.blk id
          rw [hcL] at hb'
          have ekey : updL L [(id, stepVer m id, .rowb s (xs.take hi ++ ys))] = upd1 L id (stepVer m id, .rowb s (xs.take hi ++ ys)) := rfl
          rw [ekey]
          cases hι : M.ι id with
          | none =>
            have := hnil hι
            subst this
            have hle0 : hi + ys.length ≤ 0 := hle
            have e1 : hi = 0 := by omega
            have e2 : ys = [] := List.eq_nil_of_length_eq_zero (by omega)
            subst e1 e2
            obtain ⟨M', h1, h2, h3⟩ := new_none hw hdv hs0
            exact ⟨_, w, M', run_append_none hu hi', h1, h2, h3⟩
          | some p =>
            obtain ⟨b, cap⟩ := p
            obtain ⟨_, hκ, kw, cur, bel, cs, hop, hsz, hcap, hrep, hcur, hcells⟩ := row_cells hb' hι
            obtain ⟨all, f1, f2, f3, f4⟩ := firstCells_ok (P := P) (A := Fre M w) (a := a) (c := c) his hr
            have hh : hdrv (some (b, cap)) s.size 0 hi = .slice (some ⟨b, 0, none⟩) hi cap := by simp [hdrv, add_at]
            rw [hh]
            have hroom : hi + ys.length ≤ cap := by omega
            have hfit : hi * i.size + all.length ≤ cur.size := by
              rw [f3, ← Nat.add_mul, hsz, his]; exact Nat.mul_le_mul_right _ hroom
            have hrun := run_append_in (P := P) (ty := ty) hu hi' hop (sLen := hi) (sCap := cap) f1 (RepAll.one f2) hroom hfit
            obtain ⟨fr, ho1, ho2⟩ := hop
            have htk := (RepAll.take_drop (fun x c h => Rep.length h) hi hrep).1
            have hcl : (cs.take (hi * s.size)).length = hi * s.size := by
              rw [RepAll.length (fun x c h => Rep.length h) htk]; simp; rw [Nat.min_eq_left h2]
            obtain ⟨hlat, hwin⟩ := mod_step hw hκ (e := (stepVer m id, .rowb s (xs.take hi ++ ys))) (.inl hdv) (cur' := seg cur (hi * i.size) all) ho1 (seg_size (.inl hfit)) (lo := 0) (hi := cap * s.size)
              (fun j hj => by
                rw [seg_get (.inl hfit), if_neg]
                rw [hsz] at hfit
                omega) kw
            refine ⟨_, _, M, hrun, hlat, hwin ?_, [_], ⟨⟨_, rfl, rfl⟩, by simp [upd1], fun _ => ?_⟩, rfl⟩
            · refine ⟨hs0, .inr ⟨b, cap, _, bel, hι, hκ, kw, open_seg ⟨fr, ho1, ho2⟩ (.inl hfit), by rw [seg_size (.inl hfit), hsz], by simp; omega, cs.take (hi * s.size) ++ all,
                (htk.mono fun x c h => hlat.rep h).append (f2.mono fun x c h => hlat.rep h), ?_⟩⟩
              intro j v hj
              rw [seg_get (.inl hfit)]
              by_cases h1 : j < hi * s.size
              · rw [if_neg (by rw [his]; omega)]
                rw [List.getElem?_append_left (by omega), List.getElem?_take, if_pos h1] at hj
                exact hcur j v hj
              · rw [List.getElem?_append_right (by omega), hcl] at hj
                have hjl : j - hi * s.size < all.length := by
                  rcases Nat.lt_or_ge (j - hi * s.size) all.length with h | h
                  · exact h
                  · rw [List.getElem?_eq_none h] at hj; simp at hj
                rw [if_pos (by rw [his]; omega), his]
                exact hj
            · simp only [upd1, if_true]
              show _ = [hdr (M.ι id) _]
              rw [hι, List.length_append, List.length_take, Nat.min_eq_left h2]; rfl
        · rw [hl] at h; simp at h
      · simp at h
    · simp at h
  · simp at h
end
end Go.Vi

set_option autoImplicit false
set_option linter.unusedVariables false
set_option linter.unusedSimpArgs false
namespace Go.Vi
open Go
section
variable {R : Type} {P : Program}
/-! ## Literals -/
theorem foldl_set (off : Nat) : ∀ (vs : List Value) (k : Nat) (cur : Array Value), off + k + vs.length ≤ cur.size ∨ vs = [] → (vs.zipIdx k).foldl (fun cs p => cs.setIfInBounds (off + p.2) p.1) cur = seg cur (off + k) vs := by
  intro vs
  induction vs with
  | nil => intro k cur _; rw [seg_nil]; rfl
  | cons v vs ih =>
    intro k cur h
    have h : off + k + (vs.length + 1) ≤ cur.size := by rcases h with h | h; exact h; simp at h
    simp only [List.zipIdx_cons, List.foldl_cons]
    rw [ih (k + 1) _ (.inl (by simp; omega))]
    apply Array.ext_getElem?
    intro j
    rw [seg_get (.inl (by simp; omega)), seg_get (.inl (by simp; omega))]
    simp only [Array.getElem?_setIfInBounds, List.length_cons]
    by_cases h1 : j = off + k
    · subst h1
      rw [if_neg (by omega), if_pos rfl, if_pos (by omega), if_pos (by omega), Nat.sub_self]
      rfl
    · by_cases h2 : off + (k + 1) ≤ j ∧ j < off + (k + 1) + vs.length
      · rw [if_pos h2, if_pos (by omega), show j - (off + k) = (j - (off + (k + 1))) + 1 by omega]
        rfl
      · rw [if_neg h2, if_neg (by omega), if_neg (by omega)]
theorem fill_step {place : Nat → Option (Nat × Nat)} {cells : Array Value} {i off size : Nat} {v : Value} {new : List Value} {rest : List (Nat × Value)} (hp : place i = some (off, size)) (hv : v.cells.toList = new) (hs : new.length = size)
    (hb : off + new.length ≤ cells.size) : Instr.fill place cells ((i, v) :: rest) = Instr.fill place (seg cells off new) rest := by
  have hvs : v.cells.size = size := by rw [← hs, ← hv]; simp
  have hfold : v.cells.zipIdx.foldl (fun cs p => cs.setIfInBounds (off + p.2) p.1) cells = seg cells off new := by
    rw [← Array.foldl_toList, Array.toList_zipIdx, hv]
    exact foldl_set off new 0 cells (.inl (by simpa using hb))
  simp only [Instr.fill, hp, hvs]
  rw [if_neg]
  · rw [← hfold]
  · rw [← hs]
    simp
    omega
theorem seg_mid {pre mid new post : List Value} (h : new.length = mid.length) : seg (pre ++ mid ++ post).toArray pre.length new = (pre ++ new ++ post).toArray := by
  have e1 : (pre ++ mid ++ post).take pre.length = pre := by rw [List.append_assoc]; simp
  have e2 : (pre ++ mid ++ post).drop (pre.length + new.length) = post := by rw [h, show pre.length + mid.length = (pre ++ mid).length by simp]; simp
  unfold seg
  simp only [e1, e2]

def PartsR (M : Ms) (L : Lk) (w : World) : List (Nat × AV) → List (Nat × Value) → Prop
  | [], [] => True
  | (i, a) :: r, (j, v) :: s => i = j ∧ AVR M L w a v ∧ PartsR M L w r s
  | _, _ => False
theorem partsR_of {M : Ms} {L : Lk} {w : World} {ev : Operand → AV} {ρ : Operand → Value} (h : ∀ x, AVR M L w (ev x) (ρ x)) : ∀ (l : List (Nat × Operand)), PartsR M L w (l.map fun p => (p.1, ev p.2)) (l.map fun p => (p.1, ρ p.2))
  | [] => trivial
  | p :: l => ⟨rfl, h p.2, partsR_of h l⟩

theorem litK_ok {m : Lk} {t : Ty} {r : R} : ∀ {n i : Nat} {parts : List (Nat × AV)} {K : List t.den → List Nat → Option R}, litK m t i n parts K = some r →
    ∃ xs ids, K xs ids = some r ∧ xs.length = n ∧ (∀ i ∈ ids, ∃ (s : Ty) (xs : List s.den), (m i).2 = .rowb s xs) ∧ ∀ {M Mf : Ms} {L : Lk} {w : World} {vals : List (Nat × Value)}, Msk m L → WInv M L w → PartsR M L w parts vals → (∀ b, Fre M w b → Fre Mf w b) →
      (∀ i ∈ ids, ∀ b cap, M.ι i = some (b, cap) → Fre Mf w b) → ∀ pre : List Value, pre.length = i * t.size →
      ∃ body, Instr.fill (fun i => some (i * t.size, t.size)) (pre ++ (List.replicate n (zc t)).flatten).toArray vals = some (pre ++ body).toArray ∧ RepAll (Rep (Fre Mf w) w t) xs body := by
  intro n
  induction n with
  | zero =>
    intro i parts K h
    cases parts with
    | cons p r => simp [litK] at h
    | nil =>
      simp only [litK] at h
      refine ⟨[], [], h, rfl, by simp, ?_⟩
      intro M Mf L w vals hm hw hp _ _ pre hpre
      cases vals with
      | cons p r => exact hp.elim
      | nil => exact ⟨[], by simp [Instr.fill], rfl⟩
  | succ n ih =>
    have zero : ∀ {i : Nat} {parts : List (Nat × AV)} {K : List t.den → List Nat → Option R}, litK m t (i + 1) n parts (fun xs js => K (t.zero :: xs) js) = some r →
      ∃ xs ids, K xs ids = some r ∧ xs.length = n + 1 ∧ (∀ i ∈ ids, ∃ (s : Ty) (xs : List s.den), (m i).2 = .rowb s xs) ∧ ∀ {M Mf : Ms} {L : Lk} {w : World} {vals : List (Nat × Value)}, Msk m L → WInv M L w → PartsR M L w parts vals → (∀ b, Fre M w b → Fre Mf w b) →
        (∀ i ∈ ids, ∀ b cap, M.ι i = some (b, cap) → Fre Mf w b) → ∀ pre : List Value, pre.length = i * t.size →
        ∃ body, Instr.fill (fun i => some (i * t.size, t.size)) (pre ++ (List.replicate (n + 1) (zc t)).flatten).toArray vals = some (pre ++ body).toArray ∧ RepAll (Rep (Fre Mf w) w t) xs body := by
      intro i parts K h
      obtain ⟨xs, ids, hk, hl, hids, hh⟩ := ih h
      refine ⟨_, ids, hk, by simp [hl], hids, ?_⟩
      intro M Mf L w vals hm hw hp hF hI pre hpre
      obtain ⟨body, h1, h2⟩ := hh hm hw hp hF hI (pre ++ zc t) (by simp [hpre, zc_length, Nat.add_mul])
      refine ⟨zc t ++ body, ?_, zc t, body, rfl, rep_zero _ _ _, h2⟩
      rw [List.replicate_succ, List.flatten_cons, ← List.append_assoc, ← List.append_assoc]
      exact h1
    intro i parts K h
    cases parts with
    | nil => simp only [litK] at h; exact zero h
    | cons p rest =>
      obtain ⟨j, v⟩ := p
      simp only [litK] at h
      cases hj : Nat.beq j i
      · rw [hj] at h; exact zero h
      · rw [hj] at h
        simp only [cond_true] at h
        have hj := Nat.eq_of_beq_eq_true hj
        subst hj
        obtain ⟨x, js, h1, hjs, hfit, hrep⟩ := valK_ok h
        obtain ⟨xs, ids, hk, hl, hids, hh⟩ := ih h1
        refine ⟨_, _, hk, by simp [hl], ?_, ?_⟩
        · intro k hkk
          rcases List.mem_append.1 hkk with hkk | hkk
          · exact hjs k hkk
          · exact hids k hkk
        · intro M Mf L w vals hm hw hp hF hI pre hpre
          cases vals with
          | nil => exact hp.elim
          | cons q vals =>
            obtain ⟨j', val⟩ := q
            obtain ⟨rfl, hv, hp⟩ := hp
            obtain ⟨cs, hc, hval, hcl, hcells⟩ := fits_avr hfit hv
            have hx := hrep hm hw hc (A := Fre Mf w) hF fun k hk => hI k (List.mem_append_left _ hk)
            obtain ⟨body, h2, h3⟩ := hh hm hw hp hF (fun k hk => hI k (List.mem_append_right _ hk)) (pre ++ cs) (by simp [hpre, hcl, Nat.add_mul])
            refine ⟨cs ++ body, ?_, cs, body, rfl, hx, h3⟩
            have hz := zc_length t
            rw [fill_step (off := j * t.size) (size := t.size) rfl hcells hcl (by simp [hpre, hz, hcl, Nat.add_mul])]
            rw [List.replicate_succ, List.flatten_cons, ← List.append_assoc, ← List.append_assoc, ← hpre, seg_mid (by omega)]
            exact h2

theorem buildSlice_ok {t : TypeId} {e : Ty} {eb : Nat} {el : TypeId} (ht : tiOk P t ⟨.list e, eb, el⟩ = true) {m : Lk} {n d : Nat} {parts : List (Nat × AV)} {K : AV → Mem → Option R} {r : R}
    (h : cond (Nat.ble (n * e.size) 16777216) (litK m e 0 n parts fun xs ids => K (.row d (stepVer m d)) ((d, stepVer m d, .rowb e xs) :: storeK.froz m (dedup ids))) none = some r) :
    ∃ v u, K v u = some r ∧ ∀ {M : Ms} {L : Lk} {w : World} {vals : Array (Nat × Value)}, Msk m L → (∀ i ∈ fsts u, m i = L i) → WInv M L w → PartsR M L w parts vals.toList → (fsts u).Nodup →
      ∃ val' w' M', (Instr.buildSlice t n vals).run P w = .ok val' w' ∧ Later M M' L (updL L u) w w' ∧ WInv M' (updL L u) w' ∧ AVR M' (updL L u) w' v val' := by
  obtain ⟨hble, h⟩ := cond_none h
  have hble := Nat.le_of_ble_eq_true hble
  obtain ⟨xs, ids, hk, hl, hids, hh⟩ := litK_ok h
  refine ⟨_, _, hk, ?_⟩
  intro M L w vals hm hd hw hp hnd
  simp only [fsts, List.nodup_cons] at hnd
  obtain ⟨hu, hle, hs0, heb, i, z, hi, hib, his, hz, hc⟩ := tiOk_list ht
  obtain ⟨Mf, lf, wf, eι, ff⟩ := freeze_step hw (froz_of hm _) hnd.2
  obtain ⟨body, h1, h2⟩ := hh hm hw hp (Mf := Mf) (fun b hb => (lf.fre b hb).1) (fun j hj b cap hb => ff j (froz_has (mem_dedup.2 hj) (hids j hj)) b cap hb) [] (by simp)
  simp only [List.nil_append] at h1
  rw [updL_cons hnd.1]
  have hdv : ((updL L (storeK.froz m (dedup ids))) d).1 < stepVer m d := by rw [updL_not hnd.1, stepVer, hd d (by simp [fsts])]; omega
  have hbl := RepAll.length (fun x c h => Rep.length h) h2
  obtain ⟨M', l1, w1, a1⟩ := new_row wf hdv hs0 (xs := xs) h2 (cur := body.toArray) (cap := n) (el := el) (fr := (0, 0)) (by omega) (by simp [hbl, hl]) (by simp) (fun j v hj => by simpa using hj) (Same.alloc w (.cells body.toArray el)) rfl
  refine ⟨_, _, M', ?_, lf.trans l1, w1, a1⟩
  have hcz : z.cells = (zc e).toArray := by rw [← hc]
  have hmc : madeCells (zc e).toArray (n * e.size) = ((List.replicate n (zc e)).flatten).toArray := by
    apply Array.ext'
    rw [madeCells_zero (zc_length e) hs0 n]
  have hn24 : ¬ (16777216 < n * e.size) := by omega
  by_cases hz0 : n * e.size = 0
  · have hn0 : n = 0 := by
      rcases Nat.mul_eq_zero.1 hz0 with h | h
      · exact h
      · omega
    subst hn0
    simp only [List.replicate_zero, List.flatten_nil] at h1
    have hx0 : xs = [] := List.eq_nil_of_length_eq_zero hl
    subst hx0
    simp only [RepAll] at h2
    subst h2
    simp [Instr.buildSlice, run_underlying hu, sizeOf, typeInfo, hi, his, h1, newRow, Array.range_zero']
  · have h1' : Instr.fill (fun i => some (i * e.size, e.size)) ((Array.range (n * e.size)).map fun x => (zc e).toArray[x % (zc e).toArray.size]!) vals.toList = some body.toArray := by
      have : (Array.range (n * e.size)).map (fun x => (zc e).toArray[x % (zc e).toArray.size]!) = madeCells (zc e).toArray (n * e.size) := rfl
      rw [this, hmc]; exact h1
    have hgt : ¬ (n * e.size > 2 ^ 24) := by omega
    simp only [Instr.buildSlice, Sem.run_bind, run_underlying hu, Result.andThen_ok, sizeOf, typeInfo, run_program, hi, Sem.run_pure, his, hgt, if_false, Sem.run_ite, hz0, zeroValue, hz, hcz, h1', newRow, run_newObj]
    rw [hl]
    rfl

theorem lay_places : ∀ {ty : Ty} {off : Nat} {fs : List Field}, Lay P ty (.inr (off, fs)) = true → ∃ places, fs.mapM (fun f => (P.info? f.type).map fun i => (f.offset, i.size)) = some places ∧
    ∀ i s, fieldTy ty i = some s → ∃ d, offT ty [.fld i] = some (d, s) ∧ places[i]? = some (off + d, s.size) := by
  intro ty
  induction ty with
  | pair a b _ ihb =>
    intro off fs h
    cases fs with
    | nil => simp [Lay] at h
    | cons f r =>
      simp only [Lay, Bool.and_eq_true, decide_eq_true_eq] at h
      obtain ⟨⟨⟨h1, h2⟩, h3⟩, h4⟩ := h
      obtain ⟨pl, e, hh⟩ := ihb h4
      obtain ⟨i, z, hi, hs, _⟩ := lay_info h3
      refine ⟨(f.offset, i.size) :: pl, by simp [List.mapM_cons, hi, e], ?_⟩
      intro j s hj
      cases j with
      | zero =>
        simp only [fieldTy, Option.some.injEq] at hj
        subst hj
        exact ⟨0, by simp [offT, offT_nil], by simp [h1, hs]⟩
      | succ j =>
        simp only [fieldTy] at hj
        obtain ⟨d, k1, k2⟩ := hh j s hj
        refine ⟨a.size + d, by simp [offT, k1], ?_⟩
        simp only [List.getElem?_cons_succ, k2, Nat.add_assoc]
  | unit =>
    intro off fs h
    cases fs with
    | nil => exact ⟨[], rfl, fun i s h => by simp [fieldTy] at h⟩
    | cons f r => simp [Lay] at h
  | _ => intro off fs h; simp [Lay] at h

theorem fill_build {ty : Ty} {r : R} :
    ∀ {parts : List (Nat × AV)} {a : AV} {K : AV → Option R}, buildK ty a parts K = some r → ∃ a', K a' = some r ∧ ∀ {place : Nat → Option (Nat × Nat)}, (∀ i s, partTy ty i = some s → ∃ d, offT ty [partPE ty i] = some (d, s) ∧ place i = some (d, s.size)) →
      ∀ {M : Ms} {L : Lk} {w : World} {vals : List (Nat × Value)} {cells : List Value}, AVC M L w a cells → fits a ty = true → PartsR M L w parts vals →
      ∃ cells', Instr.fill place cells.toArray vals = some cells'.toArray ∧ AVC M L w a' cells' ∧ fits a' ty = true := by
  intro parts
  induction parts with
  | nil =>
    intro a K h
    refine ⟨a, h, ?_⟩
    intro place hplace M L w vals cells ha hf hp
    cases vals with
    | cons q r => exact hp.elim
    | nil => exact ⟨cells, rfl, ha, hf⟩
  | cons p parts ih =>
    obtain ⟨i, v⟩ := p
    intro a K h
    simp only [buildK] at h
    split at h
    · rename_i s hs
      obtain ⟨hfit, h⟩ := cond_none h
      obtain ⟨a', hk, hh⟩ := setAV_ok h
      obtain ⟨a'', k1, k2⟩ := ih hk
      refine ⟨a'', k1, ?_⟩
      intro place hplace M L w vals cells ha hf hp
      cases vals with
      | nil => exact hp.elim
      | cons q vals =>
        obtain ⟨j, val⟩ := q
        obtain ⟨rfl, hv, hp⟩ := hp
        obtain ⟨d, ho, hpl⟩ := hplace i s hs
        obtain ⟨new, hnew, _, hnl, hcells⟩ := fits_avr hfit hv
        obtain ⟨hf', pre, mid, post, rfl, hpre, hml, hset⟩ := hh ha hf ho hfit
        have ha' := hset (M' := M) (L' := L) (w' := w) (fun hx => hx) (fun hx => hx) hnew
        obtain ⟨cells', g2, g3, g4⟩ := k2 hplace ha' hf' hp
        refine ⟨cells', ?_, g3, g4⟩
        rw [fill_step hpl hcells hnl (by simp; omega), ← hpre, seg_mid (by omega)]
        exact g2
    · simp at h

theorem build_ok {ty : Ty} {t : TypeId} (hl : Lay P ty (.inl t) = true) {parts : List (Nat × AV)} {K : AV → Option R} {r : R} (h : cond ty.isAgg (buildK ty (zeroOf ty) parts K) none = some r) :
    ∃ v, K v = some r ∧ ∀ {M : Ms} {L : Lk} {w : World} {vals : Array (Nat × Value)}, PartsR M L w parts vals.toList → ∃ val', (Instr.build t vals).run P w = .ok val' w ∧ AVR M L w v val' := by
  obtain ⟨hag, h⟩ := cond_none h
  obtain ⟨a', k1, k2⟩ := fill_build h
  refine ⟨a', k1, ?_⟩
  intro M L w vals hp
  obtain ⟨i, z, hi, hs, hz, hc⟩ := lay_info hl
  have hcz : z.cells = (zc ty).toArray := by rw [← hc]
  obtain ⟨ha, hf⟩ := avc_zero M L w ty
  have main : ∀ place, (∀ i s, partTy ty i = some s → ∃ d, offT ty [partPE ty i] = some (d, s) ∧ place i = some (d, s.size)) → (∀ cells', Instr.fill place (zc ty).toArray vals.toList = some cells' → P.built t vals.toList = some cells') →
      ∃ val', (Instr.build t vals).run P w = .ok val' w ∧ AVR M L w a' val' := by
    intro place hpl hbl
    obtain ⟨cells', k2, k3, k4⟩ := k2 hpl ha hf hp
    refine ⟨.agg cells'.toArray, run_build w t vals _ (hbl _ k2), ?_⟩
    have := avr_fits k4 k3
    rw [hag] at this
    exact this
  cases ty with
  | arr n e =>
    obtain ⟨el, hu, _, hle⟩ := lay_array hl
    obtain ⟨ie, ze, hie, hse, _⟩ := lay_info hle
    refine main (fun i => some (i * e.size, e.size)) ?_ ?_
    · intro j s hj
      simp only [partTy] at hj
      cases hb : Nat.blt j n
      · rw [hb] at hj; simp at hj
      · rw [hb] at hj
        simp only [cond_true, Option.some.injEq] at hj
        subst hj
        have : j < n := by simp [Nat.blt] at hb; omega
        exact ⟨j * e.size, by simp [partPE, offT, offT_nil, this], rfl⟩
    · intro cells' hf'
      unfold Program.built
      simp only [hi, hu, hz, hie, hcz, hse]
      exact hf'
  | pair a b =>
    obtain ⟨fs, hu, h2⟩ := lay_struct hl (.inl ⟨a, b, rfl⟩)
    obtain ⟨places, hpl, hh⟩ := lay_places h2
    refine main (places.toArray[·]?) ?_ ?_
    · intro j s hj
      obtain ⟨d, h3, h4⟩ := hh j s hj
      exact ⟨d, h3, by simpa using h4⟩
    · intro cells' hf'
      unfold Program.built
      simp only [hi, hu, hz, hpl, hcz]
      exact hf'
  | unit =>
    obtain ⟨fs, hu, h2⟩ := lay_struct hl (.inr rfl)
    obtain ⟨places, hpl, hh⟩ := lay_places h2
    refine main (places.toArray[·]?) ?_ ?_
    · intro j s hj
      simp [partTy, fieldTy] at hj
    · intro cells' hf'
      unfold Program.built
      simp only [hi, hu, hz, hpl, hcz]
      exact hf'
  | _ => simp [Ty.isAgg] at hag
end
end Go.Vi

set_option autoImplicit false
set_option linter.unusedVariables false
set_option linter.unusedSimpArgs false
namespace Go.Vi
open Go

/-! ## Data with owned rows, as it lies in memory -/
abbrev Leaf := Option (Nat × Nat)
def OT.agg : OT → Bool
  | .v t => t.isAgg
  | .row _ => false
  | .pair _ _ => true
  | .unit => true
  | .ref _ => false
def RowAt (A : Nat → Prop) (w : World) (t : Ty) (xs : List t.den) (l : Leaf) : Prop :=
  0 < t.size ∧ ((l = none ∧ xs = []) ∨ ∃ (b cap : Nat) (cur : Array Value) (el : TypeId), l = some (b, cap) ∧ Open w b cur el ∧ cur.size = cap * t.size ∧ xs.length ≤ cap ∧
    ∃ cs : List Value, RepAll (Rep A w t) xs cs ∧ ∀ (j : Nat) (v : Value), cs[j]? = some v → cur[j]? = some v)
def ORep (A : Nat → Prop) (w : World) : (o : OT) → o.den → List Value → List Leaf → Prop
  | .v t, x, cs, ls => ls = [] ∧ Rep A w t x cs
  | .row t, xs, cs, ls => ∃ l, ls = [l] ∧ cs = [hdr l (List.length xs)] ∧ RowAt A w t xs l
  | .pair a b, x, cs, ls => ∃ c1 c2 l1 l2, cs = c1 ++ c2 ∧ ls = l1 ++ l2 ∧ ORep A w a x.1 c1 l1 ∧ ORep A w b x.2 c2 l2
  | .unit, _, cs, ls => cs = [] ∧ ls = []
  | .ref o, x, cs, ls => ∃ b off ls', ls = some (b, off) :: ls' ∧ cs = [.pointer (some ⟨b, off, none⟩)] ∧ ∃ (cur : Array Value) (el : TypeId) (cs' : List Value), Open w b cur el ∧ ORep A w o x cs' ls' ∧
      cs'.length = o.ty.size ∧ ∀ (j : Nat) (v : Value), cs'[j]? = some v → cur[off + j]? = some v
/-- the windows that data's rows take, in order -/
def nleaf : OT → Nat
  | .v _ => 0
  | .row _ => 1
  | .pair a b => nleaf a + nleaf b
  | .unit => 0
  | .ref o => nleaf o + 1
def owin : OT → List Leaf → Foot
  | .v _, _ => []
  | .row t, l => match l with | some (b, c) :: _ => [(b, 0, c * t.size)] | _ => []
  | .pair a b, l => owin a l ++ owin b (l.drop (nleaf a))
  | .unit, _ => []
  | .ref o, l => match l with | some (b, f) :: r => (b, f, o.ty.size) :: owin o r | _ => []
def lb : List Leaf → List Nat
  | [] => []
  | some p :: r => p.1 :: lb r
  | none :: r => lb r
theorem lb_append (a b : List Leaf) : lb (a ++ b) = lb a ++ lb b := by
  induction a with
  | nil => rfl
  | cons l a ih => cases l <;> simp [lb, ih]
theorem mem_lb {b : Nat} {l : List Leaf} : b ∈ lb l ↔ ∃ n, some (b, n) ∈ l := by
  induction l with
  | nil => simp [lb]
  | cons x l ih =>
    cases x with
    | none => simp [lb, ih]
    | some p =>
      obtain ⟨c, n⟩ := p
      simp only [lb, List.mem_cons, ih, Option.some.injEq, Prod.mk.injEq]
      constructor
      · rintro (rfl | ⟨m, h⟩)
        · exact ⟨n, .inl ⟨rfl, rfl⟩⟩
        · exact ⟨m, .inr h⟩
      · rintro ⟨m, ⟨rfl, rfl⟩ | h⟩
        · exact .inl rfl
        · exact .inr ⟨m, h⟩
theorem RowAt.mono {A A' : Nat → Prop} {w : World} (h : ∀ b, A b → A' b) {t : Ty} {xs : List t.den} {l : Leaf} (k : RowAt A w t xs l) : RowAt A' w t xs l := by
  obtain ⟨h0, k⟩ := k
  refine ⟨h0, ?_⟩
  rcases k with k | ⟨b, cap, cur, el, k1, k2, k3, k4, cs, k5, k6⟩
  · exact .inl k
  · exact .inr ⟨b, cap, cur, el, k1, k2, k3, k4, cs, k5.mono fun x c hx => hx.mono fun b hb => ⟨h b hb, rfl⟩, k6⟩
theorem ORep.mono {A A' : Nat → Prop} {w : World} (h : ∀ b, A b → A' b) : ∀ {o : OT} {x : o.den} {cs : List Value} {ls : List Leaf}, ORep A w o x cs ls → ORep A' w o x cs ls := by
  intro o
  induction o with
  | v t => rintro x cs ls ⟨h1, h2⟩; exact ⟨h1, h2.mono fun b hb => ⟨h b hb, rfl⟩⟩
  | row t => rintro x cs ls ⟨l, h1, h2, h3⟩; exact ⟨l, h1, h2, h3.mono h⟩
  | pair a b iha ihb => rintro x cs ls ⟨c1, c2, l1, l2, h1, h2, h3, h4⟩; exact ⟨c1, c2, l1, l2, h1, h2, iha h3, ihb h4⟩
  | unit => intro x cs ls k; exact k
  | ref o ih => rintro x cs ls ⟨b, off, ls', h1, h2, cur, el, cs', h3, h4, h5, h6⟩; exact ⟨b, off, ls', h1, h2, cur, el, cs', h3, ih h4, h5, h6⟩
/-- data without slices in it hangs on no block -/
theorem ORep.bare {A A' : Nat → Prop} {w : World} : ∀ {o : OT} {x : o.den} {cs : List Value} {ls : List Leaf}, o.leaky = false → ORep A w o x cs ls → ORep A' w o x cs ls := by
  intro o
  induction o with
  | v t => rintro x cs ls hl ⟨h1, h2⟩; exact ⟨h1, Rep.bare hl h2⟩
  | row t =>
    rintro x cs ls hl ⟨l, h1, h2, h0, h3⟩
    refine ⟨l, h1, h2, h0, ?_⟩
    rcases h3 with k | ⟨b, cap, cur, el, k1, k2, k3, k4, cs, k5, k6⟩
    · exact .inl k
    · exact .inr ⟨b, cap, cur, el, k1, k2, k3, k4, cs, k5.mono fun x c hx => Rep.bare hl hx, k6⟩
  | pair a b iha ihb =>
    rintro x cs ls hl ⟨c1, c2, l1, l2, h1, h2, h3, h4⟩
    simp only [OT.leaky, Bool.or_eq_false_iff] at hl
    exact ⟨c1, c2, l1, l2, h1, h2, iha hl.1 h3, ihb hl.2 h4⟩
  | unit => intro x cs ls _ k; exact k
  | ref o ih => rintro x cs ls hl ⟨b, off, ls', h1, h2, cur, el, cs', h3, h4, h5, h6⟩; exact ⟨b, off, ls', h1, h2, cur, el, cs', h3, ih hl h4, h5, h6⟩
theorem ORep.nleaf {A : Nat → Prop} {w : World} : ∀ {o : OT} {x : o.den} {cs : List Value} {ls : List Leaf}, ORep A w o x cs ls → ls.length = nleaf o := by
  intro o
  induction o with
  | v t => rintro x cs ls ⟨rfl, _⟩; rfl
  | row t => rintro x cs ls ⟨l, rfl, _⟩; rfl
  | pair a b iha ihb => rintro x cs ls ⟨c1, c2, l1, l2, _, rfl, h3, h4⟩; simp [Vi.nleaf, iha h3, ihb h4]
  | unit => rintro x cs ls ⟨_, rfl⟩; rfl
  | ref o ih => rintro x cs ls ⟨b, off, ls', rfl, _, cur, el, cs', _, h4, _⟩; simp [Vi.nleaf, ih h4]
theorem ORep.length {A : Nat → Prop} {w : World} : ∀ {o : OT} {x : o.den} {cs : List Value} {ls : List Leaf}, ORep A w o x cs ls → cs.length = o.ty.size := by
  intro o
  induction o with
  | v t => rintro x cs ls ⟨_, h⟩; exact h.length
  | row t => rintro x cs ls ⟨l, _, rfl, _⟩; rfl
  | pair a b iha ihb => rintro x cs ls ⟨c1, c2, l1, l2, rfl, _, h3, h4⟩; simp [OT.ty, Ty.size, iha h3, ihb h4]
  | unit => rintro x cs ls ⟨rfl, _⟩; rfl
  | ref o ih => rintro x cs ls ⟨b, off, ls', _, rfl, _⟩; rfl
theorem owin_append {A : Nat → Prop} {w : World} : ∀ {o : OT} {x : o.den} {cs : List Value} {ls : List Leaf}, ORep A w o x cs ls → ∀ r, owin o (ls ++ r) = owin o ls := by
  intro o
  induction o with
  | v t => intros; rfl
  | row t => rintro x cs ls ⟨l, rfl, _⟩ r; cases l <;> rfl
  | pair a b iha ihb =>
    rintro x cs ls ⟨c1, c2, l1, l2, _, rfl, h3, h4⟩ r
    have e := h3.nleaf
    simp only [owin]
    rw [← e, List.append_assoc, List.drop_left, iha h3, iha h3, List.drop_left, ihb h4]
  | unit => intros; rfl
  | ref o ih => rintro x cs ls ⟨b, off, ls', rfl, _, cur, el, cs', _, h4, _⟩ r; simp only [owin, List.cons_append, ih h4]
theorem owin_pair {A : Nat → Prop} {w : World} {a b : OT} {x : a.den} {c1 : List Value} {l1 : List Leaf} (h : ORep A w a x c1 l1) (l2 : List Leaf) : owin (.pair a b) (l1 ++ l2) = owin a l1 ++ owin b l2 := by
  simp only [owin]
  rw [owin_append h, ← h.nleaf, List.drop_left]
theorem owin_blocks {A : Nat → Prop} {w : World} : ∀ {o : OT} {x : o.den} {cs : List Value} {ls : List Leaf}, ORep A w o x cs ls → (owin o ls).map (·.1) = lb ls := by
  intro o
  induction o with
  | v t => rintro x cs ls ⟨rfl, _⟩; rfl
  | row t => rintro x cs ls ⟨l, rfl, _⟩; cases l <;> rfl
  | pair a b iha ihb => rintro x cs ls ⟨c1, c2, l1, l2, _, rfl, h3, h4⟩; rw [owin_pair h3, List.map_append, iha h3, ihb h4, lb_append]
  | unit => rintro x cs ls ⟨_, rfl⟩; rfl
  | ref o ih => rintro x cs ls ⟨b, off, ls', rfl, _, cur, el, cs', _, h4, _⟩; simp only [owin, List.map_cons, lb, ih h4]

/-- the numbers' places -/
def lmap (M : Ms) : List (Option Nat) → List Leaf
  | [] => []
  | some i :: r => M.ι i :: lmap M r
  | none :: r => none :: lmap M r
theorem lmap_append (M : Ms) (a b : List (Option Nat)) : lmap M (a ++ b) = lmap M a ++ lmap M b := by
  induction a with
  | nil => rfl
  | cons l a ih => cases l <;> simp [lmap, ih]
theorem somes_append (a b : List (Option Nat)) : somes (a ++ b) = somes a ++ somes b := by
  induction a with
  | nil => rfl
  | cons l a ih => cases l <;> simp [somes, ih]
theorem lmap_mem {M : Ms} {l : List (Option Nat)} {p : Nat × Nat} (h : some p ∈ lmap M l) : ∃ i ∈ somes l, M.ι i = some p := by
  induction l with
  | nil => simp [lmap] at h
  | cons x l ih =>
    cases x with
    | none =>
      simp only [lmap, List.mem_cons] at h
      rcases h with h | h
      · simp at h
      · exact ih h
    | some i =>
      simp only [lmap, List.mem_cons] at h
      rcases h with h | h
      · exact ⟨i, by simp [somes], h.symm⟩
      · obtain ⟨j, hj, e⟩ := ih h; exact ⟨j, by simp [somes, hj], e⟩
section
variable {R : Type}
/-- a live row's or variable's block is its own -/
theorem own_of {M : Ms} {L : Lk} {w : World} (hw : WInv M L w) {i b n : Nat} (hc : (∃ (t : Ty) (xs : List t.den), (L i).2 = .rowb t xs) ∨ (∃ t a, (L i).2 = .box t a)) (hι : M.ι i = some (b, n)) : M.κ b = some i := by
  have hb := hw.blk i
  rcases hc with ⟨t, xs, hc⟩ | ⟨t, a, hc⟩
  · rw [hc] at hb; exact (row_cells hb hι).2.1
  · rw [hc] at hb; exact (box_cells hb hι).2.1
def Owned (m : Lk) (i : Nat) : Prop := (∃ (t : Ty) (xs : List t.den), (m i).2 = .rowb t xs) ∨ (∃ t a, (m i).2 = .box t a)
theorem Owned.of {m L : Lk} (hm : Msk m L) {i : Nat} (h : Owned m i) : Owned L i := by
  have : m i = L i := hm.eq (by rcases h with ⟨t, xs, h⟩ | ⟨t, a, h⟩ <;> rw [h] <;> simp)
  unfold Owned; rw [← this]; exact h

/-- which numbers' rows data was taken of -/
def OwnV (m : Lk) : (o : OT) → o.den → List (Option Nat) → Prop
  | .v _, _, l => l = []
  | .row t, xs, l => (l = [none] ∧ List.length xs = 0) ∨ ∃ i, l = [some i] ∧ (m i).2 = .rowb t xs
  | .pair a b, x, l => ∃ l1 l2, l = l1 ++ l2 ∧ OwnV m a x.1 l1 ∧ OwnV m b x.2 l2
  | .unit, _, l => l = []
  | .ref o, x, l => ∃ i l', l = some i :: l' ∧ (∃ c, (m i).2 = .box o.ty c) ∧ OwnV m o x l'
theorem OwnV.length {m : Lk} : ∀ {o : OT} {x : o.den} {l : List (Option Nat)}, OwnV m o x l → l.length = nleaf o := by
  intro o
  induction o with
  | v t => rintro x l rfl; rfl
  | row t => rintro x l (⟨rfl, _⟩ | ⟨i, rfl, _⟩) <;> rfl
  | pair a b iha ihb => rintro x l ⟨l1, l2, rfl, h1, h2⟩; simp [nleaf, iha h1, ihb h2]
  | unit => rintro x l rfl; rfl
  | ref o ih => rintro x l ⟨i, l', rfl, _, h⟩; simp [nleaf, ih h]
theorem OwnV.owned {m : Lk} : ∀ {o : OT} {x : o.den} {l : List (Option Nat)}, OwnV m o x l → ∀ i ∈ somes l, Owned m i := by
  intro o
  induction o with
  | v t => rintro x l rfl i hi; simp [somes] at hi
  | row t =>
    rintro x l (⟨rfl, _⟩ | ⟨j, rfl, hc⟩) i hi
    · simp [somes] at hi
    · simp [somes] at hi; subst hi; exact .inl ⟨_, _, hc⟩
  | pair a b iha ihb =>
    rintro x l ⟨l1, l2, rfl, h1, h2⟩ i hi
    rw [somes_append] at hi
    rcases List.mem_append.1 hi with hi | hi
    · exact iha h1 i hi
    · exact ihb h2 i hi
  | unit => rintro x l rfl i hi; simp [somes] at hi
  | ref o ih =>
    rintro x l ⟨j, l', rfl, ⟨c, hc⟩, h⟩ i hi
    simp only [somes, List.mem_cons] at hi
    rcases hi with rfl | hi
    · exact .inr ⟨_, _, hc⟩
    · exact ih h i hi
theorem OwnV.of {m L : Lk} (hm : Msk m L) : ∀ {o : OT} {x : o.den} {l : List (Option Nat)}, OwnV m o x l → OwnV L o x l := by
  intro o
  induction o with
  | v t => exact fun h => h
  | row t =>
    rintro x l (h | ⟨i, rfl, hc⟩)
    · exact .inl h
    · exact .inr ⟨i, rfl, by rw [← hm.eq (i := i) (by rw [hc]; simp)]; exact hc⟩
  | pair a b iha ihb => rintro x l ⟨l1, l2, rfl, h1, h2⟩; exact ⟨l1, l2, rfl, iha h1, ihb h2⟩
  | unit => exact fun h => h
  | ref o ih =>
    rintro x l ⟨i, l', rfl, ⟨c, hc⟩, h⟩
    exact ⟨i, l', rfl, ⟨c, by rw [← hm.eq (i := i) (by rw [hc]; simp)]; exact hc⟩, ih h⟩
theorem gatherK_ok {m : Lk} {r : R} : ∀ {o : OT} {a : AV} {K : o.den → List (Option Nat) → List Nat → Option R}, gatherK m o a K = some r →
    ∃ x leaf ids, K x leaf ids = some r ∧ OwnV m o x leaf ∧ (∀ i ∈ ids, ∃ (s : Ty) (xs : List s.den), (m i).2 = .rowb s xs) ∧ aggAV a = o.agg ∧
      ∀ {M : Ms} {L : Lk} {w : World} {cs : List Value}, Msk m L → WInv M L w → AVC M L w a cs → ∀ {A : Nat → Prop}, (∀ b, Fre M w b → A b) → (∀ i ∈ ids, ∀ b cap, M.ι i = some (b, cap) → A b) →
        ORep A w o x cs (lmap M leaf) ∧ ∀ p ∈ owin o (lmap M leaf), Wr M p.1 p.2.1 (p.2.1 + p.2.2) := by
  intro o
  induction o with
  | v t =>
    intro a K h
    have h : valK m t a (fun x ids => K x [] ids) = some r := h
    obtain ⟨x, ids, hk, hids, hfit, hrep⟩ := valK_ok h
    refine ⟨x, [], ids, hk, rfl, hids, fits_agg hfit, ?_⟩
    intro M L w cs hm hw hc A hA hi
    exact ⟨⟨rfl, hrep hm hw hc hA hi⟩, fun p hp => by simp [owin] at hp⟩
  | row t =>
    intro a K h
    cases a with
    | row id ver =>
      simp only [gatherK] at h
      obtain ⟨hv, h⟩ := beq_case h
      split at h
      · rename_i s xs hc
        split at h
        · rename_i e
          subst e
          refine ⟨xs, [some id], [], h, .inr ⟨id, rfl, hc⟩, by simp, rfl, ?_⟩
          · intro M L w cs hm hw hcs A hA _
            have hL := hm.eq (i := id) (by rw [hc]; simp)
            have hx : AVR M L w (.row id ver) (toV false cs) := ⟨cs, hcs, rfl⟩
            have hcL : (L id).2 = .rowb s xs := by rw [← hL]; exact hc
            have hb := hw.blk id
            rw [hcL] at hb
            obtain ⟨k1, k2, k3⟩ := hcs
            have k4 := k3 (by rw [← hL]; exact hv.symm)
            rw [hcL] at k4
            have e1 : lmap M [some id] = [M.ι id] := rfl
            rw [e1]
            obtain ⟨h0, hb⟩ := hb
            refine ⟨⟨M.ι id, rfl, k4, h0, ?_⟩, ?_⟩
            · rcases hb with hb | ⟨b, cap, cur, el, b1, b2, b3, b4, b5, b6, cs', b7, b8⟩
              · exact .inl hb
              · exact .inr ⟨b, cap, cur, el, b1, b4, b5, b6, cs', b7.mono fun x c hx => hx.mono fun b hb => ⟨hA b hb, rfl⟩, b8⟩
            · intro p hp
              rcases hb with hb | ⟨b, cap, cur, el, b1, b2, b3, _⟩
              · rw [hb.1] at hp; simp [owin] at hp
              · rw [b1] at hp; simp [owin] at hp; subst hp; simpa using b3
        · simp at h
      · simp at h
    | nil =>
      simp only [gatherK] at h
      obtain ⟨hsz, h⟩ := cond_none h
      refine ⟨[], [none], [], h, .inl ⟨rfl, rfl⟩, by simp, rfl, ?_⟩
      intro M L w cs hm hw hcs A hA _
      exact ⟨⟨none, rfl, hcs, by simp [Nat.blt] at hsz; omega, .inl ⟨rfl, rfl⟩⟩, fun p hp => by simp [lmap, owin] at hp⟩
    | _ => simp [gatherK] at h
  | pair a b iha ihb =>
    intro v K h
    cases v with
    | cons x y =>
      simp only [gatherK] at h
      obtain ⟨x', l1, i1, h1, o1, r1, g1, f1⟩ := iha h
      obtain ⟨y', l2, i2, h2, o2, r2, g2, f2⟩ := ihb h1
      refine ⟨_, _, _, h2, ⟨_, _, rfl, o1, o2⟩, ?_, rfl, ?_⟩
      · intro i hi
        rcases List.mem_append.1 hi with hi | hi
        · exact r1 i hi
        · exact r2 i hi
      · rintro M L w cs hm hw ⟨c1, c2, rfl, k1, k2⟩ A hA hi
        obtain ⟨p1, q1⟩ := f1 hm hw k1 hA fun i h => hi i (List.mem_append_left _ h)
        obtain ⟨p2, q2⟩ := f2 hm hw k2 hA fun i h => hi i (List.mem_append_right _ h)
        rw [lmap_append, owin_pair p1]
        refine ⟨⟨c1, c2, _, _, rfl, rfl, p1, p2⟩, fun p hp => ?_⟩
        rcases List.mem_append.1 hp with hp | hp
        · exact q1 p hp
        · exact q2 p hp
    | val s x =>
      cases s with
      | pair s t =>
        simp only [gatherK] at h
        obtain ⟨x', l1, i1, h1, o1, r1, g1, f1⟩ := iha h
        obtain ⟨y', l2, i2, h2, o2, r2, g2, f2⟩ := ihb h1
        refine ⟨_, _, _, h2, ⟨_, _, rfl, o1, o2⟩, ?_, rfl, ?_⟩
        · intro i hi
          rcases List.mem_append.1 hi with hi | hi
          · exact r1 i hi
          · exact r2 i hi
        · rintro M L w cs hm hw ⟨c1, c2, rfl, k1, k2⟩ A hA hi
          obtain ⟨p1, q1⟩ := f1 hm hw (cs := c1) k1 hA fun i h => hi i (List.mem_append_left _ h)
          obtain ⟨p2, q2⟩ := f2 hm hw (cs := c2) k2 hA fun i h => hi i (List.mem_append_right _ h)
          rw [lmap_append, owin_pair p1]
          refine ⟨⟨c1, c2, _, _, rfl, rfl, p1, p2⟩, fun p hp => ?_⟩
          rcases List.mem_append.1 hp with hp | hp
          · exact q1 p hp
          · exact q2 p hp
      | _ => simp [gatherK] at h
    | _ => simp [gatherK] at h
  | unit =>
    intro a K h
    cases a with
    | unt =>
      simp only [gatherK] at h
      exact ⟨(), [], [], h, rfl, by simp, rfl, fun _ _ hc A _ _ => ⟨⟨hc, rfl⟩, fun p hp => by simp [owin] at hp⟩⟩
    | val s x =>
      cases s with
      | unit =>
        simp only [gatherK] at h
        exact ⟨(), [], [], h, rfl, by simp, rfl, fun _ _ hc A _ _ => ⟨⟨hc, rfl⟩, fun p hp => by simp [owin] at hp⟩⟩
      | _ => simp [gatherK] at h
    | _ => simp [gatherK] at h
  | ref o ih =>
    intro a K h
    cases a with
    | ptr id ver p t =>
      cases p with
      | cons q p => simp [gatherK] at h
      | nil =>
        simp only [gatherK] at h
        replace h := beq_case h
        obtain ⟨hv, h⟩ := h
        split at h
        · rename_i t' c hc
          split at h
          · rename_i e
            obtain ⟨rfl, rfl⟩ := e
            obtain ⟨x, leaf, ids, hk, ow, hr, hg, hh⟩ := ih h
            refine ⟨x, some id :: leaf, ids, hk, ⟨id, leaf, rfl, ⟨c, hc⟩, ow⟩, hr, rfl, ?_⟩
            · intro M L w cs hm hw hcs A hA hi
              have hL := hm.eq (i := id) (by rw [hc]; simp)
              have hcL : (L id).2 = .box o.ty c := by rw [← hL]; exact hc
              obtain ⟨k1, k2, k3⟩ := hcs
              have k4 := k3 (by rw [← hL]; exact hv.symm)
              rw [hcL] at k4
              obtain ⟨b, off, d, hι, ho, rfl⟩ := k4
              rw [offT_nil] at ho
              simp only [Option.some.injEq, Prod.mk.injEq, and_true] at ho
              subst ho
              have hb := hw.blk id
              rw [hcL] at hb
              obtain ⟨h0, hκ, kw, cur, el, cs', hop, hav, hcur, _⟩ := box_cells hb hι
              obtain ⟨p1, q1⟩ := hh hm hw hav hA hi
              have e1 : lmap M (some id :: leaf) = some (b, off) :: lmap M leaf := by simp [lmap, hι]
              rw [e1]
              refine ⟨⟨b, off, _, rfl, rfl, cur, el, cs', hop, p1, fits_length h0 hav, hcur⟩, ?_⟩
              intro p hp
              simp only [owin, List.mem_cons] at hp
              rcases hp with rfl | hp
              · exact kw
              · exact q1 p hp
          · simp at h
        · simp at h
    | _ => simp [gatherK] at h
end
end Go.Vi

