/- A part of the proof of publicPart_holds: ViH, ViI, ViJ, ViK, ViL, ViM, ViN, ViO. No condition of its own. -/
import Derived.Test.YtfabcimcdnaoiaaGreatDoorA00
import Derived.Laws.Concat
import Derived.Laws.Small
import Derived.Laws.Entries
set_option autoImplicit false
set_option linter.unusedVariables false
set_option linter.unusedSimpArgs false
namespace Go.Vi
open Go

section
variable {R : Type}
/-! ## Parts of values -/
theorem getVal_ok {r : R} : ∀ {p : List PE} {t : Ty} {x : t.den} {K : AV → Option R}, getVal t x p K = some r →
    ∃ (s : Ty) (y : s.den), K (.val s y) = some r ∧ ∀ {A : Nat → Prop} {w : World} {cs : List Value}, Rep A w t x cs → ∀ {d : Nat} {s' : Ty}, offT t p = some (d, s') →
      s' = s ∧ ∃ pre mid post, cs = pre ++ mid ++ post ∧ pre.length = d ∧ Rep A w s y mid := by
  intro p
  induction p with
  | nil =>
    intro t x K h
    refine ⟨t, x, by cases t <;> exact h, ?_⟩
    intro A w cs hr d s' ho
    rw [offT_nil] at ho
    simp only [Option.some.injEq, Prod.mk.injEq] at ho
    obtain ⟨rfl, rfl⟩ := ho
    exact ⟨rfl, [], cs, [], by simp, rfl, hr⟩
  | cons q p ih =>
    intro t
    induction t generalizing q with
    | pair a b _ ihb =>
      intro x K h
      cases q with
      | fld i =>
        cases i with
        | zero =>
          simp only [getVal] at h
          obtain ⟨s, y, hk, hh⟩ := ih h
          refine ⟨s, y, hk, ?_⟩
          rintro A w cs ⟨c1, c2, rfl, r1, r2⟩ d s' ho
          simp only [offT] at ho
          obtain ⟨e, pre, mid, post, rfl, hl, hm⟩ := hh r1 ho
          exact ⟨e, pre, mid, post ++ c2, by simp, hl, hm⟩
        | succ i =>
          simp only [getVal] at h
          obtain ⟨s, y, hk, hh⟩ := ihb _ h
          refine ⟨s, y, hk, ?_⟩
          rintro A w cs ⟨c1, c2, rfl, r1, r2⟩ d s' ho
          simp only [offT, Option.map_eq_some_iff] at ho
          obtain ⟨⟨d', s''⟩, ho, he⟩ := ho
          simp only [Prod.mk.injEq] at he
          obtain ⟨rfl, rfl⟩ := he
          obtain ⟨e, pre, mid, post, rfl, hl, hm⟩ := hh r2 ho
          exact ⟨e, c1 ++ pre, mid, post, by simp, by simp [hl, r1.length], hm⟩
      | idx i => simp [getVal] at h
    | arr n a _ =>
      intro x K h
      cases q with
      | fld i => simp [getVal] at h
      | idx i =>
        simp only [getVal, bnd, Option.bind_eq_some_iff] at h
        obtain ⟨e, he, h⟩ := h
        obtain ⟨s, y, hk, hh⟩ := ih h
        refine ⟨s, y, hk, ?_⟩
        rintro A w cs ⟨r1, r2⟩ d s' ho
        simp only [offT] at ho
        split at ho
        · simp only [Option.map_eq_some_iff] at ho
          obtain ⟨⟨d', s''⟩, ho, hee⟩ := ho
          simp only [Prod.mk.injEq] at hee
          obtain ⟨rfl, rfl⟩ := hee
          obtain ⟨pre, c, post, rfl, hl, hc, _, _⟩ := RepAll.split (fun x c h => Rep.length h) r2 he
          obtain ⟨e', pre', mid, post', rfl, hl', hm⟩ := hh hc ho
          exact ⟨e', pre ++ pre', mid, post' ++ post, by simp, by simp [hl, hl'], hm⟩
        · simp at ho
    | _ => intro x K h; simp [getVal] at h

theorem setVal_ok {r : R} : ∀ {p : List PE} {t : Ty} {x : t.den} {s : Ty} {y : s.den} {K : t.den → Option R}, setVal t x p s y K = some r →
    ∃ z : t.den, K z = some r ∧ ∀ {A : Nat → Prop} {w : World} {cs : List Value}, Rep A w t x cs → ∀ {d : Nat} {s' : Ty}, offT t p = some (d, s') →
      s' = s ∧ ∃ pre mid post, cs = pre ++ mid ++ post ∧ pre.length = d ∧ mid.length = s.size ∧ ∀ {A' : Nat → Prop} {w' : World} {new : List Value},
        (∀ {t : Ty} {x : t.den} {c : List Value}, Rep A w t x c → Rep A' w' t x c) → Rep A' w' s y new → Rep A' w' t z (pre ++ new ++ post) := by
  intro p
  induction p with
  | nil =>
    intro t x s y K h
    have h' : (if h : s = t then K (h ▸ y) else none) = some r := by cases t <;> exact h
    split at h'
    · rename_i e
      subst e
      refine ⟨y, h', ?_⟩
      intro A w cs hr d s' ho
      rw [offT_nil] at ho
      simp only [Option.some.injEq, Prod.mk.injEq] at ho
      obtain ⟨rfl, rfl⟩ := ho
      exact ⟨rfl, [], cs, [], by simp, rfl, hr.length, fun _ hn => by simpa using hn⟩
    · simp at h'
  | cons q p ih =>
    intro t
    induction t generalizing q with
    | pair a b _ ihb =>
      intro x s y K h
      cases q with
      | fld i =>
        cases i with
        | zero =>
          simp only [setVal] at h
          obtain ⟨z, hk, hh⟩ := ih h
          refine ⟨_, hk, ?_⟩
          rintro A w cs ⟨c1, c2, rfl, r1, r2⟩ d s' ho
          simp only [offT] at ho
          obtain ⟨e, pre, mid, post, rfl, hl, hm, hn⟩ := hh r1 ho
          exact ⟨e, pre, mid, post ++ c2, by simp, hl, hm, fun hx hy => ⟨_, c2, by simp, hn hx hy, hx r2⟩⟩
        | succ i =>
          simp only [setVal] at h
          obtain ⟨z, hk, hh⟩ := ihb _ h
          refine ⟨_, hk, ?_⟩
          rintro A w cs ⟨c1, c2, rfl, r1, r2⟩ d s' ho
          simp only [offT, Option.map_eq_some_iff] at ho
          obtain ⟨⟨d', s''⟩, ho, he⟩ := ho
          simp only [Prod.mk.injEq] at he
          obtain ⟨rfl, rfl⟩ := he
          obtain ⟨e, pre, mid, post, rfl, hl, hm, hn⟩ := hh r2 ho
          exact ⟨e, c1 ++ pre, mid, post, by simp, by simp [hl, r1.length], hm, fun hx hy => ⟨c1, _, by simp, hx r1, hn hx hy⟩⟩
      | idx i => simp [setVal] at h
    | arr n a _ =>
      intro x s y K h
      cases q with
      | fld i => simp [setVal] at h
      | idx i =>
        simp only [setVal, bnd, Option.bind_eq_some_iff] at h
        obtain ⟨e, he, h⟩ := h
        obtain ⟨z, hk, hh⟩ := ih h
        refine ⟨_, hk, ?_⟩
        rintro A w cs ⟨r1, r2⟩ d s' ho
        simp only [offT] at ho
        split at ho
        · simp only [Option.map_eq_some_iff] at ho
          obtain ⟨⟨d', s''⟩, ho, hee⟩ := ho
          simp only [Prod.mk.injEq] at hee
          obtain ⟨rfl, rfl⟩ := hee
          obtain ⟨pre, c, post, rfl, hl, hc, ht, hd⟩ := RepAll.split (fun x c h => Rep.length h) r2 he
          obtain ⟨e', pre', mid, post', rfl, hl', hm, hn⟩ := hh hc ho
          refine ⟨e', pre ++ pre', mid, post' ++ post, by simp, by simp [hl, hl'], hm, ?_⟩
          intro A' w' new hx hy
          refine ⟨by simp [r1], ?_⟩
          have hi : i < List.length x := by
            rcases Nat.lt_or_ge i (List.length x) with h | h
            · exact h
            · rw [List.getElem?_eq_none h] at he; simp at he
          rw [List.set_eq_take_append_cons_drop, if_pos hi]
          have e1 : pre ++ pre' ++ new ++ (post' ++ post) = pre ++ ((pre' ++ new ++ post') ++ post) := by simp
          rw [e1]
          exact (ht.mono fun x c h => hx h).append ⟨_, _, rfl, hn hx hy, hd.mono fun x c h => hx h⟩
        · simp at ho
    | _ => intro x s y K h; simp [setVal] at h

theorem getAV_ok {r : R} : ∀ {a : AV} {p : List PE} {K : AV → Option R}, getAV a p K = some r →
    ∃ v, K v = some r ∧ ∀ {M : Ms} {L : Lk} {w : World} {cs : List Value} {bt : Ty}, AVC M L w a cs → fits a bt = true → ∀ {d : Nat} {s : Ty}, offT bt p = some (d, s) →
      fits v s = true ∧ ∃ pre mid post, cs = pre ++ mid ++ post ∧ pre.length = d ∧ AVC M L w v mid := by
  intro a
  have nil : ∀ {a : AV} {K : AV → Option R}, K a = some r → ∃ v, K v = some r ∧ ∀ {M : Ms} {L : Lk} {w : World} {cs : List Value} {bt : Ty}, AVC M L w a cs → fits a bt = true → ∀ {d : Nat} {s : Ty}, offT bt [] = some (d, s) →
      fits v s = true ∧ ∃ pre mid post, cs = pre ++ mid ++ post ∧ pre.length = d ∧ AVC M L w v mid := by
    intro a K h
    refine ⟨a, h, ?_⟩
    intro M L w cs bt hc hf d s ho
    rw [offT_nil] at ho
    simp only [Option.some.injEq, Prod.mk.injEq] at ho
    obtain ⟨rfl, rfl⟩ := ho
    exact ⟨hf, [], cs, [], by simp, rfl, hc⟩
  induction a with
  | val t x =>
    intro p K h
    cases p with
    | nil => exact nil h
    | cons q p =>
      have h : getVal t x (q :: p) K = some r := h
      obtain ⟨s, y, hk, hh⟩ := getVal_ok h
      refine ⟨_, hk, ?_⟩
      intro M L w cs bt hc hf d s' ho
      simp [fits] at hf
      subst hf
      obtain ⟨rfl, pre, mid, post, rfl, hl, hm⟩ := hh hc ho
      exact ⟨by simp [fits], pre, mid, post, rfl, hl, hm⟩
  | cons a b iha ihb =>
    intro p K h
    cases p with
    | nil => exact nil h
    | cons q p =>
      cases q with
      | idx i => simp [getAV] at h
      | fld i =>
        cases i with
        | zero =>
          simp only [getAV] at h
          obtain ⟨v, hk, hh⟩ := iha h
          refine ⟨v, hk, ?_⟩
          rintro M L w cs bt ⟨c1, c2, rfl, k1, k2⟩ hf d s ho
          cases bt <;> simp [fits] at hf
          simp only [offT] at ho
          obtain ⟨e, pre, mid, post, rfl, hl, hm⟩ := hh k1 hf.1 ho
          exact ⟨e, pre, mid, post ++ c2, by simp, hl, hm⟩
        | succ i =>
          simp only [getAV] at h
          obtain ⟨v, hk, hh⟩ := ihb h
          refine ⟨v, hk, ?_⟩
          rintro M L w cs bt ⟨c1, c2, rfl, k1, k2⟩ hf d s ho
          cases bt <;> simp [fits] at hf
          simp only [offT, Option.map_eq_some_iff] at ho
          obtain ⟨⟨d', s''⟩, ho, he⟩ := ho
          simp only [Prod.mk.injEq] at he
          obtain ⟨rfl, rfl⟩ := he
          obtain ⟨e, pre, mid, post, rfl, hl, hm⟩ := hh k2 hf.2 ho
          exact ⟨e, c1 ++ pre, mid, post, by simp, by simp [hl, fits_length hf.1 k1], hm⟩
  | _ =>
    intro p K h
    cases p with
    | nil => exact nil h
    | cons q p => simp [getAV] at h

theorem setMix_ok {r : R} {v : AV} : ∀ {p : List PE} {t : Ty} {x : t.den} {K : AV → Option R}, setMix t x p v K = some r →
    ∃ c', K c' = some r ∧ ∀ {M : Ms} {w : World} {cs : List Value}, Rep (Fre M w) w t x cs → ∀ {d : Nat} {s : Ty}, offT t p = some (d, s) → fits v s = true →
      fits c' t = true ∧ ∃ pre mid post, cs = pre ++ mid ++ post ∧ pre.length = d ∧ mid.length = s.size ∧ ∀ {M' : Ms} {L' : Lk} {w' : World} {new : List Value},
        (∀ {t : Ty} {x : t.den} {c : List Value}, Rep (Fre M w) w t x c → Rep (Fre M' w') w' t x c) → AVC M' L' w' v new → AVC M' L' w' c' (pre ++ new ++ post) := by
  intro p
  induction p with
  | nil =>
    intro t x K h
    refine ⟨v, by cases t <;> exact h, ?_⟩
    intro M w cs hr d s ho hf
    rw [offT_nil] at ho
    simp only [Option.some.injEq, Prod.mk.injEq] at ho
    obtain ⟨rfl, rfl⟩ := ho
    exact ⟨hf, [], cs, [], by simp, rfl, hr.length, fun _ hn => by simpa using hn⟩
  | cons q p ih =>
    intro t
    induction t generalizing q with
    | pair a b _ ihb =>
      intro x K h
      cases q with
      | fld i =>
        cases i with
        | zero =>
          simp only [setMix] at h
          obtain ⟨z, hk, hh⟩ := ih h
          refine ⟨_, hk, ?_⟩
          rintro M w cs ⟨c1, c2, rfl, r1, r2⟩ d s ho hf
          simp only [offT] at ho
          obtain ⟨e, pre, mid, post, rfl, hl, hm, hn⟩ := hh r1 ho hf
          exact ⟨by simp [fits, e], pre, mid, post ++ c2, by simp, hl, hm, fun hx hy => ⟨_, c2, by simp, hn hx hy, hx r2⟩⟩
        | succ i =>
          simp only [setMix] at h
          obtain ⟨z, hk, hh⟩ := ihb _ h
          refine ⟨_, hk, ?_⟩
          rintro M w cs ⟨c1, c2, rfl, r1, r2⟩ d s ho hf
          simp only [offT, Option.map_eq_some_iff] at ho
          obtain ⟨⟨d', s''⟩, ho, he⟩ := ho
          simp only [Prod.mk.injEq] at he
          obtain ⟨rfl, rfl⟩ := he
          obtain ⟨e, pre, mid, post, rfl, hl, hm, hn⟩ := hh r2 ho hf
          exact ⟨by simp [fits, e], c1 ++ pre, mid, post, by simp, by simp [hl, r1.length], hm, fun hx hy => ⟨c1, _, by simp, hx r1, hn hx hy⟩⟩
      | idx i => simp [setMix] at h
    | _ => intro x K h; simp [setMix] at h

theorem setAV_ok {r : R} {v : AV} : ∀ {a : AV} {p : List PE} {K : AV → Option R}, setAV a p v K = some r →
    ∃ c', K c' = some r ∧ ∀ {M : Ms} {L : Lk} {w : World} {cs : List Value} {bt : Ty}, AVC M L w a cs → fits a bt = true → ∀ {d : Nat} {s : Ty}, offT bt p = some (d, s) → fits v s = true →
      fits c' bt = true ∧ ∃ pre mid post, cs = pre ++ mid ++ post ∧ pre.length = d ∧ mid.length = s.size ∧ ∀ {M' : Ms} {L' : Lk} {w' : World} {new : List Value},
        (∀ {t : Ty} {x : t.den} {c : List Value}, Rep (Fre M w) w t x c → Rep (Fre M' w') w' t x c) → (∀ {av : AV} {c : List Value}, AVC M L w av c → AVC M' L' w' av c) → AVC M' L' w' v new → AVC M' L' w' c' (pre ++ new ++ post) := by
  intro a
  have nil : ∀ {a : AV} {K : AV → Option R}, K v = some r →
    ∃ c', K c' = some r ∧ ∀ {M : Ms} {L : Lk} {w : World} {cs : List Value} {bt : Ty}, AVC M L w a cs → fits a bt = true → ∀ {d : Nat} {s : Ty}, offT bt [] = some (d, s) → fits v s = true →
      fits c' bt = true ∧ ∃ pre mid post, cs = pre ++ mid ++ post ∧ pre.length = d ∧ mid.length = s.size ∧ ∀ {M' : Ms} {L' : Lk} {w' : World} {new : List Value},
        (∀ {t : Ty} {x : t.den} {c : List Value}, Rep (Fre M w) w t x c → Rep (Fre M' w') w' t x c) → (∀ {av : AV} {c : List Value}, AVC M L w av c → AVC M' L' w' av c) → AVC M' L' w' v new → AVC M' L' w' c' (pre ++ new ++ post) := by
    intro a K h
    refine ⟨v, h, ?_⟩
    intro M L w cs bt hc hf d s ho hv
    rw [offT_nil] at ho
    simp only [Option.some.injEq, Prod.mk.injEq] at ho
    obtain ⟨rfl, rfl⟩ := ho
    exact ⟨hv, [], cs, [], by simp, rfl, fits_length hf hc, fun _ _ hn => by simpa using hn⟩
  have mix : ∀ {t : Ty} {x : t.den} {p : List PE} {K : AV → Option R}, setMix t x p v K = some r →
    ∃ c', K c' = some r ∧ ∀ {M : Ms} {L : Lk} {w : World} {cs : List Value} {bt : Ty}, AVC M L w (.val t x) cs → fits (.val t x) bt = true → ∀ {d : Nat} {s : Ty}, offT bt p = some (d, s) → fits v s = true →
      fits c' bt = true ∧ ∃ pre mid post, cs = pre ++ mid ++ post ∧ pre.length = d ∧ mid.length = s.size ∧ ∀ {M' : Ms} {L' : Lk} {w' : World} {new : List Value},
        (∀ {t : Ty} {x : t.den} {c : List Value}, Rep (Fre M w) w t x c → Rep (Fre M' w') w' t x c) → (∀ {av : AV} {c : List Value}, AVC M L w av c → AVC M' L' w' av c) → AVC M' L' w' v new → AVC M' L' w' c' (pre ++ new ++ post) := by
    intro t x p K h
    obtain ⟨c', hk, hh⟩ := setMix_ok h
    refine ⟨c', hk, ?_⟩
    intro M L w cs bt hc hf d s ho hv
    simp [fits] at hf
    subst hf
    obtain ⟨e, pre, mid, post, rfl, hl, hm, hn⟩ := hh hc ho hv
    exact ⟨e, pre, mid, post, rfl, hl, hm, fun hx _ hy => hn hx hy⟩
  induction a with
  | val t x =>
    intro p K h
    cases v with
    | val s y =>
      have h : setVal t x p s y (fun z => K (.val t z)) = some r := h
      obtain ⟨z, hk, hh⟩ := setVal_ok h
      refine ⟨_, hk, ?_⟩
      intro M L w cs bt hc hf d s' ho hv
      simp [fits] at hf hv
      subst hf hv
      obtain ⟨_, pre, mid, post, rfl, hl, hm, hn⟩ := hh hc ho
      exact ⟨by simp [fits], pre, mid, post, rfl, hl, hm, fun hx _ hy => hn hx hy⟩
    | _ => exact mix h
  | cons a b iha ihb =>
    intro p K h
    cases p with
    | nil => exact nil h
    | cons q p =>
      cases q with
      | idx i => simp [setAV] at h
      | fld i =>
        cases i with
        | zero =>
          simp only [setAV] at h
          obtain ⟨c', hk, hh⟩ := iha h
          refine ⟨_, hk, ?_⟩
          rintro M L w cs bt ⟨c1, c2, rfl, k1, k2⟩ hf d s ho hv
          cases bt <;> simp [fits] at hf
          simp only [offT] at ho
          obtain ⟨e, pre, mid, post, rfl, hl, hm, hn⟩ := hh k1 hf.1 ho hv
          exact ⟨by simp [fits, e, hf.2], pre, mid, post ++ c2, by simp, hl, hm, fun hx hz hy => ⟨_, c2, by simp, hn hx hz hy, hz k2⟩⟩
        | succ i =>
          simp only [setAV] at h
          obtain ⟨c', hk, hh⟩ := ihb h
          refine ⟨_, hk, ?_⟩
          rintro M L w cs bt ⟨c1, c2, rfl, k1, k2⟩ hf d s ho hv
          cases bt <;> simp [fits] at hf
          simp only [offT, Option.map_eq_some_iff] at ho
          obtain ⟨⟨d', s''⟩, ho, he⟩ := ho
          simp only [Prod.mk.injEq] at he
          obtain ⟨rfl, rfl⟩ := he
          obtain ⟨e, pre, mid, post, rfl, hl, hm, hn⟩ := hh k2 hf.2 ho hv
          exact ⟨by simp [fits, e, hf.1], c1 ++ pre, mid, post, by simp, by simp [hl, fits_length hf.1 k1], hm, fun hx hz hy => ⟨c1, _, by simp, hz k1, hn hx hz hy⟩⟩
  | _ =>
    intro p K h
    cases p with
    | nil => exact nil h
    | cons q p => simp [setAV] at h
end
end Go.Vi

set_option autoImplicit false
set_option linter.unusedVariables false
set_option linter.unusedSimpArgs false
namespace Go.Vi
open Go

/-! ## Steps of memory -/
def upd1 (L : Lk) (i : Nat) (e : Nat × Cont) : Lk := fun j => if j = i then e else L j
def updL (L : Lk) : Mem → Lk
  | [] => L
  | (i, e) :: u => updL (upd1 L i e) u
theorem look_put1 (m : Mem) (i : Nat) (e : Nat × Cont) : look (put m i e) = upd1 (look m) i e := by
  funext j; rw [look_put]; rfl
theorem look_puts (m u : Mem) : look (puts m u) = updL (look m) u := by
  induction u generalizing m with
  | nil => rfl
  | cons p u ih => obtain ⟨i, e⟩ := p; simp only [puts, updL, ih, look_put1]
theorem updL_not {u : Mem} : ∀ {L : Lk} {i : Nat}, i ∉ fsts u → updL L u i = L i := by
  induction u with
  | nil => intro L i _; rfl
  | cons p u ih =>
    obtain ⟨j, e⟩ := p
    intro L i h
    simp [fsts] at h
    simp only [updL]
    rw [ih h.2, upd1, if_neg h.1]
theorem updL_congr {u : Mem} : ∀ {L L' : Lk} {j : Nat}, (j ∉ fsts u → L j = L' j) → updL L u j = updL L' u j := by
  induction u with
  | nil => intro L L' j h; exact h (by simp [fsts])
  | cons p u ih =>
    obtain ⟨i, e⟩ := p
    intro L L' j h
    simp only [updL]
    refine ih fun hj => ?_
    simp only [upd1]
    split
    · rfl
    · rename_i hji; exact h (by simp [fsts, hj, hji])
theorem updL_cons {L : Lk} {d : Nat} {e : Nat × Cont} {u : Mem} (h : d ∉ fsts u) : updL L ((d, e) :: u) = upd1 (updL L u) d e := by
  funext j
  simp only [updL, upd1]
  by_cases hj : j = d
  · subst hj; rw [updL_not h]; simp [upd1]
  · rw [if_neg hj]
    exact updL_congr fun _ => by simp [upd1, hj]
theorem updL_append (L : Lk) (u v : Mem) : updL L (u ++ v) = updL (updL L u) v := by
  induction u generalizing L with
  | nil => rfl
  | cons p u ih => obtain ⟨i, e⟩ := p; exact ih _
theorem fsts_append (u v : Mem) : fsts (u ++ v) = fsts u ++ fsts v := by
  induction u with
  | nil => rfl
  | cons p u ih => obtain ⟨i, e⟩ := p; simp [fsts, ih]

theorem Compat.trans {a b c : Cont} (h : Compat a b) (k : Compat b c) : Compat a c := by
  cases a <;> cases b <;> cases c <;> simp_all [Compat]
theorem Later.trans {M M1 M2 : Ms} {L L1 L2 : Lk} {w w1 w2 : World} (h : Later M M1 L L1 w w1) (k : Later M1 M2 L1 L2 w1 w2) : Later M M2 L L2 w w2 where
  ctx := k.ctx.trans h.ctx
  fre b hb := ⟨(k.fre b (h.fre b hb).1).1, (k.fre b (h.fre b hb).1).2.trans (h.fre b hb).2⟩
  ver id := Nat.le_trans (h.ver id) (k.ver id)
  same id e := by
    have h1 := h.ver id
    have h2 := k.ver id
    have e1 : (L1 id).1 = (L id).1 := by omega
    have e2 : (L2 id).1 = (L1 id).1 := by omega
    exact ⟨(k.same id e2).1.trans (h.same id e1).1, (h.same id e1).2.trans (k.same id e2).2⟩

/-- what a world's change leaves of the frame -/
structure Same (w w' : World) : Prop where
  os : w'.os = w.os
  tape : w'.tape = w.tape
  output : w'.output = w.output

theorem Frame.alloc {w0 w w' : World} {E : Foot} (h : Frame w0 E w) (hs : Same w w') {o : Obj} (hh : w'.heap = w.heap.push o) : Frame w0 E w' where
  os := hs.os.trans h.os
  tape := hs.tape.trans h.tape
  output := hs.output.trans h.output
  size := by rw [hh]; have := h.size; simp; omega
  old b hb he := by
    rw [← h.old b hb he, hh, Array.getElem?_push]
    have := h.size
    rw [if_neg (by omega)]
  cut p hp := by
    obtain ⟨cur0, cur, el, fr, h1, h2, h3, h4⟩ := h.cut p hp
    refine ⟨cur0, cur, el, fr, h1, ?_, h3, h4⟩
    rw [hh, Array.getElem?_push, ← h2]
    have := (Array.getElem?_eq_some_iff.1 h1).1
    have := h.size
    rw [if_neg (by omega)]
theorem Frame.mod {w0 w : World} {E : Foot} (h : Frame w0 E w) {b : Nat} {cur cur' : Array Value} {el : TypeId} {fr : Nat × Nat} (hb : w.heap[b]? = some (.cells cur el fr)) (hs : cur'.size = cur.size) {lo hi : Nat}
    (hc : ∀ j, (j < lo ∨ hi ≤ j) → cur'[j]? = cur[j]?) (hw : w0.heap.size ≤ b ∨ ((∃ p ∈ E, p.1 = b) ∧ ∀ p ∈ E, p.1 = b → p.2.1 ≤ lo ∧ hi ≤ p.2.1 + p.2.2)) : Frame w0 E (w.setRow b cur') where
  os := h.os
  tape := h.tape
  output := h.output
  size := by have := h.size; simpa [World.setRow] using this
  old b' hb' he := by
    rw [← h.old b' hb' he, setRow_other]
    rintro rfl
    rcases hw with hw | ⟨⟨p, hp, hpe⟩, _⟩
    · omega
    · exact he p hp hpe
  cut p hp := by
    obtain ⟨cur0, cur1, el1, fr1, h1, h2, h3, h4⟩ := h.cut p hp
    by_cases hpb : p.1 = b
    · rw [hpb] at h2
      rw [hb] at h2
      simp only [Option.some.injEq, Obj.cells.injEq] at h2
      obtain ⟨rfl, rfl, rfl⟩ := h2
      refine ⟨cur0, cur', el, fr, h1, by rw [hpb]; exact setRow_heap w b cur cur' el fr hb, by omega, fun j hj => ?_⟩
      rw [← h4 j hj]
      refine hc j ?_
      rcases hw with hw | ⟨_, hw⟩
      · have := (Array.getElem?_eq_some_iff.1 h1).1; omega
      · have := hw p hp hpb; omega
    · refine ⟨cur0, cur1, el1, fr1, h1, ?_, h3, h4⟩
      rw [setRow_other _ _ _ _ hpb]; exact h2

theorem alloc_heap_old {w w' : World} {o : Obj} (hh : w'.heap = w.heap.push o) {b : Nat} (hb : b < w.heap.size) : w'.heap[b]? = w.heap[b]? := by
  rw [hh, Array.getElem?_push, if_neg (by omega)]
theorem alloc_heap_new {w w' : World} {o : Obj} (hh : w'.heap = w.heap.push o) : w'.heap[w.heap.size]? = some o := by
  rw [hh, Array.getElem?_push, if_pos rfl]

/-- a block laid new -/
def msAlloc (M : Ms) (w : World) (d n : Nat) : Ms := { M with κ := fun b => if b = w.heap.size then some d else M.κ b, ι := fun i => if i = d then some (w.heap.size, n) else M.ι i }
theorem alloc_step {M : Ms} {L : Lk} {w w' : World} (h : WInv M L w) {d n : Nat} {e : Nat × Cont} (he : (L d).1 < e.1) {o : Obj} (hs : Same w w') (hh : w'.heap = w.heap.push o) :
    Later M (msAlloc M w d n) L (upd1 L d e) w w' ∧ (BlkC (msAlloc M w d n) (upd1 L d e) w' d e.2 → WInv (msAlloc M w d n) (upd1 L d e) w') := by
  have hl : Later M (msAlloc M w d n) L (upd1 L d e) w w' := by
    refine ⟨rfl, ?_, ?_, ?_⟩
    · rintro b ⟨h1, h2, h3⟩
      refine ⟨⟨?_, h2, ?_⟩, alloc_heap_old hh h3⟩
      · have : b ≠ w.heap.size := by omega
        simp [msAlloc, this, h1]
      · rw [hh]; simp; omega
    · intro id; by_cases hid : id = d
      · subst hid; simp only [upd1, if_true]; omega
      · simp [upd1, hid]
    · intro id hid; by_cases hidd : id = d
      · subst hidd; simp only [upd1, if_true] at hid; omega
      · simp only [upd1, msAlloc, if_neg hidd]; exact ⟨trivial, Compat.refl _⟩
  refine ⟨hl, fun hb => ?_⟩
  constructor
  · intro id
    by_cases hid : id = d
    · subst hid; simpa [upd1] using hb
    · have e1 : upd1 L d e id = L id := by simp [upd1, hid]
      rw [e1]
      refine hl.blk (h.blk id) (by simp [msAlloc, hid]) fun b hκ => ?_
      have hlt := (h.own b id hκ).1
      have : b ≠ w.heap.size := by omega
      exact ⟨by simp [msAlloc, this, hκ], alloc_heap_old hh hlt⟩
  · intro b id hκ
    simp only [msAlloc] at hκ ⊢
    have hsz := h.frame.size
    by_cases hb' : b = w.heap.size
    · subst hb'
      refine ⟨by rw [hh]; simp, fun hh => ?_, .inl hsz⟩
      have := h.hid _ hh
      omega
    · rw [if_neg hb'] at hκ
      have := h.own b id hκ
      exact ⟨by rw [hh]; simp; omega, this.2⟩
  · exact h.hid
  · exact h.ed
  · exact h.frame.alloc hs hh
  · exact hl.glob h.glob

/-- a block written -/
theorem mod_step {M : Ms} {L : Lk} {w : World} (h : WInv M L w) {id b : Nat} (hκ : M.κ b = some id) {e : Nat × Cont} (he : (L id).1 < e.1 ∨ ((L id).1 = e.1 ∧ Compat (L id).2 e.2))
    {cur cur' : Array Value} {el : TypeId} {fr : Nat × Nat} (hb : w.heap[b]? = some (.cells cur el fr)) (hs : cur'.size = cur.size) {lo hi : Nat}
    (hc : ∀ j, (j < lo ∨ hi ≤ j) → cur'[j]? = cur[j]?) (hw : Wr M b lo hi) :
    Later M M L (upd1 L id e) w (w.setRow b cur') ∧ (BlkC M (upd1 L id e) (w.setRow b cur') id e.2 → WInv M (upd1 L id e) (w.setRow b cur')) := by
  have hl : Later M M L (upd1 L id e) w (w.setRow b cur') := by
    refine ⟨rfl, ?_, ?_, ?_⟩
    · rintro b' ⟨h1, h2, h3⟩
      have hne : b' ≠ b := by rintro rfl; rw [hκ] at h1; simp at h1
      exact ⟨⟨h1, h2, by simpa [World.setRow] using h3⟩, setRow_other _ _ _ _ hne⟩
    · intro i; by_cases hi' : i = id
      · subst hi'; simp only [upd1, if_true]; omega
      · simp [upd1, hi']
    · intro i hi'; by_cases hii : i = id
      · subst hii
        simp only [upd1, if_true] at hi' ⊢
        rcases he with he | he
        · omega
        · exact ⟨trivial, he.2⟩
      · simp only [upd1, if_neg hii]; exact ⟨trivial, Compat.refl _⟩
  refine ⟨hl, fun hbk => ?_⟩
  constructor
  · intro i
    by_cases hi' : i = id
    · subst hi'; simpa [upd1] using hbk
    · have e1 : upd1 L id e i = L i := by simp [upd1, hi']
      rw [e1]
      refine hl.blk (h.blk i) rfl fun b' hκ' => ?_
      have hne : b' ≠ b := by rintro rfl; rw [hκ] at hκ'; simp at hκ'; exact hi' hκ'.symm
      exact ⟨hκ', setRow_other _ _ _ _ hne⟩
  · intro b' i hκ'
    have := h.own b' i hκ'
    exact ⟨by simpa [World.setRow] using this.1, this.2⟩
  · exact h.hid
  · exact h.ed
  · refine h.frame.mod hb hs hc ?_
    rcases hw with hw | ⟨p, hp, h1, h2, h3⟩
    · exact .inl hw
    · refine .inr ⟨⟨p, hp, h1⟩, fun q hq hqb => ?_⟩
      have := h.ed p hp q hq (by rw [h1, hqb])
      subst this
      exact ⟨h2, h3⟩
  · exact hl.glob h.glob

/-- a row that is only read from now on -/
theorem freeze1 {M : Ms} {L : Lk} {w : World} (h : WInv M L w) {id ver : Nat} {t : Ty} {xs : List t.den} (hL : L id = (ver, .rowb t xs)) :
    ∃ M', Later M M' L (upd1 L id (ver, .ro t xs)) w w ∧ WInv M' (upd1 L id (ver, .ro t xs)) w ∧ M'.ι = M.ι ∧ (∀ b cap, M.ι id = some (b, cap) → Fre M' w b) := by
  let M' : Ms := { M with κ := fun b => if M.κ b = some id ∧ (M.ι id).map (·.1) = some b then none else M.κ b }
  have hk : ∀ b i, M'.κ b = some i → M.κ b = some i := by
    intro b i hb
    simp only [M'] at hb
    split at hb
    · simp at hb
    · exact hb
  have hk2 : ∀ b i, i ≠ id → M.κ b = some i → M'.κ b = some i := by
    intro b i hi hb
    simp only [M']
    rw [if_neg, hb]
    rintro ⟨h1, _⟩
    rw [hb] at h1
    simp at h1
    exact hi h1
  have hl : Later M M' L (upd1 L id (ver, .ro t xs)) w w := by
    refine ⟨rfl, ?_, ?_, ?_⟩
    · rintro b ⟨h1, h2, h3⟩
      refine ⟨⟨?_, h2, h3⟩, rfl⟩
      simp only [M']
      rw [h1]; simp
    · intro i; by_cases hi : i = id
      · subst hi; simp [upd1, hL]
      · simp [upd1, hi]
    · intro i _; by_cases hi : i = id
      · subst hi; simp [upd1, hL, Compat, M']
      · simp only [upd1, if_neg hi]; exact ⟨rfl, Compat.refl _⟩
  have hblk := h.blk id
  rw [hL] at hblk
  have hF : ∀ b cap, M.ι id = some (b, cap) → Fre M' w b := by
    intro b cap hι
    obtain ⟨h0, hr⟩ := hblk
    rcases hr with hr | ⟨b', cap', cur, el, k1, k2, _⟩
    · rw [hr.1] at hι; simp at hι
    · rw [hι] at k1
      simp only [Option.some.injEq, Prod.mk.injEq] at k1
      obtain ⟨rfl, rfl⟩ := k1
      have := h.own b id k2
      refine ⟨?_, this.2.1, this.1⟩
      simp [M', k2, hι]
  refine ⟨M', hl, ?_, rfl, hF⟩
  constructor
  · intro i
    by_cases hi : i = id
    · subst hi
      simp only [upd1, if_true]
      obtain ⟨h0, hr⟩ := hblk
      refine ⟨h0, ?_⟩
      rcases hr with hr | ⟨b, cap, cur, el, k1, k2, kw, ⟨fr, k3, _⟩, k4, k5, cs, k6, k7⟩
      · exact .inl hr
      · refine .inr ⟨b, cap, k1, hF b cap k1, k5, cs, k6.mono fun x c hx => hl.rep hx, fun j v hj => ?_⟩
        rw [cell_open k3]
        simpa using k7 j v hj
    · have e1 : upd1 L id (ver, .ro t xs) i = L i := by simp [upd1, hi]
      rw [e1]
      exact hl.blk (h.blk i) rfl fun b hκ => ⟨hk2 b i hi hκ, rfl⟩
  · intro b i hκ
    exact h.own b i (hk b i hκ)
  · exact h.hid
  · exact h.ed
  · exact h.frame
  · exact hl.glob h.glob

def FrozOf (L : Lk) (u : Mem) : Prop := ∀ p ∈ u, ∃ (ver : Nat) (t : Ty) (xs : List t.den), L p.1 = (ver, .rowb t xs) ∧ p.2 = (ver, .ro t xs)
theorem freeze_step {w : World} : ∀ {u : Mem} {M : Ms} {L : Lk}, WInv M L w → FrozOf L u → (fsts u).Nodup →
    ∃ M', Later M M' L (updL L u) w w ∧ WInv M' (updL L u) w ∧ M'.ι = M.ι ∧ (∀ i ∈ fsts u, ∀ b cap, M.ι i = some (b, cap) → Fre M' w b) := by
  intro u
  induction u with
  | nil => intro M L h _ _; exact ⟨M, Later.refl _ _ _, h, rfl, by simp [fsts]⟩
  | cons p u ih =>
    obtain ⟨i, e⟩ := p
    intro M L h hf hn
    obtain ⟨ver, t, xs, h1, h2⟩ := hf (i, e) (by simp)
    simp only at h1 h2
    subst h2
    simp only [fsts, List.nodup_cons] at hn
    obtain ⟨M1, l1, i1, e1, f1⟩ := freeze1 h h1
    have hf' : FrozOf (upd1 L i (ver, .ro t xs)) u := by
      intro p hp
      obtain ⟨v', t', xs', k1, k2⟩ := hf p (List.mem_cons_of_mem _ hp)
      refine ⟨v', t', xs', ?_, k2⟩
      have : p.1 ≠ i := by
        rintro rfl
        refine hn.1 ?_
        have hm : ∀ (u : Mem) (p : Nat × Nat × Cont), p ∈ u → p.1 ∈ fsts u := by
          intro u
          induction u with
          | nil => intro p hp; simp at hp
          | cons q u ih => intro p hp; obtain ⟨j, e⟩ := q; rcases List.mem_cons.1 hp with rfl | hp
                           · simp [fsts]
                           · simp [fsts, ih p hp]
        exact hm u p hp
      simp [upd1, this, k1]
    obtain ⟨M2, l2, i2, e2, f2⟩ := ih i1 hf' hn.2
    refine ⟨M2, l1.trans l2, i2, e2.trans e1, ?_⟩
    intro j hj b cap hb
    simp only [fsts, List.mem_cons] at hj
    rcases hj with rfl | hj
    · exact (l2.fre b (f1 b cap hb)).1
    · exact f2 j hj b cap (by rw [e1]; exact hb)
theorem mem_fsts {u : Mem} {p : Nat × Nat × Cont} (h : p ∈ u) : p.1 ∈ fsts u := by
  induction u with
  | nil => simp at h
  | cons q u ih =>
    obtain ⟨j, e⟩ := q
    rcases List.mem_cons.1 h with rfl | h
    · simp [fsts]
    · simp [fsts, ih h]

/-! ## What an operation sees of memory -/
def Msk (m L : Lk) : Prop := ∀ i, m i = L i ∨ m i = (0, .none)
theorem Msk.eq {m L : Lk} (h : Msk m L) {i : Nat} (hn : (m i).2 ≠ .none) : m i = L i := by
  rcases h i with h | h
  · exact h
  · rw [h] at hn; simp at hn
theorem froz_mem {m : Lk} : ∀ {ids : List Nat} {p : Nat × Nat × Cont}, p ∈ storeK.froz m ids → p.1 ∈ ids ∧ ∃ (ver : Nat) (t : Ty) (xs : List t.den), m p.1 = (ver, .rowb t xs) ∧ p.2 = (ver, .ro t xs) := by
  intro ids
  induction ids with
  | nil => intro p h; simp [storeK.froz] at h
  | cons i ids ih =>
    intro p h
    simp only [storeK.froz] at h
    split at h
    · rename_i ver t xs hm
      rcases List.mem_cons.1 h with rfl | h
      · exact ⟨by simp, ver, t, xs, hm, rfl⟩
      · have := ih h; exact ⟨by simp [this.1], this.2⟩
    · have := ih h; exact ⟨by simp [this.1], this.2⟩
theorem froz_of {m L : Lk} (h : Msk m L) (ids : List Nat) : FrozOf L (storeK.froz m ids) := by
  intro p hp
  obtain ⟨_, ver, t, xs, h1, h2⟩ := froz_mem hp
  exact ⟨ver, t, xs, by rw [← h.eq (by rw [h1]; simp), h1], h2⟩
theorem froz_has {m : Lk} : ∀ {ids : List Nat} {i : Nat}, i ∈ ids → (∃ (t : Ty) (xs : List t.den), (m i).2 = .rowb t xs) → i ∈ fsts (storeK.froz m ids) := by
  intro ids
  induction ids with
  | nil => intro i h; simp at h
  | cons j ids ih =>
    intro i h hr
    simp only [storeK.froz]
    rcases List.mem_cons.1 h with rfl | h
    · obtain ⟨t, xs, hr⟩ := hr
      split
      · simp [fsts]
      · rename_i hne; exact absurd (Prod.ext rfl hr : m i = ((m i).1, .rowb t xs)) (hne _ _ _)
    · split
      · simp [fsts, ih h hr]
      · exact ih h hr
theorem mem_dedup {l : List Nat} {i : Nat} : i ∈ dedup l ↔ i ∈ l := by
  induction l with
  | nil => simp [dedup]
  | cons j l ih =>
    simp only [dedup]
    cases hm : memB j l
    · simp [ih]
    · simp only [cond_true, ih, List.mem_cons]
      have := (memB_iff j l).1 hm
      constructor
      · exact .inr
      · rintro (rfl | h)
        · exact this
        · exact h
end Go.Vi

set_option autoImplicit false
set_option linter.unusedVariables false
set_option linter.unusedSimpArgs false
namespace Go.Vi
open Go

/-- a row's block and its cells -/
theorem blk_row {M : Ms} {L : Lk} {w : World} {id : Nat} {t : Ty} {xs : List t.den} (h : BlkC M L w id (.rowb t xs) ∨ BlkC M L w id (.ro t xs)) :
    0 < t.size ∧ ((M.ι id = none ∧ xs = []) ∨ ∃ (b cap : Nat) (cs : List Value), M.ι id = some (b, cap) ∧ xs.length ≤ cap ∧ CellsAt w b 0 cs ∧ RepAll (Rep (Fre M w) w t) xs cs) := by
  rcases h with ⟨h0, h⟩ | ⟨h0, h⟩
  · refine ⟨h0, ?_⟩
    rcases h with h | ⟨b, cap, cur, el, k1, k2, kw, ⟨fr, k3, _⟩, k4, k5, cs, k6, k7⟩
    · exact .inl h
    · refine .inr ⟨b, cap, cs, k1, k5, fun j v hj => ?_, k6⟩
      rw [cell_open k3]; simpa using k7 j v hj
  · refine ⟨h0, ?_⟩
    rcases h with h | ⟨b, cap, k1, k2, k5, cs, k6, k7⟩
    · exact .inl h
    · exact .inr ⟨b, cap, cs, k1, k5, k7, k6⟩

theorem CellsAt.take {w : World} {b o : Nat} {cs : List Value} (h : CellsAt w b o cs) (n : Nat) : CellsAt w b o (cs.take n) := by
  intro j v hj
  rw [List.getElem?_take] at hj
  split at hj
  · exact h j v hj
  · simp at hj
theorem CellsAt.drop {w : World} {b o : Nat} {cs : List Value} (h : CellsAt w b o cs) (n : Nat) : CellsAt w b (o + n) (cs.drop n) := by
  intro j v hj
  rw [List.getElem?_drop] at hj
  have := h (n + j) v hj
  rwa [← Nat.add_assoc] at this

/-- a slice of a row stands for the list of its elements -/
theorem rep_hdr {M : Ms} {L : Lk} {w : World} {A : Nat → Prop} {id : Nat} {t : Ty} {xs : List t.den} (hb : BlkC M L w id (.rowb t xs) ∨ BlkC M L w id (.ro t xs))
    (hA : ∀ b, Fre M w b → A b) (hid : ∀ b cap, M.ι id = some (b, cap) → A b) : Rep A w (.list t) xs [hdr (M.ι id) xs.length] := by
  obtain ⟨h0, h⟩ := blk_row hb
  rcases h with ⟨h1, rfl⟩ | ⟨b, cap, cs, h1, h2, h3, h4⟩
  · rw [h1]; exact ⟨none, 0, rfl, Nat.le_refl _, .inl rfl⟩
  · rw [h1]
    exact ⟨some ⟨b, 0, none⟩, cap, rfl, h2, .inr ⟨b, 0, cs, rfl, hid b cap h1, h3, h4.mono fun x c hx => hx.mono fun b hb => ⟨hA b hb, rfl⟩⟩⟩
theorem rep_hdrv {M : Ms} {L : Lk} {w : World} {A : Nat → Prop} {id lo hi : Nat} {t : Ty} {xs : List t.den} (hb : BlkC M L w id (.rowb t xs) ∨ BlkC M L w id (.ro t xs))
    (hA : ∀ b, Fre M w b → A b) (hid : ∀ b cap, M.ι id = some (b, cap) → A b) (hlo : lo ≤ hi) (hhi : hi ≤ xs.length) :
    Rep A w (.list t) ((xs.take hi).drop lo) [hdrv (M.ι id) t.size lo hi] := by
  obtain ⟨h0, h⟩ := blk_row hb
  rcases h with ⟨h1, rfl⟩ | ⟨b, cap, cs, h1, h2, h3, h4⟩
  · rw [h1]
    simp at hhi
    subst hhi
    simp at hlo
    subst hlo
    exact ⟨none, 0, rfl, Nat.le_refl _, .inl rfl⟩
  · rw [h1]
    have hl : ((xs.take hi).drop lo).length = hi - lo := by simp; omega
    refine ⟨_, cap - lo, by rw [hl]; rfl, by rw [hl]; omega, ?_⟩
    by_cases he : lo = hi
    · left
      apply List.eq_nil_of_length_eq_zero
      rw [hl]; omega
    · right
      have hne : ¬ cap = lo := by omega
      refine ⟨b, lo * t.size, (cs.take (hi * t.size)).drop (lo * t.size), ?_, hid b cap h1, ?_, ?_⟩
      · rw [if_neg hne, add_at]; simp
      · have := (h3.take (hi * t.size)).drop (lo * t.size)
        simpa using this
      · have ht := (RepAll.take_drop (fun x c h => Rep.length h) hi h4).1
        have hd := (RepAll.take_drop (fun x c h => Rep.length h) lo ht).2
        exact hd.mono fun x c hx => hx.mono fun b hb => ⟨hA b hb, rfl⟩

section
variable {R : Type}
theorem valK_ok {m : Lk} {r : R} : ∀ {t : Ty} {a : AV} {K : t.den → List Nat → Option R}, valK m t a K = some r →
    ∃ x ids, K x ids = some r ∧ (∀ i ∈ ids, ∃ (s : Ty) (xs : List s.den), (m i).2 = .rowb s xs) ∧ fits a t = true ∧
      ∀ {M : Ms} {L : Lk} {w : World} {cs : List Value}, Msk m L → WInv M L w → AVC M L w a cs → ∀ {A : Nat → Prop}, (∀ b, Fre M w b → A b) →
        (∀ i ∈ ids, ∀ b cap, M.ι i = some (b, cap) → A b) → Rep A w t x cs := by
  have val : ∀ {t : Ty} {s : Ty} {x : s.den} {K : t.den → List Nat → Option R}, (if h : s = t then K (h ▸ x) [] else none) = some r →
      ∃ x' ids, K x' ids = some r ∧ (∀ i ∈ ids, ∃ (s : Ty) (xs : List s.den), (m i).2 = .rowb s xs) ∧ fits (.val s x) t = true ∧
      ∀ {M : Ms} {L : Lk} {w : World} {cs : List Value}, Msk m L → WInv M L w → AVC M L w (.val s x) cs → ∀ {A : Nat → Prop}, (∀ b, Fre M w b → A b) →
        (∀ i ∈ ids, ∀ b cap, M.ι i = some (b, cap) → A b) → Rep A w t x' cs := by
    intro t s x K h
    split at h
    · rename_i e
      subst e
      exact ⟨x, [], h, by simp, by simp [fits], fun _ _ hc A hA _ => Rep.mono (fun b hb => ⟨hA b hb, rfl⟩) hc⟩
    · simp at h
  intro t
  induction t with
  | pair a b iha ihb =>
    intro v K h
    cases v with
    | val s x => exact val h
    | cons x y =>
      simp only [valK] at h
      obtain ⟨x', i, h1, i1, f1, r1⟩ := iha h
      obtain ⟨y', j, h2, i2, f2, r2⟩ := ihb h1
      refine ⟨_, _, h2, ?_, by simp [fits, f1, f2], ?_⟩
      · intro k hk
        rcases List.mem_append.1 hk with hk | hk
        · exact i1 k hk
        · exact i2 k hk
      · rintro M L w cs hm hw ⟨c1, c2, rfl, k1, k2⟩ A hA hi
        exact ⟨c1, c2, rfl, r1 hm hw k1 hA fun k hk => hi k (List.mem_append_left _ hk), r2 hm hw k2 hA fun k hk => hi k (List.mem_append_right _ hk)⟩
    | _ => simp [valK] at h
  | unit =>
    intro v K h
    cases v with
    | val s x => exact val h
    | unt =>
      simp only [valK] at h
      exact ⟨(), [], h, by simp, rfl, fun _ _ hc A hA _ => by simpa [AVC, Rep] using hc⟩
    | _ => simp [valK] at h
  | list t _ =>
    intro v K h
    cases v with
    | val s x => exact val h
    | nil =>
      simp only [valK] at h
      refine ⟨[], [], h, by simp, rfl, fun _ _ hc A hA _ => ?_⟩
      simp only [AVC] at hc
      exact ⟨none, 0, by simp [hc], Nat.le_refl _, .inl rfl⟩
    | row id ver =>
      simp only [valK] at h
      cases hv : Nat.beq (m id).1 ver
      · rw [hv] at h; simp at h
      · rw [hv] at h
        simp only [cond_true] at h
        have hv' : (m id).1 = ver := Nat.eq_of_beq_eq_true hv
        cases hc : (m id).2 with
        | rowb s xs =>
          rw [hc] at h
          simp only at h
          split at h
          · rename_i e
            subst e
            refine ⟨xs, [id], h, ?_, rfl, ?_⟩
            · intro i hi; simp at hi; subst hi; exact ⟨_, _, hc⟩
            · rintro M L w cs hm hw ⟨k1, k2, k3⟩ A hA hi
              have hL := hm.eq (i := id) (by rw [hc]; simp)
              have hb := hw.blk id
              rw [← hL, hc] at hb k3
              have := k3 hv'.symm
              rw [this]
              exact rep_hdr (.inl hb) hA fun b cap he => hi id (by simp) b cap he
          · simp at h
        | ro s xs =>
          rw [hc] at h
          simp only at h
          split at h
          · rename_i e
            subst e
            refine ⟨xs, [], h, by simp, rfl, ?_⟩
            rintro M L w cs hm hw ⟨k1, k2, k3⟩ A hA hi
            have hL := hm.eq (i := id) (by rw [hc]; simp)
            have hb := hw.blk id
            rw [← hL, hc] at hb k3
            have := k3 hv'.symm
            rw [this]
            refine rep_hdr (.inr hb) hA fun b cap he => ?_
            obtain ⟨h0, hr⟩ := hb
            rcases hr with hr | ⟨b', cap', k1, k2, _⟩
            · rw [hr.1] at he; simp at he
            · rw [he] at k1; simp at k1; obtain ⟨rfl, rfl⟩ := k1; exact hA b k2
          · simp at h
        | _ => rw [hc] at h; simp at h
    | rowv id ver lo hi' =>
      simp only [valK] at h
      cases hv : Nat.beq (m id).1 ver
      · rw [hv] at h; simp at h
      · rw [hv] at h
        simp only [cond_true] at h
        have hv' : (m id).1 = ver := Nat.eq_of_beq_eq_true hv
        cases hc : (m id).2 with
        | rowb s xs =>
          rw [hc] at h
          simp only at h
          split at h
          · rename_i e
            subst e
            refine ⟨_, [id], h, ?_, rfl, ?_⟩
            · intro i hi; simp at hi; subst hi; exact ⟨_, _, hc⟩
            · rintro M L w cs hm hw ⟨k1, k2, k3⟩ A hA hi
              have hL := hm.eq (i := id) (by rw [hc]; simp)
              have hb := hw.blk id
              rw [← hL, hc] at hb k3
              obtain ⟨k4, k5, k6⟩ := k3 hv'.symm
              rw [k6]
              exact rep_hdrv (.inl hb) hA (fun b cap he => hi id (by simp) b cap he) k4 k5
          · simp at h
        | ro s xs =>
          rw [hc] at h
          simp only at h
          split at h
          · rename_i e
            subst e
            refine ⟨_, [], h, by simp, rfl, ?_⟩
            rintro M L w cs hm hw ⟨k1, k2, k3⟩ A hA hi
            have hL := hm.eq (i := id) (by rw [hc]; simp)
            have hb := hw.blk id
            rw [← hL, hc] at hb k3
            obtain ⟨k4, k5, k6⟩ := k3 hv'.symm
            rw [k6]
            refine rep_hdrv (.inr hb) hA (fun b cap he => ?_) k4 k5
            obtain ⟨h0, hr⟩ := hb
            rcases hr with hr | ⟨b', cap', k1, k2, _⟩
            · rw [hr.1] at he; simp at he
            · rw [he] at k1; simp at k1; obtain ⟨rfl, rfl⟩ := k1; exact hA b k2
          · simp at h
        | _ => rw [hc] at h; simp at h
    | _ => simp [valK] at h
  | _ =>
    intro v K h
    cases v with
    | val s x => exact val h
    | _ => simp [valK] at h

/-- data without slices stands for itself wherever it lies -/
theorem Rep.bare {A A' : Nat → Prop} {w w' : World} : ∀ {t : Ty} {x : t.den} {cs : List Value}, hasList t = false → Rep A w t x cs → Rep A' w' t x cs := by
  intro t
  induction t with
  | list t _ => intro x cs h; simp [hasList] at h
  | arr n t ih => rintro x cs h ⟨h1, h2⟩; exact ⟨h1, h2.mono fun x c hx => ih h hx⟩
  | pair a b iha ihb =>
    rintro x cs h ⟨c1, c2, e, h1, h2⟩
    simp [hasList] at h
    exact ⟨c1, c2, e, iha h.1 h1, ihb h.2 h2⟩
  | _ => intro x cs _ h; exact h
end
end Go.Vi

set_option autoImplicit false
set_option linter.unusedVariables false
set_option linter.unusedSimpArgs false
namespace Go.Vi
open Go

/-! ## Values of simple data -/
section
variable {M : Ms} {L : Lk} {w : World}
theorem avr_val {t : Ty} {x : t.den} {cs : List Value} (h : Rep (Fre M w) w t x cs) : AVR M L w (.val t x) (toV t.isAgg cs) := ⟨cs, h, rfl⟩
theorem avr_val' {t : Ty} {x : t.den} {v : Value} (h : AVR M L w (.val t x) v) : ∃ cs, Rep (Fre M w) w t x cs ∧ v = toV t.isAgg cs := h
theorem avr_int {k : IntKind} {n : Int} {v : Value} : AVR M L w (.val (.int k) n) v ↔ v = .int k n := by
  constructor
  · rintro ⟨cs, h, rfl⟩; simp only [AVC, Rep] at h; subst h; rfl
  · rintro rfl; exact ⟨[.int k n], rfl, rfl⟩
theorem avr_bool {b : Bool} {v : Value} : AVR M L w (.val .bool b) v ↔ v = .bool b := by
  constructor
  · rintro ⟨cs, h, rfl⟩; simp only [AVC, Rep] at h; subst h; rfl
  · rintro rfl; exact ⟨[.bool b], rfl, rfl⟩
theorem avr_str {s : List UInt8} {v : Value} : AVR M L w (.val .str s) v ↔ v = sv s := by
  constructor
  · rintro ⟨cs, h, rfl⟩; simp only [AVC, Rep] at h; subst h; rfl
  · rintro rfl; exact ⟨[sv s], rfl, rfl⟩
theorem avr_nil {v : Value} : AVR M L w .nil v ↔ v = .slice none 0 0 := by
  constructor
  · rintro ⟨cs, h, rfl⟩; simp only [AVC] at h; subst h; rfl
  · rintro rfl; exact ⟨[.slice none 0 0], rfl, rfl⟩
theorem avr_fn {f : Nat} {v : Value} : AVR M L w (.fn f) v ↔ v = .func (.func f) #[] #[] := by
  constructor
  · rintro ⟨cs, h, rfl⟩; simp only [AVC] at h; subst h; rfl
  · rintro rfl; exact ⟨_, rfl, rfl⟩
theorem avr_err {b : Bool} {v : Value} : AVR M L w (.val .err b) v ↔ (b = false ∧ v = .nilIface) ∨ (b = true ∧ ∃ t u, v = .iface t u) := by
  constructor
  · rintro ⟨cs, h, rfl⟩
    rcases h with ⟨h, rfl⟩ | ⟨h, t, u, rfl⟩
    · exact .inl ⟨h, rfl⟩
    · exact .inr ⟨h, t, u, rfl⟩
  · rintro (⟨h, rfl⟩ | ⟨h, t, u, rfl⟩)
    · exact ⟨[.nilIface], .inl ⟨h, rfl⟩, rfl⟩
    · exact ⟨[.iface t u], .inr ⟨h, t, u, rfl⟩, rfl⟩
end

/-! ## Integers and strings -/
section
variable {R : Type}
theorem ibeq (a b : Int) : (a == b) = decide (a = b) := by rw [Bool.eq_iff_iff]; simp
theorem ibne (a b : Int) : (a != b) = !decide (a = b) := by rw [bne, ibeq]
theorem intBin_ok {op : BinOp} {k : IntKind} {a b : Int} {K : AV → Option R} {r : R} (h : intBin op k a b K = some r) (P : Program) (t : TypeId) :
    ∃ v, K v = some r ∧ ∀ (w : World), ∃ val, (binOp op t (.int k a) (.int k b)).run P w = .ok val w ∧ ∀ (M : Ms) (L : Lk), AVR M L w v val := by
  cases op <;> simp only [intBin, cnd] at h <;> first
    | (simp at h; done)
    | skip
  case add => exact ⟨_, h, fun w => ⟨.int k (k.wrap (a + b)), by simp [binOp, Op.intArith], fun M L => avr_int.2 rfl⟩⟩
  case sub => exact ⟨_, h, fun w => ⟨.int k (k.wrap (a - b)), by simp [binOp, Op.intArith], fun M L => avr_int.2 rfl⟩⟩
  case mul => exact ⟨_, h, fun w => ⟨.int k (k.wrap (a * b)), by simp [binOp, Op.intArith], fun M L => avr_int.2 rfl⟩⟩
  case and => exact ⟨_, h, fun w => ⟨.int k (ibits .and k a b), by simp [binOp, Op.intBits, ibits], fun M L => avr_int.2 rfl⟩⟩
  case or => exact ⟨_, h, fun w => ⟨.int k (ibits .or k a b), by simp [binOp, Op.intBits, ibits], fun M L => avr_int.2 rfl⟩⟩
  case xor => exact ⟨_, h, fun w => ⟨.int k (ibits .xor k a b), by simp [binOp, Op.intBits, ibits], fun M L => avr_int.2 rfl⟩⟩
  case andNot => exact ⟨_, h, fun w => ⟨.int k (ibits .andNot k a b), by simp [binOp, Op.intBits, ibits], fun M L => avr_int.2 rfl⟩⟩
  case quo =>
    by_cases hb : b = 0
    · simp [hb] at h
    · simp only [hb, decide_false, cond_false] at h
      exact ⟨_, h, fun w => ⟨.int k (k.wrap (a.tdiv b)), by simp [binOp, Op.intDiv, hb], fun M L => avr_int.2 rfl⟩⟩
  case rem =>
    by_cases hb : b = 0
    · simp [hb] at h
    · simp only [hb, decide_false, cond_false] at h
      exact ⟨_, h, fun w => ⟨.int k (a.tmod b), by simp [binOp, Op.intDiv, hb], fun M L => avr_int.2 rfl⟩⟩
  case eql => exact ⟨_, h, fun w => ⟨.bool (decide (a = b)), by simp [binOp, Op.intCmp, ibeq], fun M L => avr_bool.2 rfl⟩⟩
  case neq => exact ⟨_, h, fun w => ⟨.bool (!decide (a = b)), by simp [binOp, Op.intCmp, ibne], fun M L => avr_bool.2 rfl⟩⟩
  case lss => exact ⟨_, h, fun w => ⟨.bool (decide (a < b)), by simp [binOp, Op.intCmp], fun M L => avr_bool.2 rfl⟩⟩
  case leq => exact ⟨_, h, fun w => ⟨.bool (decide (a ≤ b)), by simp [binOp, Op.intCmp], fun M L => avr_bool.2 rfl⟩⟩
  case gtr => exact ⟨_, h, fun w => ⟨.bool (decide (a > b)), by simp [binOp, Op.intCmp], fun M L => avr_bool.2 rfl⟩⟩
  case geq => exact ⟨_, h, fun w => ⟨.bool (decide (a ≥ b)), by simp [binOp, Op.intCmp], fun M L => avr_bool.2 rfl⟩⟩

theorem shift_ok {k k' : IntKind} {a b : Int} {K : AV → Option R} {r : R} {op : BinOp} (P : Program) (t : TypeId)
    (h : (op = .shl ∧ cnd (decide ((b : Int) < 0)) none (K (.val (.int k) (ishl k a b))) = some r) ∨ (op = .shr ∧ cnd (decide ((b : Int) < 0)) none (K (.val (.int k) (ishr k a b))) = some r)) :
    ∃ v, K v = some r ∧ ∀ (w : World), ∃ val, (binOp op t (.int k a) (.int k' b)).run P w = .ok val w ∧ ∀ (M : Ms) (L : Lk), AVR M L w v val := by
  rcases h with ⟨rfl, h⟩ | ⟨rfl, h⟩ <;> by_cases hb : b < 0 <;> simp only [cnd, hb, decide_true, decide_false, cond_true, cond_false] at h
  · simp at h
  · exact ⟨_, h, fun w => ⟨.int k (ishl k a b), by simp [binOp, Op.shift, hb, ishl], fun M L => avr_int.2 rfl⟩⟩
  · simp at h
  · exact ⟨_, h, fun w => ⟨.int k (ishr k a b), by simp [binOp, Op.shift, hb, ishr], fun M L => avr_int.2 rfl⟩⟩

theorem toList_mk (s : List UInt8) : (ByteArray.mk ⟨s⟩).toList = s := by rw [ByteArray.toList_eq]
theorem strBin_ok {op : BinOp} {a b : List UInt8} {K : AV → Option R} {r : R} (h : strBin op a b K = some r) (P : Program) (t : TypeId) :
    ∃ v, K v = some r ∧ ∀ (w : World), ∃ val, (binOp op t (sv a) (sv b)).run P w = .ok val w ∧ ∀ (M : Ms) (L : Lk), AVR M L w v val := by
  have hq : ∀ (a b : List UInt8), (a == b) = decide (a = b) := fun a b => by
    rw [Bool.eq_iff_iff]; simp
  cases op <;> simp only [strBin] at h <;> first
    | (simp at h; done)
    | skip
  case add =>
    simp only [bnd, Option.bind_eq_some_iff, cat] at h
    obtain ⟨s, hs, h⟩ := h
    split at hs
    · rename_i hl
      simp only [Option.some.injEq] at hs
      subst hs
      refine ⟨_, h, fun w => ⟨sv (a ++ b), ?_, fun M L => avr_str.2 rfl⟩⟩
      have := run_string_add_sum (P := P) w ⟨⟨a⟩⟩ ⟨⟨b⟩⟩ (by simpa [ByteArray.size] using hl)
      simp only [binOp, sv, this]
      congr 2
    · simp at hs
  case eql => exact ⟨_, h, fun w => ⟨.bool (decide (a = b)), by simp [binOp, sv, Op.stringOp, toList_mk, hq], fun M L => avr_bool.2 rfl⟩⟩
  case neq => exact ⟨_, h, fun w => ⟨.bool (!decide (a = b)), by simp [binOp, sv, Op.stringOp, toList_mk, hq], fun M L => avr_bool.2 rfl⟩⟩
  case lss => exact ⟨_, h, fun w => ⟨.bool (strLt a b), by simp [binOp, sv, Op.stringOp, toList_mk, hq, strLt], fun M L => avr_bool.2 rfl⟩⟩
  case leq => exact ⟨_, h, fun w => ⟨.bool (strLt a b || decide (a = b)), by simp [binOp, sv, Op.stringOp, toList_mk, hq, strLt], fun M L => avr_bool.2 rfl⟩⟩
  case gtr => exact ⟨_, h, fun w => ⟨.bool (!(strLt a b || decide (a = b))), by simp [binOp, sv, Op.stringOp, toList_mk, hq, strLt], fun M L => avr_bool.2 rfl⟩⟩
  case geq => exact ⟨_, h, fun w => ⟨.bool (!strLt a b), by simp [binOp, sv, Op.stringOp, toList_mk, hq, strLt], fun M L => avr_bool.2 rfl⟩⟩

/-! ## Equality of structs -/
def EqT (P : Program) : Ty → TypeId ⊕ List Field → Bool
  | .pair a b, .inl t => !P.stoodInHeld t && (match P.underlying t with
    | some (.struct fs) => (match fs.toList with | f :: r => f.name != "_" && EqT P a (.inl f.type) && EqT P b (.inr r) | [] => false)
    | _ => false)
  | .pair a b, .inr (f :: r) => f.name != "_" && EqT P a (.inl f.type) && EqT P b (.inr r)
  | .unit, .inl t => !P.stoodInHeld t
  | .unit, .inr [] => true
  | _, .inl _ => true
  | _, _ => false
def Ty.deep : Ty → Nat
  | .pair a b => max (a.deep + 1) b.deep
  | _ => 1
variable {P : Program}
theorem run_part {ty : Ty} {t : TypeId} (h : Lay P ty (.inl t) = true) {pre mid post : List Value} (hm : mid.length = ty.size) (w : World) :
    (part t (pre ++ mid ++ post).toArray pre.length).run P w = .ok (toV ty.isAgg mid) w := by
  obtain ⟨i, z, hi, hs, _⟩ := lay_info h
  simp only [part, Sem.run_bind, lay_isAgg h w, Result.andThen_ok]
  cases ha : ty.isAgg with
  | true =>
    simp only [if_true, Sem.run_bind, sizeOf, typeInfo, run_program, Result.andThen_ok, hi, Sem.run_pure, toV]
    rw [hs, ← hm]
    congr 2
    apply Array.ext'
    simp [Array.toList_extract, List.extract]
  | false =>
    have h1 := size_one ha
    rw [h1] at hm
    match mid, hm with
    | [v], _ => simp [toV]

theorem run_eqFields_ok {A A' : Nat → Prop} {w w' : World} : ∀ {ty : Ty} {d : Nat} {s : TypeId ⊕ List Field} {x y : ty.den},
    (∀ t, s = .inl t → Lay P ty (.inl t) = true → EqT P ty (.inl t) = true → eqvOk ty = true → ty.deep ≤ d → ∀ {cs ds : List Value}, Rep A w ty x cs → Rep A' w' ty y ds →
      ∀ w1, (Op.equalIn d t (toV ty.isAgg cs) (toV ty.isAgg ds)).run P w1 = .ok (eqv ty x y) w1) ∧
    (∀ fs off, s = .inr fs → Lay P ty (.inr (off, fs)) = true → EqT P ty (.inr fs) = true → eqvOk ty = true → ty.deep ≤ d + 1 → ∀ {pre cs pre' ds : List Value}, pre.length = off → pre'.length = off → Rep A w ty x cs → Rep A' w' ty y ds →
      ∀ w1, (Op.eqFields d (pre ++ cs).toArray (pre' ++ ds).toArray fs).run P w1 = .ok (eqv ty x y) w1) := by
  intro ty
  induction ty with
  | int k =>
    intro d s x y
    refine ⟨fun t _ hl _ _ hd cs ds hx hy w1 => ?_, fun fs off _ hl => by simp [Lay] at hl⟩
    simp only [Lay, Bool.and_eq_true] at hl
    obtain ⟨_, hl⟩ := hl
    split at hl
    · rename_i k' hu
      simp only [Rep] at hx hy
      subst hx hy
      obtain ⟨d, rfl⟩ : ∃ e, d = e + 1 := ⟨d - 1, by simp [Ty.deep] at hd; omega⟩
      have := run_equalIn_int (P := P) w1 d t k k' x y hu
      rw [show toV (Ty.int k).isAgg [Value.int k x] = .int k x from rfl, show toV (Ty.int k).isAgg [Value.int k y] = .int k y from rfl, this]
      rfl
    · simp at hl
  | bool =>
    intro d s x y
    refine ⟨fun t _ hl _ _ hd cs ds hx hy w1 => ?_, fun fs off _ hl => by simp [Lay] at hl⟩
    simp only [Lay, Bool.and_eq_true] at hl
    obtain ⟨_, hl⟩ := hl
    split at hl
    · rename_i hu
      simp only [Rep] at hx hy
      subst hx hy
      obtain ⟨d, rfl⟩ : ∃ e, d = e + 1 := ⟨d - 1, by simp [Ty.deep] at hd; omega⟩
      have := run_equalIn_bool' (P := P) w1 d t x y hu
      rw [show toV (Ty.bool).isAgg [Value.bool x] = .bool x from rfl, show toV (Ty.bool).isAgg [Value.bool y] = .bool y from rfl, this]
      congr 1
    · simp at hl
  | str =>
    intro d s x y
    refine ⟨fun t _ hl _ _ hd cs ds hx hy w1 => ?_, fun fs off _ hl => by simp [Lay] at hl⟩
    simp only [Lay, Bool.and_eq_true] at hl
    obtain ⟨_, hl⟩ := hl
    split at hl
    · rename_i hu
      simp only [Rep] at hx hy
      subst hx hy
      obtain ⟨d, rfl⟩ : ∃ e, d = e + 1 := ⟨d - 1, by simp [Ty.deep] at hd; omega⟩
      have := run_equalIn_string (P := P) w1 d t ⟨⟨x⟩⟩ ⟨⟨y⟩⟩ hu
      rw [show toV (Ty.str).isAgg [sv x] = .string ⟨⟨x⟩⟩ from rfl, show toV (Ty.str).isAgg [sv y] = .string ⟨⟨y⟩⟩ from rfl, this, toList_mk, toList_mk]
      congr 1
      rw [Bool.eq_iff_iff]; simp [eqv]
    · simp at hl
  | unit =>
    intro d s x y
    constructor
    · intro t _ hl he _ hd cs ds hx hy w1
      obtain ⟨fs, hu, hf⟩ := lay_struct hl (.inr rfl)
      simp only [Rep] at hx hy
      subst hx hy
      obtain ⟨d, rfl⟩ : ∃ e, d = e + 1 := ⟨d - 1, by simp [Ty.deep] at hd; omega⟩
      have hfo : P.fieldsOf t = fs := by simp [Program.fieldsOf, hu]
      simp only [EqT, Bool.not_eq_true'] at he
      have := run_equalIn_struct (P := P) w1 d t #[] #[] (by rw [hfo]; exact hu) he
      rw [show toV (Ty.unit).isAgg [] = .agg #[] from rfl, this, hfo]
      cases hfl : fs.toList with
      | nil => rfl
      | cons f r => rw [hfl] at hf; simp [Lay] at hf
    · intro fs off _ hl he _ hd pre cs pre' ds h1 h2 hx hy w1
      cases fs with
      | nil => rfl
      | cons f r => simp [Lay] at hl
  | pair a b iha ihb =>
    intro d s x y
    have fields : ∀ (d : Nat) fs off, Lay P (.pair a b) (.inr (off, fs)) = true → EqT P (.pair a b) (.inr fs) = true → eqvOk (.pair a b) = true → (Ty.pair a b).deep ≤ d + 1 → ∀ {pre cs pre' ds : List Value}, pre.length = off → pre'.length = off → Rep A w (.pair a b) x cs → Rep A' w' (.pair a b) y ds →
      ∀ w1, (Op.eqFields d (pre ++ cs).toArray (pre' ++ ds).toArray fs).run P w1 = .ok (eqv (.pair a b) x y) w1 := by
      intro d fs off hl he hok hd pre cs pre' ds h1 h2 hx hy w1
      cases fs with
      | nil => simp [Lay] at hl
      | cons f r =>
        simp only [Lay, Bool.and_eq_true, decide_eq_true_eq] at hl
        obtain ⟨⟨⟨l1, l2⟩, l3⟩, l4⟩ := hl
        simp only [EqT, Bool.and_eq_true, bne_iff_ne, ne_eq] at he
        obtain ⟨⟨e1, e2⟩, e3⟩ := he
        simp only [eqvOk, Bool.and_eq_true] at hok
        simp only [Ty.deep] at hd
        obtain ⟨c1, c2, rfl, x1, x2⟩ := hx
        obtain ⟨d1, d2, rfl, y1, y2⟩ := hy
        have p1 := run_part l3 (pre := pre) (mid := c1) (post := c2) (Rep.length x1) w1
        have p2 := run_part l3 (pre := pre') (mid := d1) (post := d2) (Rep.length y1) w1
        have q1 := (iha (d := d) (s := .inl f.type) (x := x.1) (y := y.1)).1 f.type rfl l3 e2 hok.1 (by omega) x1 y1 w1
        have q2 := (ihb (d := d) (s := .inr r) (x := x.2) (y := y.2)).2 r (off + a.size) rfl l4 e3 hok.2 (by omega) (pre := pre ++ c1) (pre' := pre' ++ d1) (by simp [h1, Rep.length x1]) (by simp [h2, Rep.length y1]) x2 y2 w1
        rw [List.append_assoc] at p1 p2 q2
        rw [show pre' ++ d1 ++ d2 = pre' ++ (d1 ++ d2) by simp] at q2
        simp only [Op.eqFields, if_pos e1, Sem.run_bind, l1]
        rw [← h1, p1]
        simp only [Result.andThen_ok]
        rw [h1, ← h2, p2]
        simp only [Result.andThen_ok, q1, Sem.run_ite, q2, eqv]
        cases eqv a x.1 y.1 <;> simp
    constructor
    · intro t _ hl he hok hd cs ds hx hy w1
      obtain ⟨fs, hu, hf⟩ := lay_struct hl (.inl ⟨a, b, rfl⟩)
      obtain ⟨d, rfl⟩ : ∃ e, d = e + 1 := ⟨d - 1, by simp [Ty.deep] at hd; omega⟩
      have hfo : P.fieldsOf t = fs := by simp [Program.fieldsOf, hu]
      simp only [EqT, Bool.and_eq_true, Bool.not_eq_true'] at he
      obtain ⟨he0, he⟩ := he
      rw [hu] at he
      simp only at he
      have := run_equalIn_struct (P := P) w1 d t cs.toArray ds.toArray (by rw [hfo]; exact hu) he0
      rw [show toV (Ty.pair a b).isAgg cs = .agg cs.toArray from rfl, show toV (Ty.pair a b).isAgg ds = .agg ds.toArray from rfl, this, hfo]
      have he' : EqT P (.pair a b) (.inr fs.toList) = true := by
        split at he
        · rename_i f r hfl
          rw [hfl]
          simpa [EqT] using he
        · simp at he
      exact fields d fs.toList 0 hf he' hok (by simp only [Ty.deep] at hd ⊢; omega) (pre := []) (pre' := []) rfl rfl hx hy w1
    · intro fs off hs; exact fields d fs off
  | _ =>
    intro d s x y
    refine ⟨fun t _ _ _ hok => by simp [eqvOk] at hok, fun fs off _ _ _ hok => by simp [eqvOk] at hok⟩
end
end Go.Vi

set_option autoImplicit false
set_option linter.unusedVariables false
set_option linter.unusedSimpArgs false
namespace Go.Vi
open Go

/-! ## Loads -/
theorem avr_fits {M : Ms} {L : Lk} {w : World} {v : AV} {t : Ty} {cs : List Value} (hf : fits v t = true) (h : AVC M L w v cs) : AVR M L w v (toV t.isAgg cs) := by
  rw [← fits_agg hf]
  cases v <;> first | exact ⟨cs, h, rfl⟩ | simp [fits] at hf
theorem fits_avr {M : Ms} {L : Lk} {w : World} {v : AV} {t : Ty} {val : Value} (hf : fits v t = true) (h : AVR M L w v val) : ∃ cs, AVC M L w v cs ∧ val = toV t.isAgg cs ∧ cs.length = t.size ∧ val.cells.toList = cs := by
  have key : ∀ cs, AVC M L w v cs → val = toV (aggAV v) cs → ∃ cs, AVC M L w v cs ∧ val = toV t.isAgg cs ∧ cs.length = t.size ∧ val.cells.toList = cs := by
    intro cs h1 h2
    refine ⟨cs, h1, by rw [h2, fits_agg hf], fits_length hf h1, ?_⟩
    rw [h2]
    refine cells_toV h1.one fun ha => ?_
    rw [fits_agg hf] at ha
    rw [fits_length hf h1, size_one ha]
  cases v <;> first | (obtain ⟨cs, h1, h2⟩ := h; exact key cs h1 h2) | simp [fits] at hf
theorem CellsAt.mid {w : World} {b o : Nat} {pre mid post : List Value} (h : CellsAt w b o (pre ++ mid ++ post)) : CellsAt w b (o + pre.length) mid := by
  rw [List.append_assoc] at h
  exact (CellsAt.append (CellsAt.append h).2).1
theorem run_loadVar {P : Program} {w : World} {ty : Ty} {t : TypeId} (hl : Lay P ty (.inl t) = true) {b o : Nat} {cs : List Value} (h : CellsAt w b o cs) (hs : cs.length = ty.size) :
    (loadVar t ⟨b, o, none⟩).run P w = .ok (toV ty.isAgg cs) w := by
  obtain ⟨i, z, hi, hsz, _⟩ := lay_info hl
  simp only [loadVar, Sem.run_bind, lay_isAgg hl w, Result.andThen_ok]
  cases ha : ty.isAgg with
  | true =>
    have := run_loadCells_list (P := P) w ⟨b, o, none⟩ cs fun j v hj => by rw [add_at]; exact h j v hj
    simp only [if_true, Sem.run_bind, sizeOf, typeInfo, run_program, Result.andThen_ok, hi, Sem.run_pure, hsz, ← hs, this, toV]
  | false =>
    have h1 := size_one ha
    rw [h1] at hs
    match cs, hs with
    | [v], _ =>
      have := h 0 v rfl
      simp only [Nat.add_zero] at this
      simp only [Bool.false_eq_true, if_false, run_load, this]
      rfl

section
variable {R : Type} {P : Program}
theorem beq_case {a b : Nat} {x : Option R} {r : R} (h : cond (Nat.beq a b) x none = some r) : a = b ∧ x = some r := by
  cases hv : Nat.beq a b
  · rw [hv] at h; simp at h
  · rw [hv] at h; exact ⟨Nat.eq_of_beq_eq_true hv, h⟩

theorem box_cells {M : Ms} {L : Lk} {w : World} {id b o : Nat} {t : Ty} {a : AV} (h : BlkC M L w id (.box t a)) (hι : M.ι id = some (b, o)) :
    fits a t = true ∧ M.κ b = some id ∧ Wr M b o (o + t.size) ∧ ∃ (cur : Array Value) (el : TypeId) (cs : List Value), Open w b cur el ∧ AVC M L w a cs ∧ (∀ (j : Nat) (v : Value), cs[j]? = some v → cur[o + j]? = some v) ∧ CellsAt w b o cs := by
  obtain ⟨h0, b', o', cur, el, k1, k2, kw, hop, cs, k4, k5⟩ := h
  rw [hι] at k1
  simp only [Option.some.injEq, Prod.mk.injEq] at k1
  obtain ⟨rfl, rfl⟩ := k1
  refine ⟨h0, k2, kw, cur, el, cs, hop, k4, k5, fun j v hj => ?_⟩
  obtain ⟨fr, k3, _⟩ := hop
  rw [cell_open k3]; exact k5 j v hj
theorem row_cells {M : Ms} {L : Lk} {w : World} {id b cap : Nat} {t : Ty} {xs : List t.den} (h : BlkC M L w id (.rowb t xs)) (hι : M.ι id = some (b, cap)) :
    0 < t.size ∧ M.κ b = some id ∧ Wr M b 0 (cap * t.size) ∧ ∃ (cur : Array Value) (el : TypeId) (cs : List Value), Open w b cur el ∧ cur.size = cap * t.size ∧ xs.length ≤ cap ∧
      RepAll (Rep (Fre M w) w t) xs cs ∧ (∀ (j : Nat) (v : Value), cs[j]? = some v → cur[j]? = some v) ∧ CellsAt w b 0 cs := by
  obtain ⟨h0, h⟩ := h
  rcases h with h | ⟨b', cap', cur, el, k1, k2, kw, hop, k4, k5, cs, k6, k7⟩
  · rw [h.1] at hι; simp at hι
  · rw [hι] at k1
    simp only [Option.some.injEq, Prod.mk.injEq] at k1
    obtain ⟨rfl, rfl⟩ := k1
    refine ⟨h0, k2, kw, cur, el, cs, hop, k4, k5, k6, k7, fun j v hj => ?_⟩
    obtain ⟨fr, k3, _⟩ := hop
    rw [cell_open k3]; simpa using k7 j v hj

theorem load_ok {m : Lk} {t : Ty} {a : AV} {K : AV → Option R} {r : R} (h : loadK m t a K = some r) :
    ∃ v, K v = some r ∧ ∀ {M : Ms} {L : Lk} {w : World} {val : Value} {tid : TypeId}, Msk m L → WInv M L w → AVR M L w a val → Lay P t (.inl tid) = true →
      ∃ val', (Instr.loadAt tid val).run P w = .ok val' w ∧ AVR M L w v val' := by
  cases a with
  | ptr id ver p s =>
    simp only [loadK] at h
    split at h
    · rename_i e
      subst e
      obtain ⟨hv, h⟩ := beq_case h
      cases hc : (m id).2 with
      | box bt c =>
        rw [hc] at h
        simp only at h
        obtain ⟨v, hk, hh⟩ := getAV_ok h
        refine ⟨v, hk, ?_⟩
        rintro M L w val tid hm hw ⟨cs0, ⟨k1, k2, k3⟩, rfl⟩ hl
        have hL := hm.eq (i := id) (by rw [hc]; simp)
        have hb := hw.blk id
        rw [← hL, hc] at hb k3
        obtain ⟨b, o, d, hι, ho, rfl⟩ := k3 hv.symm
        obtain ⟨h0, hκ, kw, cur, el, cs, hop, hav, hcur, hcells⟩ := box_cells hb hι
        obtain ⟨hf, pre, mid, post, rfl, hpl, hmid⟩ := hh hav h0 ho
        have hr := run_loadVar (P := P) hl (CellsAt.mid hcells) (fits_length hf hmid)
        refine ⟨toV s.isAgg mid, ?_, avr_fits hf hmid⟩
        rw [← hpl]
        simp only [aggAV, toV, Instr.loadAt, Sem.run_bind]
        exact hr
      | rowb e xs =>
        rw [hc] at h
        cases p with
        | nil => simp at h
        | cons q p =>
          cases q with
          | fld i => simp at h
          | idx i =>
            simp only [bnd, Option.bind_eq_some_iff] at h
            obtain ⟨x, hx, h⟩ := h
            obtain ⟨s', y, hk, hh⟩ := getVal_ok h
            refine ⟨_, hk, ?_⟩
            rintro M L w val tid hm hw ⟨cs0, ⟨k1, k2, k3⟩, rfl⟩ hl
            have hL := hm.eq (i := id) (by rw [hc]; simp)
            have hb := hw.blk id
            rw [← hL, hc] at hb k3
            obtain ⟨b, cap, i', q', d, hι, hp, hi, ho, rfl⟩ := k3 hv.symm
            simp only [List.cons.injEq, PE.idx.injEq] at hp
            obtain ⟨rfl, rfl⟩ := hp
            obtain ⟨h0, hκ, kw, cur, el, cs, hop, hsz, hcap, hrep, hcur, hcells⟩ := row_cells hb hι
            obtain ⟨pre, c, post, rfl, hpl, hrc, _, _⟩ := RepAll.split (fun x c h => Rep.length h) hrep hx
            obtain ⟨rfl, pre', mid, post', rfl, hpl', hmid⟩ := hh hrc ho
            have hc2 := CellsAt.mid (CellsAt.mid hcells)
            have hr := run_loadVar (P := P) hl hc2 (Rep.length hmid)
            refine ⟨toV s.isAgg mid, ?_, avr_val hmid⟩
            rw [hpl, hpl', Nat.zero_add] at hr
            simp only [aggAV, toV, Instr.loadAt, Sem.run_bind]
            exact hr
      | _ => rw [hc] at h; simp at h
    · simp at h
  | rptr s x =>
    simp only [loadK] at h
    split at h
    · rename_i e
      subst e
      refine ⟨_, h, ?_⟩
      rintro M L w val tid hm hw ⟨cs0, ⟨b, o, c, rfl, hf, hcells, hrep⟩, rfl⟩ hl
      have hr := run_loadVar (P := P) hl hcells (Rep.length hrep)
      refine ⟨toV s.isAgg c, ?_, avr_val hrep⟩
      simp only [aggAV, toV, Instr.loadAt, Sem.run_bind]
      exact hr
    · simp at h
  | _ => simp [loadK] at h
end
end Go.Vi

set_option autoImplicit false
set_option linter.unusedVariables false
set_option linter.unusedSimpArgs false
namespace Go.Vi
open Go

/-! ## Stores -/
def seg (cur : Array Value) (s : Nat) (new : List Value) : Array Value := (cur.toList.take s ++ new ++ cur.toList.drop (s + new.length)).toArray
theorem seg_nil (cur : Array Value) (s : Nat) : seg cur s [] = cur := by
  unfold seg
  simp only [List.append_nil, List.length_nil, Nat.add_zero, List.take_append_drop, Array.toArray_toList]
theorem seg_size {cur : Array Value} {s : Nat} {new : List Value} (h : s + new.length ≤ cur.size ∨ new = []) : (seg cur s new).size = cur.size := by
  rcases h with h | h
  · simp [seg]; omega
  · rw [h, seg_nil]
theorem seg_get {cur : Array Value} {s : Nat} {new : List Value} (h : s + new.length ≤ cur.size ∨ new = []) (k : Nat) :
    (seg cur s new)[k]? = if s ≤ k ∧ k < s + new.length then new[k - s]? else cur[k]? := by
  rcases h with h | h
  · unfold seg
    simp only [List.getElem?_toArray]
    have hs : s ≤ cur.toList.length := by simp; omega
    by_cases h1 : k < s
    · rw [if_neg (by omega), List.append_assoc, List.getElem?_append_left (by simp; omega), List.getElem?_take, if_pos h1]
      simp
    · by_cases h2 : k < s + new.length
      · rw [if_pos ⟨by omega, h2⟩, List.append_assoc, List.getElem?_append_right (by simp; omega), List.getElem?_append_left (by simp; omega)]
        congr 1
        simp; omega
      · rw [if_neg (by omega), List.getElem?_append_right (by simp; omega), List.getElem?_drop]
        simp only [List.length_append, List.length_take]
        rw [Nat.min_eq_left hs, show s + new.length + (k - (s + new.length)) = k by omega]
        simp
  · subst h
    rw [seg_nil, if_neg (by simp)]
theorem seg_set {cur : Array Value} {o : Nat} {pre mid new post : List Value} (h : ∀ (j : Nat) (v : Value), (pre ++ mid ++ post)[j]? = some v → cur[o + j]? = some v) (hl : new.length = mid.length)
    (hb : o + pre.length + new.length ≤ cur.size ∨ new = []) : ∀ (j : Nat) (v : Value), (pre ++ new ++ post)[j]? = some v → (seg cur (o + pre.length) new)[o + j]? = some v := by
  intro j v hj
  rw [seg_get hb]
  by_cases h1 : j < pre.length
  · rw [if_neg (by omega)]
    apply h
    rw [List.append_assoc, List.getElem?_append_left h1] at hj ⊢
    exact hj
  · by_cases h2 : j < pre.length + new.length
    · rw [if_pos ⟨by omega, by omega⟩, show o + j - (o + pre.length) = j - pre.length by omega]
      rw [List.append_assoc, List.getElem?_append_right (by omega), List.getElem?_append_left (by omega)] at hj
      exact hj
    · rw [if_neg (by omega)]
      apply h
      rw [List.getElem?_append_right (by simp; omega)] at hj ⊢
      simp only [List.length_append] at hj ⊢
      rw [← hl]
      exact hj
theorem in_block {cur : Array Value} {o : Nat} {cs : List Value} (h : ∀ (j : Nat) (v : Value), cs[j]? = some v → cur[o + j]? = some v) : o + cs.length ≤ cur.size ∨ cs = [] := by
  cases hc : cs.length with
  | zero => exact .inr (List.eq_nil_of_length_eq_zero hc)
  | succ n =>
    left
    have hn : n < cs.length := by omega
    have := h n cs[n] (List.getElem?_eq_getElem hn)
    have := (Array.getElem?_eq_some_iff.1 this).1
    omega
theorem open_seg {w : World} {b : Nat} {cur : Array Value} {el : TypeId} (h : Open w b cur el) {s : Nat} {new : List Value} (hb : s + new.length ≤ cur.size ∨ new = []) : Open (w.setRow b (seg cur s new)) b (seg cur s new) el := by
  obtain ⟨fr, h1, h2⟩ := h
  exact ⟨fr, setRow_heap w b cur _ el fr h1, by rw [seg_size hb]; exact h2⟩
theorem run_storeVar {P : Program} {w : World} {ty : Ty} {t : TypeId} (hl : Lay P ty (.inl t) = true) {b s : Nat} {cur : Array Value} {el : TypeId} (ho : Open w b cur el) {v : Value} {new : List Value} (hv : v.cells.toList = new)
    (hn : new.length = ty.size) (h1 : ∀ v ∈ new, v.oneCell' = true) (hb : s + new.length ≤ cur.size ∨ new = []) : (storeVar t ⟨b, s, none⟩ v).run P w = .ok () (w.setRow b (seg cur s new)) := by
  obtain ⟨i, z, hi, hsz, _⟩ := lay_info hl
  obtain ⟨fr, k1, k2⟩ := ho
  have hvs : v.cells.size = i.size := by rw [hsz, ← hn, ← hv]; simp
  simp only [storeVar, Sem.run_bind, sizeOf, typeInfo, run_program, Result.andThen_ok, hi, Sem.run_pure, hvs, ne_eq, not_true_eq_false, if_false, hv]
  rcases hb with hb | hb
  · have := run_storeCells_open P b s el fr new 0 cur w k1 k2 (by simpa using hb) h1
    rw [this]; rfl
  · subst hb
    rw [seg_nil, setRow_self w b cur el fr k1]
    rfl

section
variable {R : Type} {P : Program}
theorem store_ok {m : Lk} {t : Ty} {a v : AV} {K : Mem → Option R} {r : R} (h : storeK m t a v K = some r) :
    ∃ u, K u = some r ∧ ∀ {M : Ms} {L : Lk} {w : World} {aval val : Value} {tid : TypeId}, Msk m L → WInv M L w → AVR M L w a aval → AVR M L w v val → Lay P t (.inl tid) = true → (fsts u).Nodup →
      ∃ M' w', (Instr.storeAt tid aval val).run P w = .ok () w' ∧ Later M M' L (updL L u) w w' ∧ WInv M' (updL L u) w' := by
  cases a with
  | ptr id ver p s =>
    simp only [storeK] at h
    split at h
    · rename_i e
      subst e
      cases hfit : fits v s
      · rw [hfit] at h; simp at h
      rw [hfit] at h
      simp only [cond_true] at h
      obtain ⟨hv, h⟩ := beq_case h
      cases hc : (m id).2 with
      | box bt c =>
        rw [hc] at h
        simp only at h
        obtain ⟨c', hk, hh⟩ := setAV_ok h
        refine ⟨_, hk, ?_⟩
        rintro M L w aval val tid hm hw ⟨cs0, ⟨k1, k2, k3⟩, rfl⟩ hval hl hnd
        have hL := hm.eq (i := id) (by rw [hc]; simp)
        have hLi : L id = (ver, .box bt c) := by rw [← hL]; exact Prod.ext hv hc
        have hb := hw.blk id
        rw [← hL, hc] at hb k3
        obtain ⟨b, o, d, hι, ho, rfl⟩ := k3 hv.symm
        obtain ⟨h0, hκ, kw, cur, el, cs, hop, hav, hcur, hcells⟩ := box_cells hb hι
        obtain ⟨new, hnew, hvt, hnl, hvc⟩ := fits_avr hfit hval
        obtain ⟨hf, pre, mid, post, rfl, hpl, hml, hn⟩ := hh hav h0 ho hfit
        have hin := in_block hcur
        have hbound : o + d + new.length ≤ cur.size ∨ new = [] := by
          rcases hin with hin | hin
          · left; simp at hin; omega
          · right; simp at hin; apply List.eq_nil_of_length_eq_zero; rw [hnl, ← hml, hin.2.1]; rfl
        have hr := run_storeVar (P := P) hl (s := o + d) hop hvc hnl hnew.one hbound
        obtain ⟨fr, ho1, ho2⟩ := hop
        have hbd := offT_bound ho
        obtain ⟨hlat, hwin⟩ := mod_step hw hκ (e := (ver, .box bt c')) (.inr (by rw [hLi]; exact ⟨rfl, rfl⟩)) (cur' := seg cur (o + d) new) ho1 (seg_size hbound) (lo := o) (hi := o + bt.size)
          (fun j hj => by rw [seg_get hbound, if_neg (by omega)]) kw
        refine ⟨M, _, by simp only [aggAV, toV, Instr.storeAt, Sem.run_bind]; exact hr, hlat, hwin ?_⟩
        refine ⟨hf, b, o, _, el, hι, hκ, kw, open_seg ⟨fr, ho1, ho2⟩ hbound, _, hn (fun hx => hlat.rep hx) (fun hx => hlat.avc hx) (hlat.avc hnew), ?_⟩
        subst hpl
        exact seg_set hcur (by omega) hbound
      | rowb e xs =>
        rw [hc] at h
        cases p with
        | nil => simp at h
        | cons q p =>
          cases q with
          | fld i => simp at h
          | idx i =>
            simp only [bnd, Option.bind_eq_some_iff] at h
            obtain ⟨x, hx, h⟩ := h
            obtain ⟨y, ids, h, hids, _, hrep⟩ := valK_ok h
            obtain ⟨z, hk, hh⟩ := setVal_ok h
            refine ⟨_, hk, ?_⟩
            rintro M L w aval val tid hm hw ⟨cs0, ⟨k1, k2, k3⟩, rfl⟩ hval hl hnd
            simp only [fsts, List.nodup_cons] at hnd
            have hL := hm.eq (i := id) (by rw [hc]; simp)
            have hLi : L id = (ver, .rowb e xs) := by rw [← hL]; exact Prod.ext hv hc
            rw [← hL, hc] at k3
            obtain ⟨b, cap, i', q', d, hι, hp, hi, ho, rfl⟩ := k3 hv.symm
            simp only [List.cons.injEq, PE.idx.injEq] at hp
            obtain ⟨rfl, rfl⟩ := hp
            obtain ⟨Mf, lf, wf, eι, ff⟩ := freeze_step hw (froz_of hm (dedup ids)) hnd.2
            have hLf : updL L (storeK.froz m (dedup ids)) id = (ver, .rowb e xs) := by rw [updL_not hnd.1, hLi]
            have hb := wf.blk id
            rw [hLf] at hb
            rw [← eι] at hι
            obtain ⟨h0, hκ, kw, cur, el, cs, hop, hsz, hcap, hra, hcur, hcells⟩ := row_cells hb hι
            obtain ⟨new, hnew, hvt, hnl, hvc⟩ := fits_avr hfit hval
            have hy : Rep (Fre Mf w) w s y new := hrep hm hw hnew (fun b hb => (lf.fre b hb).1) fun j hj b cap hjb =>
              ff j (froz_has (mem_dedup.2 hj) (hids j hj)) b cap hjb
            obtain ⟨pre, c, post, rfl, hpl, hrc, htk, hdr⟩ := RepAll.split (fun x c h => Rep.length h) hra hx
            obtain ⟨_, pre', mid, post', rfl, hpl', hml, hn⟩ := hh hrc ho
            have e1 : pre ++ (pre' ++ mid ++ post') ++ post = (pre ++ pre') ++ mid ++ (post' ++ post) := by simp
            rw [e1] at hcur hcells hra
            have hppl : (pre ++ pre').length = i * e.size + d := by simp [hpl, hpl']
            have hin := in_block (o := 0) (by simpa using hcur)
            have hbound : i * e.size + d + new.length ≤ cur.size ∨ new = [] := by
              rcases hin with hin | hin
              · left; simp at hin; omega
              · right; simp at hin; apply List.eq_nil_of_length_eq_zero; rw [hnl, ← hml, hin.2.2.1]; rfl
            have hr := run_storeVar (P := P) hl (s := i * e.size + d) hop hvc hnl hnew.one hbound
            obtain ⟨fr, ho1, ho2⟩ := hop
            obtain ⟨hlat, hwin⟩ := mod_step wf hκ (e := (ver, .rowb e (xs.set i z))) (.inr (by rw [hLf]; exact ⟨rfl, rfl, by simp⟩)) (cur' := seg cur (i * e.size + d) new) ho1 (seg_size hbound) (lo := 0) (hi := cap * e.size)
              (fun j hj => by
                rw [seg_get hbound]
                split
                · rename_i hjj
                  rcases hbound with hbound | hbound
                  · omega
                  · subst hbound; simp at hjj; omega
                · rfl) kw
            rw [updL_cons hnd.1]
            refine ⟨Mf, _, by simp only [aggAV, toV, Instr.storeAt, Sem.run_bind]; exact hr, lf.trans hlat, hwin ?_⟩
            refine ⟨h0, .inr ⟨b, cap, _, el, hι, hκ, kw, open_seg ⟨fr, ho1, ho2⟩ hbound, by rw [seg_size hbound, hsz], by simpa using hcap, pre ++ (pre' ++ new ++ post') ++ post, ?_, ?_⟩⟩
            · have hii : i < xs.length := hi
              rw [List.set_eq_take_append_cons_drop, if_pos hii, List.append_assoc]
              exact (htk.mono fun x c h => hlat.rep h).append ⟨_, _, rfl, hn (fun hx => hlat.rep hx) (hlat.rep hy), hdr.mono fun x c h => hlat.rep h⟩
            · have := seg_set (o := 0) (pre := pre ++ pre') (mid := mid) (new := new) (post := post' ++ post) (cur := cur) (by simpa using hcur) (by omega) (by simpa [hppl] using hbound)
              intro j v hj
              have := this j v (by simpa using hj)
              rw [hppl] at this
              simpa using this
      | _ => rw [hc] at h; simp at h
    · simp at h
  | _ => simp [storeK] at h
end
end Go.Vi

set_option autoImplicit false
set_option linter.unusedVariables false
set_option linter.unusedSimpArgs false
namespace Go.Vi
open Go

/-! ## A program's tables of types -/
def tiOk (P : Program) (t : TypeId) (ti : TI) : Bool :=
  Lay P ti.ty (.inl t) && (!eqvOk ti.ty || (EqT P ti.ty (.inl t) && decide (ti.ty.deep ≤ Op.maxDepth) && (!ti.ty.isAgg || !P.eqGuardType P.depth t))) &&
  (match ti.ty with
  | .list _ => (match P.underlying t with
    | some (.slice e') => decide (e' = ti.elem ∧ 0 < ti.eb) && (match P.info? e' with | some i => decide (i.bytes = ti.eb) | none => false)
    | _ => false)
  | _ => true)
def ttOk (P : Program) : TTab → Bool
  | [] => true
  | (i, e) :: m => tiOk P i e && ttOk P m
section
variable {R : Type} {P : Program}
theorem ttOk_look {TT : TTab} {t : Nat} {ti : TI} (h : ttOk P TT = true) (hl : tyLook TT t = some ti) : tiOk P t ti = true := by
  induction TT with
  | nil => simp [tyLook] at hl
  | cons p TT ih =>
    obtain ⟨i, e⟩ := p
    simp only [ttOk, Bool.and_eq_true] at h
    simp only [tyLook] at hl
    cases hb : Nat.beq i t
    · rw [hb] at hl; exact ih h.2 hl
    · rw [hb] at hl
      simp only [cond_true, Option.some.injEq] at hl
      subst hl
      have := Nat.eq_of_beq_eq_true hb
      subst this
      exact h.1
theorem tiOk_lay {t : Nat} {ti : TI} (h : tiOk P t ti = true) : Lay P ti.ty (.inl t) = true := by
  simp only [tiOk, Bool.and_eq_true] at h; exact h.1.1
theorem tiOk_eq {t : Nat} {ti : TI} (h : tiOk P t ti = true) (he : eqvOk ti.ty = true) : EqT P ti.ty (.inl t) = true ∧ ti.ty.deep ≤ Op.maxDepth ∧ (ti.ty.isAgg = true → P.eqGuardType P.depth t = false) := by
  simp only [tiOk, Bool.and_eq_true, he, Bool.not_true, Bool.false_or, decide_eq_true_eq] at h
  refine ⟨h.1.2.1.1, h.1.2.1.2, fun ha => ?_⟩
  have := h.1.2.2
  rw [ha] at this
  simpa using this
theorem tiOk_list {t : Nat} {e : Ty} {eb : Nat} {el : TypeId} (h : tiOk P t ⟨.list e, eb, el⟩ = true) :
    P.underlying t = some (.slice el) ∧ Lay P e (.inl el) = true ∧ 0 < e.size ∧ 0 < eb ∧ ∃ i z, P.info? el = some i ∧ i.bytes = eb ∧ i.size = e.size ∧ i.zero = some z ∧ z.cells.toList = zc e := by
  have hl := tiOk_lay h
  simp only [tiOk, Bool.and_eq_true] at h
  have h2 := h.2
  simp only [Lay, Bool.and_eq_true] at hl
  split at h2
  · rename_i e' hu
    rw [hu] at hl
    simp only [Bool.and_eq_true, decide_eq_true_eq] at h2 hl
    obtain ⟨⟨rfl, h0⟩, h2⟩ := h2
    split at h2
    · rename_i i hi
      simp only [decide_eq_true_eq] at h2
      obtain ⟨i', z, hi', hs, hz, hc⟩ := lay_info hl.2.2
      rw [hi] at hi'
      simp only [Option.some.injEq] at hi'
      subst hi'
      exact ⟨hu, hl.2.2, hl.2.1, h0, i, z, hi, h2, hs, hz, hc⟩
    · simp at h2
  · simp at h2
theorem lay_slice {e : Ty} {t : TypeId} (h : Lay P (.list e) (.inl t) = true) : ∃ el, P.underlying t = some (.slice el) ∧ 0 < e.size ∧ Lay P e (.inl el) = true := by
  simp only [Lay, Bool.and_eq_true] at h
  obtain ⟨_, h⟩ := h
  split at h
  · rename_i e' hu
    simp only [Bool.and_eq_true, decide_eq_true_eq] at h
    exact ⟨e', hu, h.1, h.2⟩
  · simp at h
theorem lay_array {n : Nat} {e : Ty} {t : TypeId} (h : Lay P (.arr n e) (.inl t) = true) : ∃ el, P.underlying t = some (.array n el) ∧ 0 < e.size ∧ Lay P e (.inl el) = true := by
  simp only [Lay, Bool.and_eq_true] at h
  obtain ⟨_, h⟩ := h
  split at h
  · rename_i n' e' hu
    simp only [Bool.and_eq_true, decide_eq_true_eq] at h
    obtain ⟨⟨rfl, h1⟩, h2⟩ := h
    exact ⟨e', hu, h1, h2⟩
  · simp at h
theorem lay_string {t : TypeId} (h : Lay P .str (.inl t) = true) : P.underlying t = some .string := by
  simp only [Lay, Bool.and_eq_true] at h
  obtain ⟨_, h⟩ := h
  split at h
  · assumption
  · simp at h
theorem run_sizeOf {ty : Ty} {t : TypeId} (h : Lay P ty (.inl t) = true) (w : World) : (sizeOf t).run P w = .ok ty.size w := by
  obtain ⟨i, z, hi, hs, _⟩ := lay_info h
  simp only [sizeOf, typeInfo, Sem.run_bind, run_program, Result.andThen_ok, hi, Sem.run_pure, hs]

/-! ## Operations that change nothing -/
theorem unK_ok {op : UnOp} {x : AV} {K : AV → Option R} {r : R} (h : unK op x K = some r) :
    ∃ v, K v = some r ∧ ∀ {M : Ms} {L : Lk} {w : World} {val : Value}, AVR M L w x val → ∃ val', (Op.unary op val).run P w = .ok val' w ∧ AVR M L w v val' := by
  unfold unK at h
  split at h
  · rename_i k n
    exact ⟨_, h, fun hx => by rw [avr_int.1 hx]; exact ⟨.int k (k.wrap (0 - n)), by simp [Op.unary, Op.intArith], avr_int.2 rfl⟩⟩
  · rename_i k n
    exact ⟨_, h, fun hx => by rw [avr_int.1 hx]; exact ⟨.int k (ibits .xor k (if k.signed then -1 else k.max) n), by simp [Op.unary, Op.intBits, ibits], avr_int.2 rfl⟩⟩
  · rename_i b
    exact ⟨_, h, fun hx => by rw [avr_bool.1 hx]; exact ⟨.bool (!b), by simp [Op.unary], avr_bool.2 rfl⟩⟩
  · simp at h

theorem eqGuard_of_plain {op : BinOp} {t : TypeId} {ox oy : Operand} {a b : Value} (h1 : ∀ cs, a ≠ .agg cs) (h2 : a ≠ .nilIface) (w : World) : (eqGuard op t ox oy a b).run P w = .ok () w := by
  have : eqGuard op t ox oy a b = pure () := by
    cases op <;> try rfl
    all_goals (cases a <;> first | rfl | (exact absurd rfl (h1 _)) | (exact absurd rfl h2))
  rw [this]; rfl
theorem eqGuard_of_agg {op : BinOp} {t : TypeId} {ox oy : Operand} {cs ds : Array Value} (h : P.eqGuardType P.depth t = false) (w : World) : (eqGuard op t ox oy (.agg cs) (.agg ds)).run P w = .ok () w := by
  cases op <;> try rfl
  all_goals simp [eqGuard, h]

theorem run_eq_ok {TT : TTab} {m L : Lk} {M : Ms} {w : World} {t : Nat} {ti : TI} {x y : AV} {a b : Value} {op : BinOp} {ox oy : Operand} (htt : tiOk P t ti = true) (he : eqvOk ti.ty = true)
    {u v : ti.ty.den} {cs ds : List Value} (ha : a = toV ti.ty.isAgg cs) (hb : b = toV ti.ty.isAgg ds) {A : Nat → Prop} (hx : Rep A w ti.ty u cs) (hy : Rep A w ti.ty v ds) :
    (eqGuard op t ox oy a b).run P w = .ok () w ∧ (binOp .eql t a b).run P w = .ok (.bool (eqv ti.ty u v)) w ∧ (binOp .neq t a b).run P w = .ok (.bool (!eqv ti.ty u v)) w := by
  obtain ⟨h1, h2, h3⟩ := tiOk_eq htt he
  have hl := tiOk_lay htt
  have key := (run_eqFields_ok (P := P) (A := A) (A' := A) (w := w) (w' := w) (ty := ti.ty) (d := Op.maxDepth) (s := .inl t) (x := u) (y := v)).1 t rfl hl h1 he h2 hx hy w
  rw [← ha, ← hb] at key
  obtain ⟨ty, eb, el⟩ := ti
  simp only at *
  cases ty with
  | int k =>
    simp only [Rep] at hx hy
    subst hx hy
    simp only [toV, Ty.isAgg, Bool.false_eq_true, if_false, List.getD_cons_zero] at ha hb
    subst ha hb
    exact ⟨eqGuard_of_plain (by simp) (by simp) w, by simp [binOp, Op.intCmp, eqv, ibeq], by simp [binOp, Op.intCmp, eqv, ibne]⟩
  | bool =>
    simp only [Rep] at hx hy
    subst hx hy
    simp only [toV, Ty.isAgg, Bool.false_eq_true, if_false, List.getD_cons_zero] at ha hb
    subst ha hb
    exact ⟨eqGuard_of_plain (by simp) (by simp) w, by simp [binOp, Op.equal, key], by simp [binOp, Op.equal, key]⟩
  | str =>
    simp only [Rep] at hx hy
    subst hx hy
    simp only [toV, Ty.isAgg, Bool.false_eq_true, if_false, List.getD_cons_zero] at ha hb
    subst ha hb
    have hq : ∀ (a b : List UInt8), (a == b) = decide (a = b) := fun a b => by rw [Bool.eq_iff_iff]; simp
    exact ⟨eqGuard_of_plain (by simp [sv]) (by simp [sv]) w, by simp [binOp, sv, Op.stringOp, toList_mk, eqv, hq], by simp [binOp, sv, Op.stringOp, toList_mk, eqv, hq]⟩
  | unit =>
    simp only [toV, Ty.isAgg, if_true] at ha hb
    subst ha hb
    exact ⟨eqGuard_of_agg (h3 rfl) w, by simp [binOp, Op.equal, key], by simp [binOp, Op.equal, key]⟩
  | pair p q =>
    simp only [toV, Ty.isAgg, if_true] at ha hb
    subst ha hb
    exact ⟨eqGuard_of_agg (h3 rfl) w, by simp [binOp, Op.equal, key], by simp [binOp, Op.equal, key]⟩
  | _ => simp [eqvOk] at he

theorem err_ok {TT : TTab} {t : TypeId} {c : Bool} {a b : Value} {ox oy : Operand} {M : Ms} {L : Lk} {w : World} (htt : ttOk P TT = true) (hi : isErrT (tyLook TT t) = true)
    (hx : AVR M L w (.val .err c) a) (hy : AVR M L w (.val .err false) b) (ho : errFit (.val .err c) oy = true) (w1 : World) :
    (∀ op, (eqGuard op t ox oy a b).run P w1 = .ok () w1) ∧ (binOp .eql t a b).run P w1 = .ok (.bool (!c)) w1 ∧ (binOp .neq t a b).run P w1 = .ok (.bool c) w1 := by
  have hu : ∃ ms, P.underlying t = some (.interface ms) := by
    cases ht : tyLook TT t with
    | none => rw [ht] at hi; simp [isErrT] at hi
    | some ti =>
      obtain ⟨ty, eb, el⟩ := ti
      have hl := tiOk_lay (ttOk_look htt ht)
      rw [ht] at hi
      cases ty <;> simp [isErrT] at hi
      simp only [Lay, Bool.and_eq_true] at hl
      obtain ⟨_, hl⟩ := hl
      split at hl
      · rename_i ms hu; exact ⟨ms, hu⟩
      · simp at hl
  obtain ⟨ms, hu⟩ := hu
  have hb : b = .nilIface := by
    rcases avr_err.1 hy with h | h
    · exact h.2
    · simp at h
  subst hb
  have hoc : ∃ v, oy = .const v := by cases oy <;> simp [errFit] at ho; exact ⟨_, rfl⟩
  obtain ⟨v, rfl⟩ := hoc
  have q1 : (Op.equal t .nilIface .nilIface).run P w1 = .ok true w1 := by
    have g : ∀ n, (Op.equalIn (n + 1) t .nilIface .nilIface).run P w1 = .ok true w1 := fun n => by
      simp only [Op.equalIn, Sem.run_bind, run_underlying hu, Result.andThen_ok, Sem.run_pure]
    exact g 9999
  have q2 : ∀ t' u, (Op.equal t (.iface t' u) .nilIface).run P w1 = .ok false w1 := by
    intro t' u
    have g : ∀ n, (Op.equalIn (n + 1) t (.iface t' u) .nilIface).run P w1 = .ok false w1 := fun n => by
      simp only [Op.equalIn, Sem.run_bind, run_underlying hu, Result.andThen_ok, Sem.run_pure]
    exact g 9999
  rcases avr_err.1 hx with ⟨rfl, rfl⟩ | ⟨rfl, t', u, rfl⟩
  · refine ⟨fun op => by cases op <;> cases ox <;> rfl, ?_, ?_⟩ <;> simp only [binOp, Sem.run_bind, q1, Result.andThen_ok, Sem.run_pure] <;> rfl
  · refine ⟨fun op => by cases op <;> rfl, ?_, ?_⟩ <;> simp only [binOp, Sem.run_bind, q2, Result.andThen_ok, Sem.run_pure] <;> rfl
theorem binK_ok {TT : TTab} {m : Lk} {op : BinOp} {t : TypeId} {x y : AV} {K : AV → Option R} {r : R} (htt : ttOk P TT = true) (h : binK TT m op t x y K = some r) :
    ∃ v, K v = some r ∧ ∀ {M : Ms} {L : Lk} {w : World} {a b : Value} {ox oy : Operand}, Msk m L → WInv M L w → AVR M L w x a → AVR M L w y b → errFit x oy = true →
      ∃ val, (eqGuard op t ox oy a b).run P w = .ok () w ∧ (binOp op t a b).run P w = .ok val w ∧ AVR M L w v val := by
  have gen : ∀ (neg : Bool) (ti : TI), tyLook TT t = some ti → eqvOk ti.ty = true → (valK m ti.ty x fun a _ => valK m ti.ty y fun b _ => K (.val .bool (if neg then !eqv ti.ty a b else eqv ti.ty a b))) = some r →
      ∃ v, K v = some r ∧ ∀ {M : Ms} {L : Lk} {w : World} {a b : Value} {ox oy : Operand}, Msk m L → WInv M L w → AVR M L w x a → AVR M L w y b →
      ∃ val, (eqGuard op t ox oy a b).run P w = .ok () w ∧ (binOp (if neg then .neq else .eql) t a b).run P w = .ok val w ∧ AVR M L w v val := by
    intro neg ti hti he h
    obtain ⟨u, i, h1, _, f1, r1⟩ := valK_ok h
    obtain ⟨v, j, h2, _, f2, r2⟩ := valK_ok h1
    refine ⟨_, h2, ?_⟩
    intro M L w a b ox oy hm hw hx hy
    obtain ⟨cs, hc1, ha, _⟩ := fits_avr f1 hx
    obtain ⟨ds, hc2, hb, _⟩ := fits_avr f2 hy
    have e := run_eq_ok (P := P) (TT := TT) (m := m) (L := L) (M := M) (x := x) (y := y) (op := op) (ox := ox) (oy := oy) (A := fun _ => True) (ttOk_look htt hti) he ha hb
      (r1 hm hw hc1 (fun _ _ => trivial) fun _ _ _ _ _ => trivial) (r2 hm hw hc2 (fun _ _ => trivial) fun _ _ _ _ _ => trivial)
    cases neg
    · exact ⟨_, e.1, e.2.1, avr_bool.2 rfl⟩
    · exact ⟨_, e.1, e.2.2, avr_bool.2 rfl⟩
  unfold binK at h
  split at h
  · rename_i k a k' b
    obtain ⟨v, hk, hv⟩ := shift_ok (op := .shl) (k' := k') P t (.inl ⟨rfl, h⟩)
    refine ⟨v, hk, ?_⟩
    intro M L w a' b' ox oy hm hw hx hy _
    rw [avr_int.1 hx, avr_int.1 hy]
    obtain ⟨val, h1, h2⟩ := hv w
    exact ⟨val, rfl, h1, h2 M L⟩
  · rename_i k a k' b
    obtain ⟨v, hk, hv⟩ := shift_ok (op := .shr) (k' := k') P t (.inr ⟨rfl, h⟩)
    refine ⟨v, hk, ?_⟩
    intro M L w a' b' ox oy hm hw hx hy _
    rw [avr_int.1 hx, avr_int.1 hy]
    obtain ⟨val, h1, h2⟩ := hv w
    exact ⟨val, rfl, h1, h2 M L⟩
  · rename_i k a k' b _ _
    split at h
    · rename_i e
      subst e
      obtain ⟨v, hk, hv⟩ := intBin_ok h P t
      refine ⟨v, hk, ?_⟩
      intro M L w a' b' ox oy hm hw hx hy _
      rw [avr_int.1 hx, avr_int.1 hy]
      obtain ⟨val, h1, h2⟩ := hv w
      exact ⟨val, eqGuard_of_plain (by simp) (by simp) w, h1, h2 M L⟩
    · simp at h
  · rename_i a b
    obtain ⟨v, hk, hv⟩ := strBin_ok h P t
    refine ⟨v, hk, ?_⟩
    intro M L w a' b' ox oy hm hw hx hy _
    rw [avr_str.1 hx, avr_str.1 hy]
    obtain ⟨val, h1, h2⟩ := hv w
    exact ⟨val, eqGuard_of_plain (by simp [sv]) (by simp [sv]) w, h1, h2 M L⟩
  · rename_i b
    cases hi : isErrT (tyLook TT t)
    · rw [hi] at h; simp at h
    · rw [hi] at h
      simp only [cond_true] at h
      refine ⟨_, h, ?_⟩
      intro M L w a' b' ox oy hm hw hx hy ho
      have e := err_ok (P := P) (ox := ox) (oy := oy) htt hi hx hy ho w
      exact ⟨_, e.1 _, e.2.1, avr_bool.2 rfl⟩
  · rename_i b
    cases hi : isErrT (tyLook TT t)
    · rw [hi] at h; simp at h
    · rw [hi] at h
      simp only [cond_true] at h
      refine ⟨_, h, ?_⟩
      intro M L w a' b' ox oy hm hw hx hy ho
      have e := err_ok (P := P) (ox := ox) (oy := oy) htt hi hx hy ho w
      exact ⟨_, e.1 _, e.2.2, avr_bool.2 rfl⟩
  · split at h
    · rename_i ti hti
      cases he : eqvOk ti.ty
      · rw [he] at h; simp at h
      · rw [he] at h
        simp only [cond_true] at h
        obtain ⟨v, hk, hv⟩ := gen false ti hti he h
        exact ⟨v, hk, fun hm hw hx hy _ => hv hm hw hx hy⟩
    · simp at h
  · split at h
    · rename_i ti hti
      cases he : eqvOk ti.ty
      · rw [he] at h; simp at h
      · rw [he] at h
        simp only [cond_true] at h
        obtain ⟨v, hk, hv⟩ := gen true ti hti he h
        exact ⟨v, hk, fun hm hw hx hy _ => hv hm hw hx hy⟩
    · simp at h
  · simp at h
end
end Go.Vi

set_option autoImplicit false
set_option linter.unusedVariables false
set_option linter.unusedSimpArgs false
namespace Go.Vi
open Go
section
variable {R : Type} {P : Program}
theorem run_len_of {t : TypeId} {d : TypeDesc} (hu : P.underlying t = some d) {at_ : Array TypeId} {args : Array Value} {x : Value} {ty : TypeId} (h1 : at_[0]? = some t) (h2 : args[0]? = some x) (w : World) :
    (Builtin.len_ at_ ty args).run P w = (Builtin.len_ #[t] ty #[x]).run P w := by
  simp [Builtin.len_, h1, h2]
theorem hdr_is (l : Option (Nat × Nat)) (n : Nat) (h : l = none → n = 0) : ∃ a c, hdr l n = .slice a n c := by
  cases l with
  | none => have := h rfl; subst this; exact ⟨none, 0, rfl⟩
  | some p => exact ⟨_, _, rfl⟩
theorem hdrv_is (l : Option (Nat × Nat)) (s lo hi : Nat) (h : l = none → hi - lo = 0) : ∃ a c, hdrv l s lo hi = .slice a (hi - lo) c := by
  cases l with
  | none => have := h rfl; exact ⟨none, 0, by simp [hdrv, this]⟩
  | some p => exact ⟨_, _, rfl⟩
/-- a row of the state: what its slice looks like -/
theorem row_hdr {M : Ms} {L : Lk} {w : World} {id ver : Nat} {val : Value} (hw : WInv M L w) (hx : AVR M L w (.row id ver) val) (hv : (L id).1 = ver) {t : Ty} {xs : List t.den} (hc : (L id).2 = .rowb t xs ∨ (L id).2 = .ro t xs) :
    val = hdr (M.ι id) xs.length ∧ (M.ι id = none → xs = []) ∧ 0 < t.size ∧ ∀ b cap, M.ι id = some (b, cap) → xs.length ≤ cap ∧ ∃ cs, CellsAt w b 0 cs ∧ RepAll (Rep (Fre M w) w t) xs cs ∧ ((L id).2 = .ro t xs → Fre M w b) := by
  obtain ⟨cs, ⟨k1, k2, k3⟩, rfl⟩ := hx
  have k4 := k3 hv.symm
  have hb := hw.blk id
  have hcs : cs = [hdr (M.ι id) xs.length] := by rcases hc with hc | hc <;> (rw [hc] at k4; exact k4)
  have hb' : BlkC M L w id (.rowb t xs) ∨ BlkC M L w id (.ro t xs) := by rcases hc with hc | hc <;> (rw [hc] at hb); exact .inl hb; exact .inr hb
  obtain ⟨h0, hr⟩ := blk_row hb'
  subst hcs
  refine ⟨rfl, ?_, h0, ?_⟩
  · intro hn
    rcases hr with hr | ⟨b, cap, cs, h1, _⟩
    · exact hr.2
    · rw [hn] at h1; simp at h1
  · intro b cap hι
    rcases hr with hr | ⟨b', cap', cs, h1, h2, h3, h4⟩
    · rw [hr.1] at hι; simp at hι
    · rw [hι] at h1
      simp only [Option.some.injEq, Prod.mk.injEq] at h1
      obtain ⟨rfl, rfl⟩ := h1
      refine ⟨h2, cs, h3, h4, fun hro => ?_⟩
      rw [hro] at hb
      obtain ⟨_, hb⟩ := hb
      rcases hb with hb | ⟨b', cap', k1, k2, _⟩
      · rw [hb.1] at hι; simp at hι
      · rw [hι] at k1
        simp only [Option.some.injEq, Prod.mk.injEq] at k1
        obtain ⟨rfl, rfl⟩ := k1
        exact k2
theorem rowv_hdr {M : Ms} {L : Lk} {w : World} {id ver lo hi : Nat} {val : Value} (hw : WInv M L w) (hx : AVR M L w (.rowv id ver lo hi) val) (hv : (L id).1 = ver) {t : Ty} {xs : List t.den} (hc : (L id).2 = .rowb t xs ∨ (L id).2 = .ro t xs) :
    val = hdrv (M.ι id) t.size lo hi ∧ lo ≤ hi ∧ hi ≤ xs.length ∧ (M.ι id = none → xs = []) ∧ 0 < t.size ∧ ∀ b cap, M.ι id = some (b, cap) → xs.length ≤ cap := by
  obtain ⟨cs, ⟨k1, k2, k3⟩, rfl⟩ := hx
  have k4 := k3 hv.symm
  have hb := hw.blk id
  have hcs : lo ≤ hi ∧ hi ≤ xs.length ∧ cs = [hdrv (M.ι id) t.size lo hi] := by rcases hc with hc | hc <;> (rw [hc] at k4; exact k4)
  have hb' : BlkC M L w id (.rowb t xs) ∨ BlkC M L w id (.ro t xs) := by rcases hc with hc | hc <;> (rw [hc] at hb); exact .inl hb; exact .inr hb
  obtain ⟨h0, hr⟩ := blk_row hb'
  obtain ⟨h1, h2, rfl⟩ := hcs
  refine ⟨rfl, h1, h2, ?_, h0, ?_⟩
  · intro hn
    rcases hr with hr | ⟨b, cap, cs, h1, _⟩
    · exact hr.2
    · rw [hn] at h1; simp at h1
  · intro b cap hι
    rcases hr with hr | ⟨b', cap', cs, h1, h2, h3, h4⟩
    · rw [hr.1] at hι; simp at hι
    · rw [hι] at h1
      simp only [Option.some.injEq, Prod.mk.injEq] at h1
      obtain ⟨rfl, rfl⟩ := h1
      exact h2

theorem lenK_ok {m : Lk} {ty : Ty} {x : AV} {K : AV → Option R} {r : R} (h : lenK m ty x K = some r) :
    ∃ v, K v = some r ∧ ∀ {M : Ms} {L : Lk} {w : World} {t : TypeId} {val : Value} {o : TypeId}, Lay P ty (.inl t) = true → Msk m L → WInv M L w → AVR M L w x val →
      ∃ val', (Builtin.len_ #[t] o #[val]).run P w = .ok val' w ∧ AVR M L w v val' := by
  have sl : ∀ {e : Ty} {t : TypeId} {w : World} {a : Option Addr} {n c : Nat} {o : TypeId}, Lay P (.list e) (.inl t) = true → (Builtin.len_ #[t] o #[.slice a n c]).run P w = .ok (.int .i64 (n : Int)) w := by
    intro e t w a n c o hl
    obtain ⟨el, hu, _⟩ := lay_slice hl
    simp [Builtin.len_, run_underlying hu, goInt]
  unfold lenK at h
  split at h
  · rename_i s
    refine ⟨_, h, ?_⟩
    intro M L w t val o hl hm hw hx
    rw [avr_str.1 hx]
    refine ⟨.int .i64 (s.length : Int), ?_, avr_int.2 rfl⟩
    have := run_len_string (P := P) w t o ⟨⟨s⟩⟩ (lay_string hl)
    rw [sv, this]
    rfl
  · rename_i t s xs
    split at h
    · rename_i e
      subst e
      refine ⟨_, h, ?_⟩
      intro M L w t val o hl hm hw hx
      obtain ⟨cs, ⟨a, c, rfl, _⟩, rfl⟩ := avr_val' hx
      exact ⟨_, sl hl, avr_int.2 rfl⟩
    · simp at h
  · rename_i n e n' e' xs
    cases hn : Nat.beq n n'
    · rw [hn] at h; simp at h
    · rw [hn] at h
      simp only [cond_true] at h
      refine ⟨_, h, ?_⟩
      intro M L w t val o hl hm hw hx
      obtain ⟨el, hu, _⟩ := lay_array hl
      exact ⟨.int .i64 (n : Int), by simp [Builtin.len_, run_underlying hu, goInt], avr_int.2 rfl⟩
  · rename_i t id ver
    replace h := beq_case h
    obtain ⟨hv, h⟩ := h
    split at h
    · rename_i s xs hc
      split at h
      · rename_i e
        subst e
        refine ⟨_, h, ?_⟩
        intro M L w tid val o hl hm hw hx
        have hL := hm.eq (i := id) (by rw [hc]; simp)
        obtain ⟨rfl, hnil, _⟩ := row_hdr hw hx (by rw [← hL]; exact hv) (.inl (by rw [← hL]; exact hc))
        obtain ⟨a, c, e⟩ := hdr_is (M.ι id) xs.length fun hn => by rw [hnil hn]; rfl
        rw [e]
        exact ⟨_, sl hl, avr_int.2 rfl⟩
      · simp at h
    · rename_i s xs hc
      split at h
      · rename_i e
        subst e
        refine ⟨_, h, ?_⟩
        intro M L w tid val o hl hm hw hx
        have hL := hm.eq (i := id) (by rw [hc]; simp)
        obtain ⟨rfl, hnil, _⟩ := row_hdr hw hx (by rw [← hL]; exact hv) (.inr (by rw [← hL]; exact hc))
        obtain ⟨a, c, e⟩ := hdr_is (M.ι id) xs.length fun hn => by rw [hnil hn]; rfl
        rw [e]
        exact ⟨_, sl hl, avr_int.2 rfl⟩
      · simp at h
    · simp at h
  · rename_i t id ver lo hi
    replace h := beq_case h
    obtain ⟨hv, h⟩ := h
    split at h
    · rename_i s xs hc
      split at h
      · rename_i e
        subst e
        refine ⟨_, h, ?_⟩
        intro M L w tid val o hl hm hw hx
        have hL := hm.eq (i := id) (by rw [hc]; simp)
        obtain ⟨rfl, h1, h2, hnil, _⟩ := rowv_hdr hw hx (by rw [← hL]; exact hv) (.inl (by rw [← hL]; exact hc))
        obtain ⟨a, c, e⟩ := hdrv_is (M.ι id) s.size lo hi fun hn => by rw [hnil hn] at h2; simp at h2; omega
        rw [e]
        refine ⟨_, sl hl, avr_int.2 ?_⟩
        have hlen : ((xs.take hi).drop lo).length = hi - lo := by simp; omega
        rw [hlen]
      · simp at h
    · rename_i s xs hc
      split at h
      · rename_i e
        subst e
        refine ⟨_, h, ?_⟩
        intro M L w tid val o hl hm hw hx
        have hL := hm.eq (i := id) (by rw [hc]; simp)
        obtain ⟨rfl, h1, h2, hnil, _⟩ := rowv_hdr hw hx (by rw [← hL]; exact hv) (.inr (by rw [← hL]; exact hc))
        obtain ⟨a, c, e⟩ := hdrv_is (M.ι id) s.size lo hi fun hn => by rw [hnil hn] at h2; simp at h2; omega
        rw [e]
        refine ⟨_, sl hl, avr_int.2 ?_⟩
        have hlen : ((xs.take hi).drop lo).length = hi - lo := by simp; omega
        rw [hlen]
      · simp at h
    · simp at h
  · refine ⟨_, h, ?_⟩
    intro M L w tid val o hl hm hw hx
    rw [avr_nil.1 hx]
    exact ⟨_, sl hl, avr_int.2 rfl⟩
  · simp at h

/-! ## Addresses -/
theorem geti_some {α : Type} {xs : List α} {i : Int} {y : α} (h : geti xs i = some y) : 0 ≤ i ∧ i < (xs.length : Int) ∧ xs[i.toNat]? = some y := by
  unfold geti at h
  split at h
  · rename_i h0
    have : i.toNat < xs.length := by
      rcases Nat.lt_or_ge i.toNat xs.length with h' | h'
      · exact h'
      · rw [List.getElem?_eq_none h'] at h; simp at h
    exact ⟨h0, by omega, h⟩
  · simp at h
theorem live_of {m : Lk} {id ver : Nat} (h : live m id ver = true) : (m id).1 = ver ∧ (m id).2 ≠ .none := by
  simp only [live, Bool.and_eq_true] at h
  refine ⟨Nat.eq_of_beq_eq_true h.1, fun e => ?_⟩
  rw [e] at h
  simp at h
theorem cond_none {b : Bool} {x : Option R} {r : R} (h : cond b x none = some r) : b = true ∧ x = some r := by
  cases b
  · simp at h
  · exact ⟨rfl, h⟩
theorem cnd_none {b : Bool} {x : Option R} {r : R} (h : cnd b x none = some r) : b = true ∧ x = some r := cond_none h
/-- a part of what a pointer leads to has a pointer too -/
theorem ptr_step {M : Ms} {L : Lk} {w : World} {id ver : Nat} {p q : List PE} {s t : Ty} {val : Value} {d : Nat} (hx : AVR M L w (.ptr id ver p s) val) (hv : (L id).1 = ver) (hn : (L id).2 ≠ .none) (ho : offT s q = some (d, t)) :
    ∃ a : Nat × Nat, val = .pointer (some ⟨a.1, a.2, none⟩) ∧ AVR M L w (.ptr id ver (p ++ q) t) (.pointer (some ⟨a.1, a.2 + d, none⟩)) := by
  obtain ⟨cs, ⟨k1, k2, k3⟩, rfl⟩ := hx
  have k4 := k3 hv.symm
  cases hc : (L id).2 with
  | none => exact absurd hc hn
  | box bt a =>
    rw [hc] at k4
    obtain ⟨b, o, e, h1, h2, rfl⟩ := k4
    refine ⟨(b, o + e), rfl, [_], ⟨⟨_, rfl, rfl⟩, k2, fun _ => ?_⟩, rfl⟩
    rw [hc]
    exact ⟨b, o, e + d, h1, offT_append h2 ho, by simp [Nat.add_assoc]⟩
  | rowb et xs =>
    rw [hc] at k4
    obtain ⟨b, c, i, q', e, h1, rfl, h2, h3, rfl⟩ := k4
    refine ⟨(b, i * et.size + e), rfl, [_], ⟨⟨_, rfl, rfl⟩, k2, fun _ => ?_⟩, rfl⟩
    rw [hc]
    exact ⟨b, c, i, q' ++ q, e + d, h1, rfl, h2, offT_append h3 ho, by simp [Nat.add_assoc]⟩
  | ro et xs =>
    rw [hc] at k4
    obtain ⟨b, c, i, q', e, h1, rfl, h2, h3, rfl⟩ := k4
    refine ⟨(b, i * et.size + e), rfl, [_], ⟨⟨_, rfl, rfl⟩, k2, fun _ => ?_⟩, rfl⟩
    rw [hc]
    exact ⟨b, c, i, q' ++ q, e + d, h1, rfl, h2, offT_append h3 ho, by simp [Nat.add_assoc]⟩
theorem ptr_is {M : Ms} {L : Lk} {w : World} {id ver : Nat} {p : List PE} {s : Ty} {val : Value} (hx : AVR M L w (.ptr id ver p s) val) (hv : (L id).1 = ver) (hn : (L id).2 ≠ .none) :
    ∃ a, val = .pointer (some a) := by
  obtain ⟨a, h, _⟩ := ptr_step hx hv hn (offT_nil s)
  exact ⟨_, h⟩

theorem getVal_field {r : R} : ∀ {s : Ty} {f : Nat} {x : s.den} {K : AV → Option R}, getVal s x [.fld f] K = some r → ∃ s', fieldTy s f = some s' := by
  intro s
  induction s with
  | pair a b _ ihb =>
    intro f x K h
    cases f with
    | zero => exact ⟨a, rfl⟩
    | succ f => simp only [getVal] at h; exact ihb h
  | _ => intro f x K h; simp [getVal] at h
theorem fieldAddrK_ok {m : Lk} {ty : Ty} {x : AV} {f : Nat} {K : AV → Option R} {r : R} (h : fieldAddrK m ty x f K = some r) :
    ∃ v, K v = some r ∧ ∀ {M : Ms} {L : Lk} {w : World} {t : TypeId} {val : Value}, Lay P ty (.inl t) = true → Msk m L → WInv M L w → AVR M L w x val →
      ∃ val', (Instr.fieldAt t val f).run P w = .ok val' w ∧ AVR M L w v val' := by
  have pl : ∀ {t : TypeId} {fs : Array Field} {fl : Field} {s : Ty} {b o d : Nat} {w : World}, P.underlying t = some (.struct fs) → fs.toList[f]? = some fl → fl.offset = d → Lay P s (.inl fl.type) = true → 0 < s.size →
      (Instr.fieldAt t (.pointer (some ⟨b, o, none⟩)) f).run P w = .ok (.pointer (some ⟨b, o + d, none⟩)) w := by
    intro t fs fl s b o d w hu hf ho hl hs
    have hf' : fs[f]? = some fl := by rw [← Array.getElem?_toList]; exact hf
    have hz : ¬ s.size = 0 := by omega
    simp [Instr.fieldAt, run_underlying hu, hf', Instr.sureAddr, fieldPlace, run_sizeOf hl, hz, add_at, ho]
  have pair : ∀ {ty s : Ty} {t : TypeId}, Lay P ty (.inl t) = true → fieldTy ty f = some s → ∃ (fs : Array Field) (fl : Field) (d : Nat), P.underlying t = some (.struct fs) ∧ fs.toList[f]? = some fl ∧ offT ty [.fld f] = some (d, s) ∧ fl.offset = d ∧ Lay P s (.inl fl.type) = true ∧ 0 < s.size := by
    intro ty s t hl hf
    have : (∃ a b, ty = .pair a b) ∨ ty = .unit := by
      cases ty with
      | pair a b => exact .inl ⟨_, _, rfl⟩
      | _ => simp [fieldTy] at hf
    obtain ⟨fs, hu, h2⟩ := lay_struct hl this
    obtain ⟨fl, d, h3, h4, h5, h6, h7⟩ := lay_field h2 hf
    exact ⟨fs, fl, d, hu, h3, h4, by omega, h6, h7⟩
  unfold fieldAddrK at h
  split at h
  · rename_i id ver p s
    split at h
    · rename_i e
      subst e
      replace h := cond_none h
      obtain ⟨hlv, h⟩ := h
      obtain ⟨hv, hn⟩ := live_of hlv
      split at h
      · rename_i t hf
        refine ⟨_, h, ?_⟩
        intro M L w tid val hl hm hw hx
        have hL := hm.eq (i := id) hn
        obtain ⟨fs, fl, d, hu, h3, h4, h5, h6, h7⟩ := pair hl hf
        obtain ⟨a, rfl, hp⟩ := ptr_step hx (by rw [← hL]; exact hv) (by rw [← hL]; exact hn) h4
        exact ⟨_, pl hu h3 h5 h6 h7, hp⟩
      · simp at h
    · simp at h
  · rename_i s x
    split at h
    · rename_i e
      subst e
      obtain ⟨t, y, hk, hh⟩ := getVal_ok h
      refine ⟨_, hk, ?_⟩
      intro M L w tid val hl hm hw hx
      obtain ⟨cs0, ⟨b, o, c, rfl, hf, hcells, hrep⟩, rfl⟩ := hx
      obtain ⟨s', hf'⟩ := getVal_field h
      obtain ⟨fs, fl, d, hu, h3, h4, h5, h6, h7⟩ := pair hl hf'
      obtain ⟨rfl, pre, mid, post, rfl, hpl, hm⟩ := hh hrep h4
      refine ⟨_, pl hu h3 h5 h6 h7, [_], ⟨b, o + d, mid, rfl, hf, ?_, hm⟩, rfl⟩
      have := CellsAt.mid hcells
      rwa [hpl] at this
    · simp at h
  · simp at h
end
end Go.Vi

