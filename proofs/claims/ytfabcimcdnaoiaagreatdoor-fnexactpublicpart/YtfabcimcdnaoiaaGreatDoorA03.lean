/- A part of the proof of publicPart_holds: ViV, ViW, ViX, ViY, ViZ, VjA. No condition of its own. -/
import Derived.Test.YtfabcimcdnaoiaaGreatDoorA02
set_option autoImplicit false
set_option linter.unusedVariables false
set_option linter.unusedSimpArgs false
namespace Go.Vi
open Go

/-! ## Contracts -/
def ArgsAt (A : Nat → Prop) (w : World) : (ps : List PM) → (insOT ps).den → List Value → List Leaf → Prop
  | [], _, vs, ls => vs = [] ∧ ls = []
  | .ro t :: ps, x, vs, ls => ∃ cs vs', vs = toV t.isAgg cs :: vs' ∧ Rep A w t x.1 cs ∧ ArgsAt A w ps x.2 vs' ls
  | .io o :: ps, x, vs, ls => ∃ cs vs' l1 l2, vs = toV o.agg cs :: vs' ∧ ls = l1 ++ l2 ∧ ORep A w o x.1 cs l1 ∧ ArgsAt A w ps x.2 vs' l2
  | .mv o :: ps, x, vs, ls => ∃ cs vs' l1 l2, vs = toV o.agg cs :: vs' ∧ ls = l1 ++ l2 ∧ ORep A w o x.1 cs l1 ∧ ArgsAt A w ps x.2 vs' l2
  | .ptr o :: ps, x, vs, ls => ∃ cs vs' l1 l2, vs = toV false cs :: vs' ∧ ls = l1 ++ l2 ∧ ORep A w (.ref o) x.1 cs l1 ∧ ArgsAt A w ps x.2 vs' l2
  | .fn f :: ps, x, vs, ls => ∃ vs', vs = .func (.func f) #[] #[] :: vs' ∧ ArgsAt A w ps x vs' ls
def pwin : List PM → List Leaf → Foot
  | [], _ => []
  | .ro _ :: ps, l => pwin ps l
  | .io o :: ps, l => owin o l ++ pwin ps (l.drop (nleaf o))
  | .mv o :: ps, l => owin o l ++ pwin ps (l.drop (nleaf o))
  | .ptr o :: ps, l => owin (.ref o) l ++ pwin ps (l.drop (nleaf (.ref o)))
  | .fn _ :: ps, l => pwin ps l
def RsAt (A : Nat → Prop) (w : World) : (rs : List OT) → (rsOT rs).den → List Value → List Leaf → Prop
  | [], _, vs, ls => vs = [] ∧ ls = []
  | o :: rs, x, vs, ls => ∃ cs vs' l1 l2, vs = toV o.agg cs :: vs' ∧ ls = l1 ++ l2 ∧ ORep A w o x.1 cs l1 ∧ RsAt A w rs x.2 vs' l2
def rwin : List OT → List Leaf → Foot
  | [], _ => []
  | o :: rs, l => owin o l ++ rwin rs (l.drop (nleaf o))
def OutsAt (A : Nat → Prop) (w : World) : (ps : List PM) → (outsOT ps).den → List Value → List Leaf → Prop
  | [], _, _, ls => ls = []
  | .io o :: ps, y, a :: vs, ls => ∃ cs l1 l2, a = toV o.agg cs ∧ ls = l1 ++ l2 ∧ ORep A w o y.1 cs l1 ∧ OutsAt A w ps y.2 vs l2
  | .ptr o :: ps, y, a :: vs, ls => ∃ cs l1 l2, a = toV false cs ∧ ls = l1 ++ l2 ∧ ORep A w (.ref o) y.1 cs l1 ∧ OutsAt A w ps y.2 vs l2
  | .ro _ :: ps, y, _ :: vs, ls => OutsAt A w ps y vs ls
  | .mv _ :: ps, y, _ :: vs, ls => OutsAt A w ps y vs ls
  | .fn _ :: ps, y, _ :: vs, ls => OutsAt A w ps y vs ls
  | _, _, [], _ => False
def outwin : List PM → List Leaf → Foot
  | [], _ => []
  | .io o :: ps, l => owin o l ++ outwin ps (l.drop (nleaf o))
  | .ptr o :: ps, l => owin (.ref o) l ++ outwin ps (l.drop (nleaf (.ref o)))
  | .ro _ :: ps, l => outwin ps l
  | .mv _ :: ps, l => outwin ps l
  | .fn _ :: ps, l => outwin ps l
def GlobAt (GL : List (Nat × GV)) (A : Nat → Prop) (w : World) : Prop := ∀ p ∈ GL, A p.1 ∧ ∃ cs, CellsAt w p.1 0 cs ∧ Rep A w p.2.t p.2.x cs
def rval : List Value → Value
  | [v] => v
  | vs => .tuple vs.toArray
/-- what may be read: blocks that are there, are not hidden, and are no row's of its own -/
def Rd (w : World) (hid : Nat → Prop) (ls : List Leaf) (b : Nat) : Prop := b < w.heap.size ∧ ¬ hid b ∧ b ∉ lb ls
def InWin (p : Nat × Nat × Nat) (E : Foot) : Prop := ∃ q ∈ E, q.1 = p.1 ∧ q.2.1 ≤ p.2.1 ∧ p.2.1 + p.2.2 ≤ q.2.1 + q.2.2
def Gives (F : Fn) (r : F.sig.outDen) (w0 : World) (hid : Nat → Prop) (args : Array Value) (ls : List Leaf) : Ending → World → Prop := fun e w' =>
  ∃ vs lsR lsO, e = .returned (rval vs) ∧ Frame w0 (pwin F.sig.ps ls) w' ∧ (lb (lsR ++ lsO)).Nodup ∧ (∀ b ∈ lb (lsR ++ lsO), ¬ hid b ∧ b < w'.heap.size) ∧
    RsAt (Rd w' hid (lsR ++ lsO)) w' F.sig.rs r.1 vs lsR ∧ OutsAt (Rd w' hid (lsR ++ lsO)) w' F.sig.ps r.2 args.toList lsO ∧
    ∀ p ∈ rwin F.sig.rs lsR ++ outwin F.sig.ps lsO, w0.heap.size ≤ p.1 ∨ InWin p (pwin F.sig.ps ls)
def FnOk (P : Program) (GL : List (Nat × GV)) (f : Nat) (F : Fn) : Prop :=
  (∃ fn, P.funcs[f]? = some fn ∧ (fn.name == "runtime.NumGoroutine") = false ∧ fn.body.isNone = false) ∧
  ∀ (x : F.sig.inDen) (r : F.sig.outDen), F.f x = some r → ∀ (w0 : World) (hid : Nat → Prop) (args : Array Value) (ls : List Leaf),
    ArgsAt (Rd w0 hid ls) w0 F.sig.ps x args.toList ls → (lb ls).Nodup → (∀ b, hid b → b < w0.heap.size) → (∀ b ∈ lb ls, ¬ hid b) → GlobAt GL (Rd w0 hid ls) w0 →
    Calls P f args w0 (Gives F r w0 hid args ls)
/-- all functions that a table names -/
def GamOk (P : Program) (GL : List (Nat × GV)) : Gam → Prop
  | [] => True
  | (f, F) :: G => FnOk P GL f F ∧ GamOk P GL G
theorem GamOk.look {P : Program} {GL : List (Nat × GV)} {G : Gam} {f : Nat} {F : Fn} (h : GamOk P GL G) (hl : fnLook G f = some F) : FnOk P GL f F := by
  induction G with
  | nil => simp [fnLook] at hl
  | cons p G ih =>
    obtain ⟨i, e⟩ := p
    simp only [fnLook] at hl
    cases hb : Nat.beq i f
    · rw [hb] at hl; exact ih h.2 hl
    · rw [hb] at hl
      simp only [cond_true, Option.some.injEq] at hl
      have := Nat.eq_of_beq_eq_true hb
      subst this hl
      exact h.1

theorem ArgsAt.mono {A A' : Nat → Prop} {w : World} (h : ∀ b, A b → A' b) : ∀ {ps : List PM} {x : (insOT ps).den} {vs : List Value} {ls : List Leaf}, ArgsAt A w ps x vs ls → ArgsAt A' w ps x vs ls := by
  intro ps
  induction ps with
  | nil => intro x vs ls k; exact k
  | cons p ps ih =>
    intro x vs ls k
    cases p with
    | ro t => obtain ⟨cs, vs', h1, h2, h3⟩ := k; exact ⟨cs, vs', h1, h2.mono fun b hb => ⟨h b hb, rfl⟩, ih h3⟩
    | io o => obtain ⟨cs, vs', l1, l2, h1, h2, h3, h4⟩ := k; exact ⟨cs, vs', l1, l2, h1, h2, h3.mono h, ih h4⟩
    | mv o => obtain ⟨cs, vs', l1, l2, h1, h2, h3, h4⟩ := k; exact ⟨cs, vs', l1, l2, h1, h2, h3.mono h, ih h4⟩
    | ptr o => obtain ⟨cs, vs', l1, l2, h1, h2, h3, h4⟩ := k; exact ⟨cs, vs', l1, l2, h1, h2, ORep.mono (o := .ref o) h h3, ih h4⟩
    | fn f => obtain ⟨vs', h1, h2⟩ := k; exact ⟨vs', h1, ih h2⟩
theorem RsAt.mono {A A' : Nat → Prop} {w : World} (h : ∀ b, A b → A' b) : ∀ {rs : List OT} {x : (rsOT rs).den} {vs : List Value} {ls : List Leaf}, RsAt A w rs x vs ls → RsAt A' w rs x vs ls := by
  intro rs
  induction rs with
  | nil => intro x vs ls k; exact k
  | cons o rs ih => rintro x vs ls ⟨cs, vs', l1, l2, h1, h2, h3, h4⟩; exact ⟨cs, vs', l1, l2, h1, h2, h3.mono h, ih h4⟩
theorem OutsAt.mono {A A' : Nat → Prop} {w : World} (h : ∀ b, A b → A' b) : ∀ {ps : List PM} {x : (outsOT ps).den} {vs : List Value} {ls : List Leaf}, OutsAt A w ps x vs ls → OutsAt A' w ps x vs ls := by
  intro ps
  induction ps with
  | nil => intro x vs ls k; cases vs <;> exact k
  | cons p ps ih =>
    intro x vs ls k
    cases vs with
    | nil => cases p <;> exact k.elim
    | cons v vs =>
      cases p with
      | ro t => exact ih k
      | io o => obtain ⟨cs, l1, l2, h1, h2, h3, h4⟩ := k; exact ⟨cs, l1, l2, h1, h2, h3.mono h, ih h4⟩
      | mv o => exact ih k
      | ptr o => obtain ⟨cs, l1, l2, h1, h2, h3, h4⟩ := k; exact ⟨cs, l1, l2, h1, h2, ORep.mono (o := .ref o) h h3, ih h4⟩
      | fn f => exact ih k

/-! ## Memory told anew -/
theorem updL_mem {u : Mem} : ∀ {L : Lk} {i : Nat} {e : Nat × Cont}, (fsts u).Nodup → (i, e) ∈ u → updL L u i = e := by
  induction u with
  | nil => intro L i e _ h; simp at h
  | cons p u ih =>
    obtain ⟨j, e'⟩ := p
    intro L i e hn h
    simp only [fsts, List.nodup_cons] at hn
    simp only [updL]
    rcases List.mem_cons.1 h with h | h
    · simp only [Prod.mk.injEq] at h
      obtain ⟨rfl, rfl⟩ := h
      rw [updL_not hn.1]; simp [upd1]
    · exact ih hn.2 h
theorem fsts_mem {u : Mem} {i : Nat} (h : i ∈ fsts u) : ∃ e, (i, e) ∈ u := by
  induction u with
  | nil => simp [fsts] at h
  | cons p u ih =>
    obtain ⟨j, e⟩ := p
    simp only [fsts, List.mem_cons] at h
    rcases h with rfl | h
    · exact ⟨e, by simp⟩
    · obtain ⟨e', he⟩ := ih h; exact ⟨e', List.mem_cons_of_mem _ he⟩
abbrev Asg := List (Nat × Leaf)
def findI : Asg → Nat → Option Leaf
  | [], _ => none
  | (i, l) :: r, j => if i = j then some l else findI r j
def findB : Asg → Nat → Option Nat
  | [], _ => none
  | (i, some (b, _)) :: r, c => if b = c then some i else findB r c
  | (_, none) :: r, c => findB r c
theorem findI_none {a : Asg} {i : Nat} (h : i ∉ a.map (·.1)) : findI a i = none := by
  induction a with
  | nil => rfl
  | cons p a ih =>
    obtain ⟨j, l⟩ := p
    simp only [List.map_cons, List.mem_cons, not_or] at h
    simp only [findI]
    rw [if_neg (fun e => h.1 e.symm), ih h.2]
theorem findI_some {a : Asg} {i : Nat} {l : Leaf} (h : findI a i = some l) : (i, l) ∈ a := by
  induction a with
  | nil => simp [findI] at h
  | cons p a ih =>
    obtain ⟨j, k⟩ := p
    simp only [findI] at h
    split at h
    · rename_i e; subst e; simp only [Option.some.injEq] at h; subst h; simp
    · exact List.mem_cons_of_mem _ (ih h)
theorem findI_mem {a : Asg} (hn : (a.map (·.1)).Nodup) {i : Nat} {l : Leaf} (h : (i, l) ∈ a) : findI a i = some l := by
  induction a with
  | nil => simp at h
  | cons p a ih =>
    obtain ⟨j, k⟩ := p
    simp only [List.map_cons, List.nodup_cons] at hn
    simp only [findI]
    rcases List.mem_cons.1 h with h | h
    · simp only [Prod.mk.injEq] at h; obtain ⟨rfl, rfl⟩ := h; simp
    · rw [if_neg, ih hn.2 h]
      rintro rfl
      exact hn.1 (List.mem_map.2 ⟨_, h, rfl⟩)
theorem findB_none {a : Asg} {b : Nat} (h : b ∉ lb (a.map (·.2))) : findB a b = none := by
  induction a with
  | nil => rfl
  | cons p a ih =>
    obtain ⟨j, l⟩ := p
    cases l with
    | none => simp only [List.map_cons, lb] at h; simp only [findB]; exact ih h
    | some q =>
      obtain ⟨c, n⟩ := q
      simp only [List.map_cons, lb, List.mem_cons, not_or] at h
      simp only [findB]
      rw [if_neg (fun e => h.1 e.symm), ih h.2]
theorem findB_some {a : Asg} {b i : Nat} (h : findB a b = some i) : ∃ n, (i, some (b, n)) ∈ a := by
  induction a with
  | nil => simp [findB] at h
  | cons p a ih =>
    obtain ⟨j, l⟩ := p
    cases l with
    | none => simp only [findB] at h; obtain ⟨n, hn⟩ := ih h; exact ⟨n, List.mem_cons_of_mem _ hn⟩
    | some q =>
      obtain ⟨c, n⟩ := q
      simp only [findB] at h
      split at h
      · rename_i e; subst e; simp only [Option.some.injEq] at h; subst h; exact ⟨n, by simp⟩
      · obtain ⟨n, hn⟩ := ih h; exact ⟨n, List.mem_cons_of_mem _ hn⟩
theorem findB_mem {a : Asg} (hn : (lb (a.map (·.2))).Nodup) {i b n : Nat} (h : (i, some (b, n)) ∈ a) : findB a b = some i := by
  induction a with
  | nil => simp at h
  | cons p a ih =>
    obtain ⟨j, l⟩ := p
    replace h := List.mem_cons.1 h
    rcases h with h | h
    · simp only [Prod.mk.injEq] at h
      obtain ⟨rfl, rfl⟩ := h
      simp [findB]
    · cases l with
      | none => simp only [List.map_cons, lb] at hn; simp only [findB]; exact ih hn h
      | some q =>
        obtain ⟨c, k⟩ := q
        simp only [List.map_cons, lb, List.nodup_cons] at hn
        simp only [findB]
        rw [if_neg, ih hn.2 h]
        rintro rfl
        exact hn.1 (mem_lb.2 ⟨n, List.mem_map.2 ⟨_, h, rfl⟩⟩)
open Classical in
noncomputable def rebuilt (M : Ms) (E : Foot) (asg : Asg) : Ms :=
  { M with κ := fun b => match findB asg b with | some i => some i | none => if ∃ p ∈ E, p.1 = b then none else M.κ b, ι := fun i => match findI asg i with | some l => l | none => M.ι i }

theorem Frame.trans {w0 w w' : World} {E0 E : Foot} (h : Frame w0 E0 w) (k : Frame w E w') (hed : ∀ p ∈ E0, ∀ q ∈ E0, p.1 = q.1 → p = q)
    (hE : ∀ p ∈ E, w0.heap.size ≤ p.1 ∨ ∃ q ∈ E0, q.1 = p.1 ∧ q.2.1 ≤ p.2.1 ∧ p.2.1 + p.2.2 ≤ q.2.1 + q.2.2) : Frame w0 E0 w' where
  os := k.os.trans h.os
  tape := k.tape.trans h.tape
  output := k.output.trans h.output
  size := Nat.le_trans h.size k.size
  old b hb he := by
    have hs := h.size
    rw [k.old b (by omega), h.old b hb he]
    intro p hp hpb
    rcases hE p hp with h1 | ⟨q, hq, h1, _⟩
    · omega
    · exact he q hq (by omega)
  cut p hp := by
    obtain ⟨cur0, cur, el, fr, h1, h2, h3, h4⟩ := h.cut p hp
    have hlt : p.1 < w0.heap.size := (Array.getElem?_eq_some_iff.1 h1).1
    by_cases hin : ∃ q ∈ E, q.1 = p.1
    · obtain ⟨q, hq, hqp⟩ := hin
      obtain ⟨c0, c1, el', fr', g1, g2, g3, g4⟩ := k.cut q hq
      rw [hqp, h2] at g1
      simp only [Option.some.injEq, Obj.cells.injEq] at g1
      obtain ⟨rfl, rfl, rfl⟩ := g1
      refine ⟨cur0, c1, el, fr, h1, by rw [← hqp]; exact g2, by omega, fun j hj => ?_⟩
      rw [← h4 j hj]
      refine g4 j ?_
      rcases hE q hq with h5 | ⟨q', hq', h5, h6, h7⟩
      · omega
      · have := hed q' hq' p hp (by omega)
        subst this
        omega
    · refine ⟨cur0, cur, el, fr, h1, ?_, h3, h4⟩
      rw [k.old p.1 (by have := h.size; omega) fun q hq hqp => hin ⟨q, hq, hqp⟩]
      exact h2

theorem rebuild {M : Ms} {L : Lk} {w w' : World} (hw : WInv M L w) {E : Foot} (hf : Frame w E w') {u : Mem} (hu : (fsts u).Nodup) {asg : Asg} (hasg : ∀ i ∈ asg.map (·.1), i ∈ fsts u) (hai : (asg.map (·.1)).Nodup) (hab : (lb (asg.map (·.2))).Nodup)
    (hnew : ∀ b ∈ lb (asg.map (·.2)), (w.heap.size ≤ b ∧ b < w'.heap.size) ∨ ∃ p ∈ E, p.1 = b)
    (hE : ∀ p ∈ E, Wr M p.1 p.2.1 (p.2.1 + p.2.2) ∧ ∃ i ∈ fsts u, M.κ p.1 = some i)
    (hv : ∀ i e, (i, e) ∈ u → (L i).1 < e.1 ∨ ((L i).1 = e.1 ∧ (∀ l, (i, l) ∈ asg → l = M.ι i) ∧ Compat (L i).2 e.2)) :
    Later M (rebuilt M E asg) L (updL L u) w w' ∧ ((∀ i e, (i, e) ∈ u → BlkC (rebuilt M E asg) (updL L u) w' i e.2) → WInv (rebuilt M E asg) (updL L u) w') := by
  have hκ : ∀ b i, M.κ b = some i → b ∈ lb (asg.map (·.2)) ∨ (∃ p ∈ E, p.1 = b) → i ∈ fsts u := by
    intro b i hb hin
    have hlt := (hw.own b i hb).1
    have : ∃ p ∈ E, p.1 = b := by
      rcases hin with h | h
      · rcases hnew b h with h | h
        · omega
        · exact h
      · exact h
    obtain ⟨p, hp, rfl⟩ := this
    obtain ⟨_, j, hj, hjk⟩ := hE p hp
    rw [hb] at hjk
    simp only [Option.some.injEq] at hjk
    rw [hjk]; exact hj
  have hκ' : ∀ b, b ∉ lb (asg.map (·.2)) → (¬ ∃ p ∈ E, p.1 = b) → (rebuilt M E asg).κ b = M.κ b := by
    intro b h1 h2
    simp only [rebuilt, findB_none h1, if_neg h2]
  have hι' : ∀ i, i ∉ fsts u → (rebuilt M E asg).ι i = M.ι i := by
    intro i hi
    simp only [rebuilt]
    rw [findI_none fun h => hi (hasg i h)]
  have hl : Later M (rebuilt M E asg) L (updL L u) w w' := by
    refine ⟨rfl, ?_, ?_, ?_⟩
    · rintro b ⟨h1, h2, h3⟩
      have n2 : ¬ ∃ p ∈ E, p.1 = b := by
        rintro ⟨p, hp, rfl⟩
        obtain ⟨_, j, _, hjk⟩ := hE p hp
        rw [h1] at hjk; simp at hjk
      have n1 : b ∉ lb (asg.map (·.2)) := by
        intro h
        rcases hnew b h with h | h
        · omega
        · exact n2 h
      refine ⟨⟨by rw [hκ' b n1 n2, h1], h2, by have := hf.size; omega⟩, hf.old b h3 fun p hp hpb => n2 ⟨p, hp, hpb⟩⟩
    · intro i
      by_cases hi : i ∈ fsts u
      · obtain ⟨e, he⟩ := fsts_mem hi
        rw [updL_mem hu he]
        rcases hv i e he with h | h <;> omega
      · rw [updL_not hi]; exact Nat.le_refl _
    · intro i hver
      by_cases hi : i ∈ fsts u
      · obtain ⟨e, he⟩ := fsts_mem hi
        rw [updL_mem hu he] at hver ⊢
        rcases hv i e he with h | ⟨_, h1, h2⟩
        · omega
        · refine ⟨?_, h2⟩
          simp only [rebuilt]
          cases hfi : findI asg i with
          | none => rfl
          | some l => exact h1 l (findI_some hfi)
      · rw [updL_not hi]; exact ⟨hι' i hi, Compat.refl _⟩
  refine ⟨hl, fun hblk => ?_⟩
  constructor
  · intro i
    by_cases hi : i ∈ fsts u
    · obtain ⟨e, he⟩ := fsts_mem hi
      rw [updL_mem hu he]
      exact hblk i e he
    · rw [updL_not hi]
      refine hl.blk (hw.blk i) (hι' i hi) fun b hb => ?_
      have n1 : b ∉ lb (asg.map (·.2)) := fun h => hi (hκ b i hb (.inl h))
      have n2 : ¬ ∃ p ∈ E, p.1 = b := fun h => hi (hκ b i hb (.inr h))
      exact ⟨by rw [hκ' b n1 n2, hb], hf.old b (hw.own b i hb).1 fun p hp hpb => n2 ⟨p, hp, hpb⟩⟩
  · intro b i hb
    simp only [rebuilt] at hb
    have inE : (∃ p ∈ E, p.1 = b) → b < w'.heap.size ∧ ¬ M.X.hid b ∧ (M.X.w0.heap.size ≤ b ∨ ∃ p ∈ M.X.E, p.1 = b) := by
      rintro ⟨p, hp, rfl⟩
      obtain ⟨_, j, _, hjk⟩ := hE p hp
      have := hw.own _ _ hjk
      exact ⟨by have := hf.size; omega, this.2⟩
    split at hb
    · rename_i j hj
      obtain ⟨n, hn⟩ := findB_some hj
      have hm : b ∈ lb (asg.map (·.2)) := mem_lb.2 ⟨n, List.mem_map.2 ⟨_, hn, rfl⟩⟩
      rcases hnew b hm with h | h
      · have hs := hw.frame.size
        exact ⟨h.2, fun hh => by have := hw.hid b hh; omega, .inl (show M.X.w0.heap.size ≤ b by omega)⟩
      · exact inE h
    · split at hb
      · simp at hb
      · have := hw.own b i hb
        exact ⟨by have := hf.size; omega, this.2⟩
  · exact hw.hid
  · exact hw.ed
  · exact hw.frame.trans hf hw.ed fun p hp => (hE p hp).1
  · exact hl.glob hw.glob
end Go.Vi

set_option autoImplicit false
set_option linter.unusedVariables false
set_option linter.unusedSimpArgs false
namespace Go.Vi
open Go

/-! ## What is laid for data with owned rows -/
theorem OT.okR_of {o : OT} (h : o.plain = true) : o.okR = true := by cases o <;> first | exact h | simp [OT.plain] at h
structure Laid (M : Ms) (L : Lk) (u : Mem) (ls : List Leaf) : Prop where
  ent : ∀ p ∈ u, L p.1 = p.2
  pl : (fsts u).map M.ι = ls
  own : ∀ i ∈ fsts u, ∀ b n, M.ι i = some (b, n) → M.κ b = some i
theorem fsts_length (u : Mem) : (fsts u).length = u.length := by
  induction u with
  | nil => rfl
  | cons p u ih => obtain ⟨i, e⟩ := p; simp [fsts, ih]
theorem Laid.split {M : Ms} {L : Lk} {u1 u2 : Mem} {l1 l2 : List Leaf} (h : Laid M L (u1 ++ u2) (l1 ++ l2)) (hl : u1.length = l1.length) : Laid M L u1 l1 ∧ Laid M L u2 l2 := by
  obtain ⟨h1, h2, h3⟩ := h
  rw [fsts_append, List.map_append] at h2
  have := List.append_inj h2 (by rw [List.length_map, fsts_length, hl])
  exact ⟨⟨fun p hp => h1 p (List.mem_append_left _ hp), this.1, fun i hi => h3 i (by rw [fsts_append]; exact List.mem_append_left _ hi)⟩,
    ⟨fun p hp => h1 p (List.mem_append_right _ hp), this.2, fun i hi => h3 i (by rw [fsts_append]; exact List.mem_append_right _ hi)⟩⟩
theorem scat_length (m : Lk) (site : Nat) : ∀ (o : OT) (x : o.den) (j : Nat), (scat m site o x j).2.1.length = nleaf o
  | .v _, _, _ => rfl
  | .row _, _, _ => rfl
  | .pair a b, x, j => by simp [scat, nleaf, scat_length m site a x.1 j, scat_length m site b x.2]
  | .unit, _, _ => rfl
  | .ref o, x, j => by simp [scat, nleaf, scat_length m site o x]
theorem hdr_one (l : Leaf) (n : Nat) : OneC [hdr l n] := by cases l <;> exact ⟨_, rfl, rfl⟩
/-- a row that is laid -/
theorem row_laid {M : Ms} {L : Lk} {A : Nat → Prop} {w : World} {t : Ty} {xs : List t.den} {id ver : Nat} {l : Leaf} (h : RowAt A w t xs l) (hA : ∀ b, A b → Fre M w b) (hL : L id = (ver, .rowb t xs)) (hι : M.ι id = l) (hκ : ∀ b n, M.ι id = some (b, n) → M.κ b = some id)
    (hw : ∀ p ∈ owin (.row t) [l], Wr M p.1 p.2.1 (p.2.1 + p.2.2)) : AVC M L w (.row id ver) [hdr l xs.length] ∧ BlkC M L w id (.rowb t xs) := by
  refine ⟨⟨hdr_one _ _, by rw [hL]; exact Nat.le_refl _, fun _ => by rw [hL, hι]⟩, ?_⟩
  obtain ⟨h0, h⟩ := h
  refine ⟨h0, ?_⟩
  rcases h with ⟨rfl, rfl⟩ | ⟨b, cap, cur, el, rfl, k2, k3, k4, cs, k5, k6⟩
  · exact .inl ⟨hι, rfl⟩
  · refine .inr ⟨b, cap, cur, el, hι, hκ b cap hι, ?_, k2, k3, k4, cs, k5.mono fun x c hx => hx.mono fun b hb => ⟨hA b hb, rfl⟩, k6⟩
    have := hw (b, 0, cap * t.size) (by simp [owin])
    simpa using this
theorem scat_ok {m : Lk} {site : Nat} {M : Ms} {L : Lk} {w : World} {A : Nat → Prop} (hA : ∀ b, A b → Fre M w b) : ∀ {o : OT} {x : o.den} {j : Nat} {cs : List Value} {ls : List Leaf}, o.okR = true → ORep A w o x cs ls → Laid M L (scat m site o x j).2.1 ls →
    (∀ p ∈ owin o ls, Wr M p.1 p.2.1 (p.2.1 + p.2.2)) → AVC M L w (scat m site o x j).1 cs ∧ (o.plain = true → fits (scat m site o x j).1 o.ty = true) ∧ aggAV (scat m site o x j).1 = o.agg ∧ ∀ p ∈ (scat m site o x j).2.1, BlkC M L w p.1 p.2.2 := by
  intro o
  induction o with
  | v t => rintro x j cs ls _ ⟨rfl, hr⟩ _ _; exact ⟨hr.mono fun b hb => ⟨hA b hb, rfl⟩, fun _ => by simp [scat, fits, OT.ty], rfl, by simp [scat]⟩
  | row t =>
    rintro x j cs ls _ ⟨l, rfl, rfl, hr⟩ hl hw
    have hL := hl.ent (sid site j, (m (sid site j)).1 + 1, .rowb t x) (by simp [scat])
    have hι : M.ι (sid site j) = l := by have := hl.pl; simpa [scat, fsts] using this
    have := row_laid hr hA hL hι (hl.own _ (by simp [scat, fsts])) hw
    refine ⟨this.1, fun _ => rfl, rfl, ?_⟩
    intro p hp
    simp only [scat, List.mem_singleton] at hp
    subst hp
    exact this.2
  | pair a b iha ihb =>
    rintro x j cs ls hok ⟨c1, c2, l1, l2, rfl, rfl, h1, h2⟩ hl hw
    simp only [OT.okR, OT.plain, Bool.and_eq_true] at hok
    simp only [scat] at hl ⊢
    obtain ⟨d1, d2⟩ := hl.split (by rw [scat_length, h1.nleaf])
    rw [owin_pair h1] at hw
    obtain ⟨p1, p2, p3, p4⟩ := iha (OT.okR_of hok.1) h1 d1 fun p hp => hw p (List.mem_append_left _ hp)
    obtain ⟨q1, q2, q3, q4⟩ := ihb (OT.okR_of hok.2) h2 d2 fun p hp => hw p (List.mem_append_right _ hp)
    refine ⟨⟨c1, c2, rfl, p1, q1⟩, fun _ => by simp [fits, OT.ty, p2 hok.1, q2 hok.2], rfl, ?_⟩
    intro p hp
    rcases List.mem_append.1 hp with hp | hp
    · exact p4 p hp
    · exact q4 p hp
  | unit => rintro x j cs ls _ ⟨rfl, rfl⟩ _ _; exact ⟨rfl, fun _ => rfl, rfl, by simp [scat]⟩
  | ref o ih =>
    rintro x j cs ls hok ⟨b, off, ls', rfl, rfl, cur, el, cs', hop, hr, hlen, hcur⟩ hl hw
    simp only [OT.okR] at hok
    simp only [scat] at hl ⊢
    have hL := hl.ent (sid site j, (m (sid site j)).1 + 1, .box o.ty (scat m site o x (j + 1)).1) (by simp)
    have hpl := hl.pl
    simp only [fsts, List.map_cons, List.cons.injEq] at hpl
    have hκ := hl.own _ (by simp [fsts]) b off hpl.1
    have hl' : Laid M L (scat m site o x (j + 1)).2.1 ls' := ⟨fun p hp => hl.ent p (by simp [hp]), hpl.2, fun i hi => hl.own i (by simp [fsts, hi])⟩
    simp only [owin, List.mem_cons, forall_eq_or_imp] at hw
    obtain ⟨p1, p2, p3, p4⟩ := ih (OT.okR_of hok) hr hl' hw.2
    refine ⟨⟨⟨_, rfl, rfl⟩, by rw [hL]; exact Nat.le_refl _, fun _ => ?_⟩, fun h => by simp [OT.plain] at h, rfl, ?_⟩
    · rw [hL]; exact ⟨b, off, 0, hpl.1, offT_nil _, rfl⟩
    · intro p hp
      simp only [List.mem_cons] at hp
      rcases hp with rfl | hp
      · exact ⟨p2 hok, b, off, cur, el, hpl.1, hκ, hw.1, hop, cs', p1, hcur⟩
      · exact p4 p hp

theorem rescat_ok {m : Lk} {site : Nat} {M : Ms} {L : Lk} {w : World} {A : Nat → Prop} (hA : ∀ b, A b → Fre M w b) : ∀ {o : OT} {x : o.den} {ids : List (Option Nat)} {j : Nat} {cs : List Value} {ls : List Leaf}, o.plain = true → ORep A w o x cs ls → nleaf o ≤ ids.length →
    Laid M L (rescat m site o x ids j).2.1 ls → (∀ p ∈ owin o ls, Wr M p.1 p.2.1 (p.2.1 + p.2.2)) → AVC M L w (rescat m site o x ids j).1 cs ∧ fits (rescat m site o x ids j).1 o.ty = true ∧ ∀ p ∈ (rescat m site o x ids j).2.1, BlkC M L w p.1 p.2.2 := by
  have len : ∀ {o : OT} {x : o.den} {ids : List (Option Nat)} {j : Nat}, o.plain = true → nleaf o ≤ ids.length → (rescat m site o x ids j).2.1.length = nleaf o ∧ (rescat m site o x ids j).2.2.1 = ids.drop (nleaf o) := by
    intro o
    induction o with
    | v t => intros; exact ⟨rfl, rfl⟩
    | row t =>
      intro x ids j _ hn
      cases ids with
      | nil => simp [nleaf] at hn
      | cons i ids => cases i <;> exact ⟨rfl, rfl⟩
    | pair a b iha ihb =>
      intro x ids j hp hn
      simp only [OT.plain, Bool.and_eq_true] at hp
      simp only [nleaf] at hn
      obtain ⟨h1, h2⟩ := iha (x := x.1) (ids := ids) (j := j) hp.1 (by omega)
      simp only [rescat]
      rw [h2]
      obtain ⟨h3, h4⟩ := ihb (x := x.2) (ids := ids.drop (nleaf a)) (j := (rescat m site a x.1 ids j).2.2.2) hp.2 (by simp; omega)
      refine ⟨by simp [h1, h3, nleaf], ?_⟩
      rw [h4, List.drop_drop, nleaf]
    | unit => intros; exact ⟨rfl, rfl⟩
    | ref o _ => intro x ids j hp; simp [OT.plain] at hp
  intro o
  induction o with
  | v t => rintro x ids j cs ls _ ⟨rfl, hr⟩ _ _ _; exact ⟨hr.mono fun b hb => ⟨hA b hb, rfl⟩, by simp [rescat, fits, OT.ty], by simp [rescat]⟩
  | row t =>
    rintro x ids j cs ls _ ⟨l, rfl, rfl, hr⟩ hn hl hw
    cases ids with
    | nil => simp [nleaf] at hn
    | cons i ids =>
      cases i with
      | none =>
        have hL := hl.ent (sid site j, (m (sid site j)).1 + 1, .rowb t x) (by simp [rescat])
        have hι : M.ι (sid site j) = l := by have := hl.pl; simpa [rescat, fsts] using this
        have := row_laid hr hA hL hι (hl.own _ (by simp [rescat, fsts])) hw
        refine ⟨this.1, rfl, ?_⟩
        intro p hp
        simp only [rescat, List.mem_singleton] at hp
        subst hp
        exact this.2
      | some i =>
        have hL := hl.ent (i, (m i).1 + 1, .rowb t x) (by simp [rescat])
        have hι : M.ι i = l := by have := hl.pl; simpa [rescat, fsts] using this
        have := row_laid hr hA hL hι (hl.own _ (by simp [rescat, fsts])) hw
        refine ⟨this.1, rfl, ?_⟩
        intro p hp
        simp only [rescat, List.mem_singleton] at hp
        subst hp
        exact this.2
  | pair a b iha ihb =>
    rintro x ids j cs ls hok ⟨c1, c2, l1, l2, rfl, rfl, h1, h2⟩ hn hl hw
    simp only [OT.plain, Bool.and_eq_true] at hok
    simp only [nleaf] at hn
    obtain ⟨e1, e2⟩ := len (x := x.1) (ids := ids) (j := j) hok.1 (by omega)
    simp only [rescat] at hl ⊢
    obtain ⟨d1, d2⟩ := hl.split (by rw [e1, h1.nleaf])
    rw [owin_pair h1] at hw
    obtain ⟨p1, p2, p4⟩ := iha hok.1 h1 (by omega) d1 fun p hp => hw p (List.mem_append_left _ hp)
    obtain ⟨q1, q2, q4⟩ := ihb hok.2 h2 (by rw [e2]; simp; omega) d2 fun p hp => hw p (List.mem_append_right _ hp)
    refine ⟨⟨c1, c2, rfl, p1, q1⟩, by simp [fits, OT.ty, p2, q2], ?_⟩
    intro p hp
    rcases List.mem_append.1 hp with hp | hp
    · exact p4 p hp
    · exact q4 p hp
  | unit => rintro x ids j cs ls _ ⟨rfl, rfl⟩ _ _ _; exact ⟨rfl, rfl, by simp [rescat]⟩
  | ref o _ => intro x ids j cs ls hp; simp [OT.plain] at hp

theorem rescat_length {m : Lk} {site : Nat} : ∀ {o : OT} {x : o.den} {ids : List (Option Nat)} {j : Nat}, o.plain = true → nleaf o ≤ ids.length → (rescat m site o x ids j).2.1.length = nleaf o ∧ (rescat m site o x ids j).2.2.1 = ids.drop (nleaf o) := by
  intro o
  induction o with
  | v t => intros; exact ⟨rfl, rfl⟩
  | row t =>
    intro x ids j _ hn
    cases ids with
    | nil => simp [nleaf] at hn
    | cons i ids => cases i <;> exact ⟨rfl, rfl⟩
  | pair a b iha ihb =>
    intro x ids j hp hn
    simp only [OT.plain, Bool.and_eq_true] at hp
    simp only [nleaf] at hn
    obtain ⟨h1, h2⟩ := iha (x := x.1) (ids := ids) (j := j) hp.1 (by omega)
    simp only [rescat]
    rw [h2]
    obtain ⟨h3, h4⟩ := ihb (x := x.2) (ids := ids.drop (nleaf a)) (j := (rescat m site a x.1 ids j).2.2.2) hp.2 (by simp; omega)
    refine ⟨by simp [h1, h3, nleaf], ?_⟩
    rw [h4, List.drop_drop, nleaf]
  | unit => intros; exact ⟨rfl, rfl⟩
  | ref o _ => intro x ids j hp; simp [OT.plain] at hp

/-- the same cells have the same rows -/
theorem orep_same {A A' : Nat → Prop} {w w' : World} : ∀ {o : OT} {x y : o.den} {cs : List Value} {ls ls' : List Leaf}, o.plain = true → ORep A w o x cs ls → ORep A' w' o y cs ls' → ls = ls' := by
  intro o
  induction o with
  | v t => rintro x y cs ls ls' _ ⟨rfl, _⟩ ⟨rfl, _⟩; rfl
  | row t =>
    rintro x y cs ls ls' _ ⟨l, rfl, rfl, _⟩ ⟨l', rfl, e, _⟩
    simp only [List.cons.injEq, and_true] at e
    cases l <;> cases l' <;> simp [hdr] at e
    · rfl
    · obtain ⟨e1, _, e2⟩ := e
      rename_i p q
      congr 1
      congr 1
      exact Prod.ext e1 e2
  | pair a b iha ihb =>
    rintro x y cs ls ls' hp ⟨c1, c2, l1, l2, rfl, rfl, h1, h2⟩ ⟨d1, d2, k1, k2, e, rfl, g1, g2⟩
    simp only [OT.plain, Bool.and_eq_true] at hp
    have := List.append_inj e (by rw [h1.length, g1.length])
    obtain ⟨rfl, rfl⟩ := this
    rw [iha hp.1 h1 g1, ihb hp.2 h2 g2]
  | unit => rintro x y cs ls ls' _ ⟨_, rfl⟩ ⟨_, rfl⟩; rfl
  | ref o _ => intro x y cs ls ls' hp; simp [OT.plain] at hp
theorem toV_inj {agg : Bool} {cs ds : List Value} (h : toV agg cs = toV agg ds) (h1 : agg = false → cs.length = 1 ∧ ds.length = 1) : cs = ds := by
  cases agg with
  | true => simp [toV] at h; exact h
  | false =>
    obtain ⟨h2, h3⟩ := h1 rfl
    match cs, h2, ds, h3 with
    | [a], _, [b], _ => simp [toV] at h; rw [h]
theorem agg_size {A : Nat → Prop} {w : World} {o : OT} {x : o.den} {cs : List Value} {ls : List Leaf} (h : ORep A w o x cs ls) : o.agg = false → cs.length = 1 := by
  intro ha
  rw [h.length]
  cases o with
  | v t => exact size_one ha
  | row t => rfl
  | ref o => rfl
  | _ => simp [OT.agg] at ha
end Go.Vi

set_option autoImplicit false
set_option linter.unusedVariables false
set_option linter.unusedSimpArgs false
namespace Go.Vi
open Go
/-! ## The arguments of a call -/
def ListR (M : Ms) (L : Lk) (w : World) : List AV → List Value → Prop
  | [], [] => True
  | a :: l, v :: k => AVR M L w a v ∧ ListR M L w l k
  | _, _ => False
theorem listR_of {M : Ms} {L : Lk} {w : World} {ev : Operand → AV} {ρ : Operand → Value} (h : ∀ x, AVR M L w (ev x) (ρ x)) : ∀ l : List Operand, ListR M L w (l.map ev) (l.map ρ)
  | [] => trivial
  | x :: l => ⟨h x, listR_of h l⟩
/-- how what was gathered lies in the caller's memory -/
def AIL (M : Ms) (L : Lk) : (ps : List PM) → (insOT ps).den → List AI → List Leaf → Prop
  | [], _, l, ls => l = [] ∧ ls = []
  | .ro _ :: ps, x, a :: l, ls => a.ptr = none ∧ a.leaf = [] ∧ AIL M L ps x.2 l ls
  | .io o :: ps, x, a :: l, ls => a.ptr = none ∧ OwnV L o x.1 a.leaf ∧ ∃ l2, ls = lmap M a.leaf ++ l2 ∧ AIL M L ps x.2 l l2
  | .mv o :: ps, x, a :: l, ls => a.ptr = none ∧ OwnV L o x.1 a.leaf ∧ ∃ l2, ls = lmap M a.leaf ++ l2 ∧ AIL M L ps x.2 l l2
  | .ptr o :: ps, x, a :: l, ls => OwnV L o x.1 a.leaf ∧ (∃ id ver p bt c b off d, a.ptr = some (id, ver, p, bt, c) ∧ L id = (ver, .box bt c) ∧ M.ι id = some (b, off) ∧ offT bt p = some (d, o.ty) ∧
      ∃ l2, ls = (some (b, off + d) :: lmap M a.leaf) ++ l2 ∧ AIL M L ps x.2 l l2)
  | .fn _ :: ps, x, a :: l, ls => a.ptr = none ∧ a.leaf = [] ∧ AIL M L ps x l ls
  | _, _, [], _ => False
theorem Wr.sub {M : Ms} {b lo hi lo' hi' : Nat} (h : Wr M b lo hi) (h1 : lo ≤ lo') (h2 : hi' ≤ hi) : Wr M b lo' hi' := by
  rcases h with h | ⟨p, hp, a, b, c⟩
  · exact .inl h
  · exact .inr ⟨p, hp, a, by omega, by omega⟩
theorem gatherK_av {m : Lk} {R : Type} {r : R} {o : OT} {a : AV} {K : o.den → List (Option Nat) → List Nat → Option R} (h : gatherK m o a K = some r) {M : Ms} {L : Lk} {w : World} {v : Value} (hv : AVR M L w a v) : ∃ cs, AVC M L w a cs ∧ v = toV (aggAV a) cs := by
  cases a with
  | dead => exfalso; cases o with
    | v t => cases t <;> simp [gatherK, valK] at h
    | _ => simp [gatherK] at h
  | und => exfalso; cases o with
    | v t => cases t <;> simp [gatherK, valK] at h
    | _ => simp [gatherK] at h
  | tup s => exfalso; cases o with
    | v t => cases t <;> simp [gatherK, valK] at h
    | _ => simp [gatherK] at h
  | _ => exact hv
theorem pwin_io {A : Nat → Prop} {w : World} {o : OT} {x : o.den} {cs : List Value} {l1 : List Leaf} (h : ORep A w o x cs l1) (ps : List PM) (l2 : List Leaf) : owin o (l1 ++ l2) ++ pwin ps ((l1 ++ l2).drop (nleaf o)) = owin o l1 ++ pwin ps l2 := by
  rw [owin_append h, ← h.nleaf, List.drop_left]
theorem gArgs_ok {m : Lk} {R : Type} {r : R} : ∀ {ps : List PM} {as_ : List AV} {K : (insOT ps).den → List AI → Option R}, gArgs m ps as_ K = some r →
    ∃ x l, K x l = some r ∧ (∀ i ∈ roIds l, ∃ (s : Ty) (xs : List s.den), (m i).2 = .rowb s xs) ∧ ∀ {M : Ms} {L : Lk} {w : World} {vs : List Value}, Msk m L → WInv M L w → ListR M L w as_ vs → ∀ {A : Nat → Prop}, (∀ b, Fre M w b → A b) → (∀ i ∈ roIds l, ∀ b cap, M.ι i = some (b, cap) → A b) →
      ∃ ls, AIL M L ps x l ls ∧ ArgsAt A w ps x vs ls ∧ ∀ p ∈ pwin ps ls, Wr M p.1 p.2.1 (p.2.1 + p.2.2) := by
  intro ps
  induction ps with
  | nil =>
    intro as_ K h
    cases as_ with
    | cons a l => simp [gArgs] at h
    | nil =>
      simp only [gArgs] at h
      refine ⟨(), [], h, by simp [roIds], ?_⟩
      intro M L w vs hm hw hl A hA hi
      cases vs with
      | cons v vs => exact hl.elim
      | nil => exact ⟨[], ⟨rfl, rfl⟩, ⟨rfl, rfl⟩, by simp [pwin]⟩
  | cons p ps ih =>
    intro as_ K h
    have own : ∀ (o : OT) (a : AV) (as_ : List AV) (K : o.den × (insOT ps).den → List AI → Option R), (gatherK m o a fun x leaf ids => gArgs m ps as_ fun y l => K (x, y) (⟨leaf, ids, none⟩ :: l)) = some r →
        ∃ x l leaf ids, K x (⟨leaf, ids, none⟩ :: l) = some r ∧ (∀ i ∈ roIds (⟨leaf, ids, none⟩ :: l), ∃ (s : Ty) (xs : List s.den), (m i).2 = .rowb s xs) ∧ ∀ {M : Ms} {L : Lk} {w : World} {vs : List Value}, Msk m L → WInv M L w → ListR M L w (a :: as_) vs →
          ∀ {A : Nat → Prop}, (∀ b, Fre M w b → A b) → (∀ i ∈ roIds (⟨leaf, ids, none⟩ :: l), ∀ b cap, M.ι i = some (b, cap) → A b) →
          OwnV L o x.1 leaf ∧ ∃ cs vs' l2, vs = toV o.agg cs :: vs' ∧ ORep A w o x.1 cs (lmap M leaf) ∧ AIL M L ps x.2 l l2 ∧ ArgsAt A w ps x.2 vs' l2 ∧ ∀ p ∈ owin o (lmap M leaf) ++ pwin ps l2, Wr M p.1 p.2.1 (p.2.1 + p.2.2) := by
      intro o a as_ K h
      have hav := fun {M : Ms} {L : Lk} {w : World} {v : Value} => gatherK_av (M := M) (L := L) (w := w) (v := v) h
      obtain ⟨x, leaf, ids, h1, ov, hr, hg, hh⟩ := gatherK_ok h
      obtain ⟨y, l, h2, hr2, hh2⟩ := ih h1
      refine ⟨(x, y), l, leaf, ids, h2, ?_, ?_⟩
      · intro i hi
        rcases List.mem_append.1 hi with hi | hi
        · exact hr i hi
        · exact hr2 i hi
      · intro M L w vs hm hw hl A hA hi
        cases vs with
        | nil => exact hl.elim
        | cons v vs =>
          obtain ⟨cs, hc, rfl⟩ := hav hl.1
          obtain ⟨k1, k2⟩ := hh hm hw hc hA fun i h => hi i (List.mem_append_left _ h)
          obtain ⟨l2, k3, k4, k5⟩ := hh2 hm hw hl.2 hA fun i h => hi i (List.mem_append_right _ h)
          refine ⟨ov.of hm, cs, vs, l2, by rw [hg], k1, k3, k4, ?_⟩
          intro p hp
          rcases List.mem_append.1 hp with hp | hp
          · exact k2 p hp
          · exact k5 p hp
    cases as_ with
    | nil => cases p <;> simp [gArgs] at h
    | cons a as_ =>
      cases p with
      | ro t =>
        simp only [gArgs] at h
        obtain ⟨x, ids, h1, hr, hf, hh⟩ := valK_ok h
        obtain ⟨y, l, h2, hr2, hh2⟩ := ih h1
        refine ⟨(x, y), ⟨[], ids, none⟩ :: l, h2, ?_, ?_⟩
        · intro i hi
          rcases List.mem_append.1 hi with hi | hi
          · exact hr i hi
          · exact hr2 i hi
        · intro M L w vs hm hw hl A hA hi
          cases vs with
          | nil => exact hl.elim
          | cons v vs =>
            obtain ⟨cs, hc, rfl, _, _⟩ := fits_avr hf hl.1
            obtain ⟨l2, k3, k4, k5⟩ := hh2 hm hw hl.2 hA fun i h => hi i (List.mem_append_right _ h)
            exact ⟨l2, ⟨rfl, rfl, k3⟩, ⟨cs, vs, rfl, hh hm hw hc hA fun i h => hi i (List.mem_append_left _ h), k4⟩, k5⟩
      | io o =>
        simp only [gArgs] at h
        obtain ⟨x, l, leaf, ids, h2, hr, hh⟩ := own o a as_ K h
        refine ⟨x, _, h2, hr, ?_⟩
        intro M L w vs hm hw hl A hA hi
        obtain ⟨ov, cs, vs', l2, rfl, k1, k3, k4, k5⟩ := hh hm hw hl hA hi
        exact ⟨lmap M leaf ++ l2, ⟨rfl, ov, l2, rfl, k3⟩, ⟨cs, vs', _, _, rfl, rfl, k1, k4⟩, by simp only [pwin]; rw [pwin_io k1]; exact k5⟩
      | mv o =>
        simp only [gArgs] at h
        obtain ⟨x, l, leaf, ids, h2, hr, hh⟩ := own o a as_ K h
        refine ⟨x, _, h2, hr, ?_⟩
        intro M L w vs hm hw hl A hA hi
        obtain ⟨ov, cs, vs', l2, rfl, k1, k3, k4, k5⟩ := hh hm hw hl hA hi
        exact ⟨lmap M leaf ++ l2, ⟨rfl, ov, l2, rfl, k3⟩, ⟨cs, vs', _, _, rfl, rfl, k1, k4⟩, by simp only [pwin]; rw [pwin_io k1]; exact k5⟩
      | fn f =>
        cases a with
        | fn g =>
          simp only [gArgs] at h
          replace h := cond_none h
          obtain ⟨hfg, h⟩ := h
          have hfg := Nat.eq_of_beq_eq_true hfg
          subst hfg
          obtain ⟨y, l, h2, hr2, hh2⟩ := ih h
          refine ⟨y, _, h2, by simpa [roIds] using hr2, ?_⟩
          intro M L w vs hm hw hl A hA hi
          cases vs with
          | nil => exact hl.elim
          | cons v vs =>
            obtain ⟨l2, k3, k4, k5⟩ := hh2 hm hw hl.2 hA fun i h => hi i (by simpa [roIds] using h)
            exact ⟨l2, ⟨rfl, rfl, k3⟩, ⟨vs, by rw [avr_fn.1 hl.1], k4⟩, k5⟩
        | _ => simp [gArgs] at h
      | ptr o =>
        cases a with
        | ptr id ver p t =>
          simp only [gArgs] at h
          split at h
          · rename_i e
            subst e
            replace h := beq_case h
            obtain ⟨hv, h⟩ := h
            split at h
            · rename_i bt c hc
              obtain ⟨sub, h1, hsub⟩ := getAV_ok h
              obtain ⟨x, leaf, ids, h2, ov, hr, hg, hh⟩ := gatherK_ok h1
              obtain ⟨y, l, h3, hr2, hh2⟩ := ih h2
              refine ⟨(x, y), _, h3, ?_, ?_⟩
              · intro i hi
                rcases List.mem_append.1 hi with hi | hi
                · exact hr i hi
                · exact hr2 i hi
              · intro M L w vs hm hw hl A hA hi
                cases vs with
                | nil => exact hl.elim
                | cons v vs =>
                  obtain ⟨cs0, ⟨k1, k2, k3⟩, rfl⟩ := hl.1
                  have hL := hm.eq (i := id) (by rw [hc]; simp)
                  have hLi : L id = (ver, .box bt c) := by rw [← hL]; exact Prod.ext hv hc
                  have k4 := k3 (by rw [hLi])
                  rw [hLi] at k4
                  obtain ⟨b, off, d, hι, ho, rfl⟩ := k4
                  have hb := hw.blk id
                  rw [hLi] at hb
                  obtain ⟨h0, hκ, kw, cur, el, cs, hop, hav, hcur, _⟩ := box_cells hb hι
                  obtain ⟨hfs, pre, mid, post, rfl, hpl, hmid⟩ := hsub hav h0 ho
                  obtain ⟨g1, g2⟩ := hh hm hw hmid hA fun i h => hi i (List.mem_append_left _ h)
                  obtain ⟨l2, g3, g4, g5⟩ := hh2 hm hw hl.2 hA fun i h => hi i (List.mem_append_right _ h)
                  have href : ORep A w (.ref o) x [.pointer (some ⟨b, off + d, none⟩)] (some (b, off + d) :: lmap M leaf) := by
                    refine ⟨b, off + d, _, rfl, rfl, cur, el, mid, hop, g1, fits_length hfs hmid, fun j v hj => ?_⟩
                    have := hcur (d + j) v (by
                      rw [List.append_assoc, List.getElem?_append_right (by omega), List.getElem?_append_left]
                      · rw [hpl, Nat.add_sub_cancel_left]; exact hj
                      · rw [hpl, Nat.add_sub_cancel_left]
                        rcases Nat.lt_or_ge j mid.length with h | h
                        · exact h
                        · rw [List.getElem?_eq_none h] at hj; simp at hj)
                    rwa [← Nat.add_assoc] at this
                  have hbd := offT_bound ho
                  refine ⟨(some (b, off + d) :: lmap M leaf) ++ l2, ⟨ov.of hm, id, ver, p, bt, c, b, off, d, rfl, hLi, hι, ho, l2, rfl, g3⟩, ⟨_, vs, _, _, rfl, rfl, href, g4⟩, ?_⟩
                  simp only [pwin]
                  rw [pwin_io (o := .ref o) href]
                  intro p hp
                  rcases List.mem_append.1 hp with hp | hp
                  · simp only [owin, List.mem_cons] at hp
                    rcases hp with rfl | hp
                    · show Wr M b (off + d) (off + d + o.ty.size)
                      exact kw.sub (by omega) (by omega)
                    · exact g2 p hp
                  · exact g5 p hp
            · simp at h
          · simp at h
        | _ => simp [gArgs] at h

/-! ## Own blocks stand apart -/
theorem lb_lmap {M : Ms} (l : List (Option Nat)) : lb (lmap M l) = lb ((somes l).map M.ι) := by
  induction l with
  | nil => rfl
  | cons x l ih =>
    cases x with
    | none => simp only [lmap, lb, somes, ih]
    | some i =>
      simp only [lmap, somes, List.map_cons]
      cases M.ι i with
      | none => simp only [lb, ih]
      | some p => simp only [lb, ih]
theorem lb_ids {M : Ms} {ids : List Nat} {b : Nat} (h : b ∈ lb (ids.map M.ι)) : ∃ i ∈ ids, ∃ n, M.ι i = some (b, n) := by
  obtain ⟨n, hn⟩ := mem_lb.1 h
  obtain ⟨i, hi, e⟩ := List.mem_map.1 hn
  exact ⟨i, hi, n, e⟩
theorem lb_ids_nodup {M : Ms} {ids : List Nat} (hn : ids.Nodup) (ho : ∀ i ∈ ids, ∀ b n, M.ι i = some (b, n) → M.κ b = some i) : (lb (ids.map M.ι)).Nodup := by
  induction ids with
  | nil => simp [lb]
  | cons i ids ih =>
    rw [List.nodup_cons] at hn
    have ih := ih hn.2 fun j hj => ho j (List.mem_cons_of_mem _ hj)
    rw [List.map_cons]
    cases hι : M.ι i with
    | none => simpa only [lb] using ih
    | some p =>
      obtain ⟨b, n⟩ := p
      simp only [lb, List.nodup_cons]
      refine ⟨fun h => ?_, ih⟩
      obtain ⟨j, hj, k, hk⟩ := lb_ids h
      have h1 := ho i (by simp) b n hι
      have h2 := ho j (List.mem_cons_of_mem _ hj) b k hk
      rw [h1] at h2
      simp only [Option.some.injEq] at h2
      subst h2
      exact hn.1 hj
/-- the blocks that a call is handed are those of its own numbers -/
theorem ail_lb {M : Ms} {L : Lk} {w : World} (hw : WInv M L w) : ∀ {ps : List PM} {x : (insOT ps).den} {l : List AI} {ls : List Leaf}, AIL M L ps x l ls → lb ls = lb ((ownIds l).map M.ι) ∧ ∀ i ∈ ownIds l, Owned L i := by
  intro ps
  induction ps with
  | nil => rintro x l ls ⟨rfl, rfl⟩; exact ⟨rfl, by simp [ownIds]⟩
  | cons p ps ih =>
    intro x l ls h
    cases l with
    | nil => cases p <;> exact h.elim
    | cons a l =>
      have plain : ∀ {leaf : List (Option Nat)} {ls l2 : List Leaf} {y : (insOT ps).den}, a.ptr = none → a.leaf = leaf → (∀ i ∈ somes leaf, Owned L i) → ls = lmap M leaf ++ l2 → AIL M L ps y l l2 →
          lb ls = lb ((ownIds (a :: l)).map M.ι) ∧ ∀ i ∈ ownIds (a :: l), Owned L i := by
        intro leaf ls l2 y h1 h2 h3 h4 h5
        obtain ⟨e, ho⟩ := ih h5
        simp only [ownIds, h1, h2]
        refine ⟨by rw [h4, lb_append, List.map_append, lb_append, lb_lmap, e], ?_⟩
        intro i hi
        rcases List.mem_append.1 hi with hi | hi
        · exact h3 i hi
        · exact ho i hi
      cases p with
      | ro t => obtain ⟨h1, h2, h3⟩ := h; exact plain (leaf := []) h1 h2 (by simp [somes]) rfl h3
      | fn f => obtain ⟨h1, h2, h3⟩ := h; exact plain (leaf := []) h1 h2 (by simp [somes]) rfl h3
      | io o => obtain ⟨h1, h2, l2, h4, h5⟩ := h; exact plain h1 rfl h2.owned h4 h5
      | mv o => obtain ⟨h1, h2, l2, h4, h5⟩ := h; exact plain h1 rfl h2.owned h4 h5
      | ptr o =>
        obtain ⟨h2, id, ver, p, bt, c, b, off, d, h3, h4, h5, h6, l2, rfl, h8⟩ := h
        obtain ⟨e, ho⟩ := ih h8
        simp only [ownIds, h3]
        refine ⟨?_, ?_⟩
        · rw [lb_append, List.map_append, lb_append, e]
          simp only [List.map_cons, h5, lb, lb_lmap]
        · intro i hi
          rcases List.mem_append.1 hi with hi | hi
          · rcases List.mem_cons.1 hi with rfl | hi
            · exact .inr ⟨bt, c, by rw [h4]⟩
            · exact h2.owned i hi
          · exact ho i hi
end Go.Vi

set_option autoImplicit false
set_option linter.unusedVariables false
set_option linter.unusedSimpArgs false
namespace Go.Vi
open Go
/-! ## What comes back of a call -/
structure OutRes (M : Ms) (L : Lk) (w w' : World) (A : Nat → Prop) (u : Mem) (asg : Asg) (lsO : List Leaf) (wins : Foot) (own : List Nat) : Prop where
  sub : (asg.map (·.1)).Sublist (fsts u)
  lbs : lb (asg.map (·.2)) = lb lsO
  own : ∀ i ∈ own, i ∈ fsts u
  ver : ∀ i e, (i, e) ∈ u → (L i).1 < e.1 ∨ ((L i).1 = e.1 ∧ (∀ l, (i, l) ∈ asg → l = M.ι i) ∧ Compat (L i).2 e.2)
  blk : ∀ {M' : Ms} {L' : Lk}, Later M M' L L' w w' → (∀ p ∈ u, L' p.1 = p.2) → (∀ p ∈ asg, M'.ι p.1 = p.2) → (∀ p ∈ asg, ∀ b n, p.2 = some (b, n) → M'.κ b = some p.1) → (∀ b, A b → Fre M' w' b) →
    (∀ p ∈ wins, Wr M' p.1 p.2.1 (p.2.1 + p.2.2)) → ∀ p ∈ u, BlkC M' L' w' p.1 p.2.2
theorem OutRes.nil {M : Ms} {L : Lk} {w w' : World} {A : Nat → Prop} : OutRes M L w w' A [] [] [] [] [] := ⟨List.Sublist.refl _, rfl, by simp, by simp, by simp⟩
theorem asg_in {u : Mem} {asg : Asg} (h : (asg.map (·.1)).Sublist (fsts u)) {i : Nat} {l : Leaf} (hi : (i, l) ∈ asg) : i ∈ fsts u := h.subset (List.mem_map.2 ⟨_, hi, rfl⟩)
theorem OutRes.append {M : Ms} {L : Lk} {w w' : World} {A : Nat → Prop} {u1 u2 : Mem} {a1 a2 : Asg} {l1 l2 : List Leaf} {w1 w2 : Foot} {o1 o2 : List Nat} (h : OutRes M L w w' A u1 a1 l1 w1 o1) (k : OutRes M L w w' A u2 a2 l2 w2 o2)
    (hn : (fsts (u1 ++ u2)).Nodup) : OutRes M L w w' A (u1 ++ u2) (a1 ++ a2) (l1 ++ l2) (w1 ++ w2) (o1 ++ o2) := by
  rw [fsts_append, List.nodup_append] at hn
  obtain ⟨n1, n2, n3⟩ := hn
  refine ⟨?_, ?_, ?_, ?_, ?_⟩
  · rw [List.map_append, fsts_append]; exact h.sub.append k.sub
  · rw [List.map_append, lb_append, lb_append, h.lbs, k.lbs]
  · intro i hi
    rw [fsts_append]
    rcases List.mem_append.1 hi with hi | hi
    · exact List.mem_append_left _ (h.own i hi)
    · exact List.mem_append_right _ (k.own i hi)
  · intro i e hie
    rcases List.mem_append.1 hie with hie | hie
    · rcases h.ver i e hie with hv | ⟨v1, v2, v3⟩
      · exact .inl hv
      · refine .inr ⟨v1, fun l hl => ?_, v3⟩
        rcases List.mem_append.1 hl with hl | hl
        · exact v2 l hl
        · exact absurd rfl (n3 i (mem_fsts hie) i (asg_in k.sub hl))
    · rcases k.ver i e hie with hv | ⟨v1, v2, v3⟩
      · exact .inl hv
      · refine .inr ⟨v1, fun l hl => ?_, v3⟩
        rcases List.mem_append.1 hl with hl | hl
        · exact absurd rfl (n3 i (asg_in h.sub hl) i (mem_fsts hie))
        · exact v2 l hl
  · intro M' L' hl he hi hk hA hw p hp
    rcases List.mem_append.1 hp with hp | hp
    · exact h.blk hl (fun p hp => he p (List.mem_append_left _ hp)) (fun p hp => hi p (List.mem_append_left _ hp)) (fun p hp => hk p (List.mem_append_left _ hp)) hA (fun p hp => hw p (List.mem_append_left _ hp)) p hp
    · exact k.blk hl (fun p hp => he p (List.mem_append_right _ hp)) (fun p hp => hi p (List.mem_append_right _ hp)) (fun p hp => hk p (List.mem_append_right _ hp)) hA (fun p hp => hw p (List.mem_append_right _ hp)) p hp

/-! rows that keep their place -/
theorem lmap_length (M : Ms) (l : List (Option Nat)) : (lmap M l).length = l.length := by
  induction l with
  | nil => rfl
  | cons x l ih => cases x <;> simp [lmap, ih]
theorem fsts_none (m : Lk) (l : List Nat) : fsts (l.map fun i => (i, (m i).1 + 1, Cont.none)) = l := by
  induction l with
  | nil => rfl
  | cons i l ih => simp [fsts, ih]
theorem go_fst {m L : Lk} : ∀ {o : OT} {x y : o.den} {leaf r : List (Option Nat)}, o.plain = true → OwnV L o x leaf → (outsK.go m o y (leaf ++ r)).2 = r ∧ fsts (outsK.go m o y (leaf ++ r)).1 = somes leaf := by
  intro o
  induction o with
  | v t => rintro x y leaf r _ rfl; exact ⟨rfl, rfl⟩
  | row t => rintro x y leaf r _ (⟨rfl, _⟩ | ⟨i, rfl, _⟩) <;> exact ⟨rfl, rfl⟩
  | pair a b iha ihb =>
    rintro x y leaf r hp ⟨l1, l2, rfl, o1, o2⟩
    simp only [OT.plain, Bool.and_eq_true] at hp
    simp only [outsK.go, List.append_assoc]
    obtain ⟨a1, a2⟩ := iha (y := y.1) (r := l2 ++ r) hp.1 o1
    rw [a1]
    obtain ⟨b1, b2⟩ := ihb (y := y.2) (r := r) hp.2 o2
    exact ⟨b1, by rw [fsts_append, a2, b2, somes_append]⟩
  | unit => rintro x y leaf r _ rfl; exact ⟨rfl, rfl⟩
  | ref o _ => intro x y leaf r hp; simp [OT.plain] at hp
theorem back_ok {m L : Lk} {M : Ms} {w w' : World} {A0 A : Nat → Prop} (hm : Msk m L) : ∀ {o : OT} {x y : o.den} {leaf r : List (Option Nat)} {cs : List Value}, o.plain = true → OwnV L o x leaf → (∀ i ∈ somes leaf, m i = L i) → ORep A0 w o x cs (lmap M leaf) → ORep A w' o y cs (lmap M leaf) →
    (outsK.go m o y (leaf ++ r)).2 = r ∧ fsts (outsK.go m o y (leaf ++ r)).1 = somes leaf ∧ (∀ i e, (i, e) ∈ (outsK.go m o y (leaf ++ r)).1 → (L i).1 = e.1 ∧ Compat (L i).2 e.2) ∧
    ∀ {M' : Ms} {L' : Lk}, (∀ p ∈ (outsK.go m o y (leaf ++ r)).1, L' p.1 = p.2) → (∀ i ∈ somes leaf, M'.ι i = M.ι i) → (∀ i ∈ somes leaf, ∀ b n, M.ι i = some (b, n) → M'.κ b = some i) → (∀ b, A b → Fre M' w' b) →
      (∀ p ∈ owin o (lmap M leaf), Wr M' p.1 p.2.1 (p.2.1 + p.2.2)) → ∀ p ∈ (outsK.go m o y (leaf ++ r)).1, BlkC M' L' w' p.1 p.2.2 := by
  intro o
  induction o with
  | v t => rintro x y leaf r cs _ rfl _ _ _; exact ⟨rfl, rfl, by simp [outsK.go], by simp [outsK.go]⟩
  | row t =>
    rintro x y leaf r cs _ (⟨rfl, hx⟩ | ⟨i, rfl, hc⟩) hmi h1 h2
    · exact ⟨rfl, rfl, by simp [outsK.go], by simp [outsK.go]⟩
    · obtain ⟨l, e1, e2, r1⟩ := h1
      obtain ⟨l', e3, e4, r2⟩ := h2
      simp only [lmap, List.cons.injEq, and_true] at e1 e3
      subst e1 e3
      have hlen : List.length x = List.length y := by
        rw [e2] at e4
        simp only [List.cons.injEq, and_true] at e4
        cases hι : M.ι i with
        | none =>
          obtain ⟨_, r1⟩ := r1
          obtain ⟨_, r2⟩ := r2
          rcases r1 with r1 | ⟨b, cap, cur, el, k, _⟩
          · rcases r2 with r2 | ⟨b, cap, cur, el, k, _⟩
            · rw [r1.2, r2.2]
            · rw [hι] at k; simp at k
          · rw [hι] at k; simp at k
        | some p => rw [hι] at e4; simp [hdr] at e4; exact e4
      refine ⟨rfl, rfl, ?_, ?_⟩
      · intro j e hje
        simp only [outsK.go, List.cons_append, List.nil_append, List.mem_singleton, Prod.mk.injEq] at hje
        obtain ⟨rfl, rfl⟩ := hje
        refine ⟨by rw [hmi j (by simp [somes])], ?_⟩
        rw [hc]
        exact ⟨rfl, hlen⟩
      · intro M' L' he hι hκ hA hw p hp
        simp only [outsK.go, List.cons_append, List.nil_append, List.mem_singleton] at hp he
        subst hp
        have hL := he _ rfl
        refine (row_laid r2 hA hL (hι i (by simp [somes])) (fun b n hb => ?_) hw).2
        rw [hι i (by simp [somes])] at hb
        exact hκ i (by simp [somes]) b n hb
  | pair a b iha ihb =>
    rintro x y leaf r cs hp ⟨l1, l2, rfl, o1, o2⟩ hmi h1 h2
    simp only [OT.plain, Bool.and_eq_true] at hp
    rw [somes_append] at hmi
    rw [lmap_append] at h1 h2
    obtain ⟨c1, c2, k1, k2, rfl, e, p1, p2⟩ := h1
    obtain ⟨d1, d2, g1, g2, e', e'', q1, q2⟩ := h2
    have z1 : k1 = lmap M l1 ∧ k2 = lmap M l2 := by
      have hl : (lmap M l1).length = k1.length := by
        rw [p1.nleaf, ← o1.length, lmap_length]
      have := List.append_inj e hl
      exact ⟨this.1.symm, this.2.symm⟩
    obtain ⟨rfl, rfl⟩ := z1
    have z2 : g1 = lmap M l1 ∧ g2 = lmap M l2 := by
      have := List.append_inj e'' (by rw [q1.nleaf, p1.nleaf])
      exact ⟨this.1.symm, this.2.symm⟩
    obtain ⟨rfl, rfl⟩ := z2
    have z3 := List.append_inj e' (by rw [p1.length, q1.length])
    obtain ⟨rfl, rfl⟩ := z3
    obtain ⟨a1, a2, a3, a4⟩ := iha (r := l2 ++ r) hp.1 o1 (fun i hi => hmi i (List.mem_append_left _ hi)) p1 q1
    obtain ⟨b1, b2, b3, b4⟩ := ihb (r := r) hp.2 o2 (fun i hi => hmi i (List.mem_append_right _ hi)) p2 q2
    simp only [outsK.go, List.append_assoc]
    rw [a1]
    refine ⟨b1, by rw [fsts_append, a2, b2, somes_append], ?_, ?_⟩
    · intro i e hie
      rcases List.mem_append.1 hie with hie | hie
      · exact a3 i e hie
      · exact b3 i e hie
    · intro M' L' he hι hκ hA hw p hp
      rw [lmap_append, owin_pair p1] at hw
      rw [somes_append] at hι hκ
      rcases List.mem_append.1 hp with hp | hp
      · exact a4 (fun p hp => he p (List.mem_append_left _ hp)) (fun i hi => hι i (List.mem_append_left _ hi)) (fun i hi => hκ i (List.mem_append_left _ hi)) hA (fun p hp => hw p (List.mem_append_left _ hp)) p hp
      · exact b4 (fun p hp => he p (List.mem_append_right _ hp)) (fun i hi => hι i (List.mem_append_right _ hi)) (fun i hi => hκ i (List.mem_append_right _ hi)) hA (fun p hp => hw p (List.mem_append_right _ hp)) p hp
  | unit => rintro x y leaf r cs _ rfl _ _ _; exact ⟨rfl, rfl, by simp [outsK.go], by simp [outsK.go]⟩
  | ref o _ => intro x y leaf r cs hp; simp [OT.plain] at hp

theorem rescat_ver {m : Lk} {site : Nat} : ∀ {o : OT} {x : o.den} {ids : List (Option Nat)} {j : Nat} {i : Nat} {e : Nat × Cont}, (i, e) ∈ (rescat m site o x ids j).2.1 → e.1 = (m i).1 + 1 := by
  intro o
  induction o with
  | row t =>
    intro x ids j i e h
    cases ids with
    | nil => simp [rescat] at h
    | cons k ids => cases k <;> simp [rescat] at h <;> (obtain ⟨rfl, rfl⟩ := h; rfl)
  | pair a b iha ihb =>
    intro x ids j i e h
    simp only [rescat] at h
    rcases List.mem_append.1 h with h | h
    · exact iha h
    · exact ihb h
  | _ => intro x ids j i e h; simp [rescat] at h
theorem rescat_has {m : Lk} {site : Nat} : ∀ {o : OT} {x : o.den} {ids : List (Option Nat)} {j : Nat}, o.plain = true → ids.length = nleaf o → ∀ i ∈ somes ids, i ∈ fsts (rescat m site o x ids j).2.1 := by
  have key : ∀ {o : OT} {x : o.den} {ids : List (Option Nat)} {j : Nat}, o.plain = true → nleaf o ≤ ids.length → ∀ i ∈ somes (ids.take (nleaf o)), i ∈ fsts (rescat m site o x ids j).2.1 := by
    intro o
    induction o with
    | v t => intro x ids j _ _ i hi; simp [nleaf, somes] at hi
    | row t =>
      intro x ids j _ hn i hi
      cases ids with
      | nil => simp [nleaf] at hn
      | cons k ids => cases k <;> simp [nleaf, somes] at hi; subst hi; simp [rescat, fsts]
    | pair a b iha ihb =>
      intro x ids j hp hn i hi
      simp only [OT.plain, Bool.and_eq_true] at hp
      simp only [nleaf] at hn hi
      simp only [rescat, fsts_append]
      rw [(rescat_length (x := x.1) hp.1 (by omega)).2]
      rw [List.take_add, somes_append] at hi
      rcases List.mem_append.1 hi with hi | hi
      · exact List.mem_append_left _ (iha hp.1 (by omega) i hi)
      · exact List.mem_append_right _ (ihb hp.2 (by simp; omega) i hi)
    | unit => intro x ids j _ _ i hi; simp [nleaf, somes] at hi
    | ref o _ => intro x ids j hp; simp [OT.plain] at hp
  intro o x ids j hp hl i hi
  refine key hp (by omega) i ?_
  rwa [← hl, List.take_length]
theorem zip_fst {α β : Type} : ∀ {a : List α} {b : List β}, a.length = b.length → (a.zip b).map (·.1) = a
  | [], [], _ => rfl
  | x :: a, y :: b, h => by simp at h; simp [zip_fst h]
  | [], _ :: _, h => by simp at h
  | _ :: _, [], h => by simp at h
theorem zip_snd {α β : Type} : ∀ {a : List α} {b : List β}, a.length = b.length → (a.zip b).map (·.2) = b
  | [], [], _ => rfl
  | x :: a, y :: b, h => by simp at h; simp [zip_snd h]
  | [], _ :: _, h => by simp at h
  | _ :: _, [], h => by simp at h
theorem zip_map {M : Ms} : ∀ {a : List Nat} {b : List Leaf}, a.length = b.length → (∀ p ∈ a.zip b, M.ι p.1 = p.2) → a.map M.ι = b
  | [], [], _, _ => rfl
  | x :: a, y :: b, h, k => by
    simp at h
    simp only [List.zip_cons_cons, List.mem_cons, forall_eq_or_imp] at k
    rw [List.map_cons, k.1, zip_map h k.2]
  | [], _ :: _, h, _ => by simp at h
  | _ :: _, [], h, _ => by simp at h
/-- numbers and places, side by side, lay what they tell -/
theorem laid_zip {M' : Ms} {L' : Lk} {u : Mem} {ls : List Leaf} (hl : u.length = ls.length) (he : ∀ p ∈ u, L' p.1 = p.2) (hi : ∀ p ∈ (fsts u).zip ls, M'.ι p.1 = p.2) (hk : ∀ p ∈ (fsts u).zip ls, ∀ b n, p.2 = some (b, n) → M'.κ b = some p.1) : Laid M' L' u ls := by
  have hl' : (fsts u).length = ls.length := by rw [fsts_length, hl]
  refine ⟨he, zip_map hl' hi, ?_⟩
  intro i hi' b n hb
  have : ∃ l, (i, l) ∈ (fsts u).zip ls := by
    have := zip_fst hl'
    rw [← this] at hi'
    obtain ⟨p, hp, rfl⟩ := List.mem_map.1 hi'
    exact ⟨p.2, hp⟩
  obtain ⟨l, hil⟩ := this
  have e := hi _ hil
  simp only at e
  exact hk _ hil b n (by rw [← e]; exact hb)

theorem outsK_ok {m : Lk} {site : Nat} {R : Type} {r : R} : ∀ {ps : List PM} {y : (outsOT ps).den} {l : List AI} {j : Nat} {K : Mem → Option R}, outsK m site ps y l j K = some r → okPs ps = true →
    ∃ u, K u = some r ∧ ∀ {M : Ms} {L : Lk} {w w' : World} {x : (insOT ps).den} {vs : List Value} {ls lsO : List Leaf} {A0 A : Nat → Prop} {E : Foot}, Msk m L → (∀ i ∈ fsts u, m i = L i) → (fsts u).Nodup → WInv M L w → AIL M L ps x l ls → ArgsAt A0 w ps x vs ls → OutsAt A w' ps y vs lsO →
      Frame w E w' → (∀ p ∈ pwin ps ls, p ∈ E) → ∃ asg, OutRes M L w w' A u asg lsO (outwin ps lsO) (ownIds l) := by
  intro ps
  induction ps with
  | nil =>
    intro y l j K h _
    simp only [outsK] at h
    refine ⟨[], h, ?_⟩
    intro M L w w' x vs ls lsO A0 A E hm hmu hn hw ha hargs ho hf hE
    obtain ⟨rfl, rfl⟩ := ha
    have : lsO = [] := by cases vs <;> exact ho
    subst this
    exact ⟨[], OutRes.nil⟩
  | cons p ps ih =>
    intro y l j K h hok
    simp only [okPs, Bool.and_eq_true] at hok
    cases l with
    | nil => cases p <;> simp [outsK] at h
    | cons a l =>
      cases p with
      | ro t =>
        simp only [outsK] at h
        obtain ⟨u, hk, hh⟩ := ih h hok.2
        refine ⟨u, hk, ?_⟩
        intro M L w w' x vs ls lsO A0 A E hm hmu hn hw ha hargs ho hf hE
        obtain ⟨h1, h2, h3⟩ := ha
        obtain ⟨cs, vs', rfl, _, h4⟩ := hargs
        obtain ⟨asg, hr⟩ := hh hm hmu hn hw h3 h4 ho hf hE
        refine ⟨asg, ?_⟩
        simpa [ownIds, h1, h2, somes, outwin] using hr
      | fn f =>
        simp only [outsK] at h
        obtain ⟨u, hk, hh⟩ := ih h hok.2
        refine ⟨u, hk, ?_⟩
        intro M L w w' x vs ls lsO A0 A E hm hmu hn hw ha hargs ho hf hE
        obtain ⟨h1, h2, h3⟩ := ha
        obtain ⟨vs', rfl, h4⟩ := hargs
        obtain ⟨asg, hr⟩ := hh hm hmu hn hw h3 h4 ho hf hE
        refine ⟨asg, ?_⟩
        simpa [ownIds, h1, h2, somes, outwin] using hr
      | mv o =>
        simp only [outsK] at h
        obtain ⟨u, hk, hh⟩ := ih h hok.2
        refine ⟨_, hk, ?_⟩
        intro M L w w' x vs ls lsO A0 A E hm hmu hn hw ha hargs ho hf hE
        obtain ⟨h1, h2, l2, rfl, h3⟩ := ha
        obtain ⟨cs, vs', k1, k2, rfl, e, hor, h4⟩ := hargs
        have e1 := List.append_inj e (by rw [hor.nleaf, ← h2.length, lmap_length])
        obtain ⟨rfl, rfl⟩ := e1
        have hf1 : fsts ((somes a.leaf).map fun i => (i, (m i).1 + 1, Cont.none)) = somes a.leaf := by
          exact fsts_none m _
        rw [fsts_append] at hmu
        have hn2 := hn
        rw [fsts_append, List.nodup_append] at hn2
        obtain ⟨asg, hr⟩ := hh hm (fun i hi => hmu i (List.mem_append_right _ hi)) hn2.2.1 hw h3 h4 ho hf (fun p hp => hE p (by simp only [pwin]; rw [pwin_io hor]; exact List.mem_append_right _ hp))
        have hmv : OutRes M L w w' A ((somes a.leaf).map fun i => (i, (m i).1 + 1, Cont.none)) [] [] [] (somes a.leaf) := by
          refine ⟨by simp, rfl, by rw [hf1]; exact fun i hi => hi, ?_, ?_⟩
          · intro i e hie
            obtain ⟨k, hk', e⟩ := List.mem_map.1 hie
            simp only [Prod.mk.injEq] at e
            obtain ⟨rfl, rfl⟩ := e
            left
            rw [hmu k (List.mem_append_left _ (by rw [hf1]; exact hk'))]
            exact Nat.lt_succ_self _
          · intro M' L' _ _ _ _ _ _ p hp
            obtain ⟨k, hk', rfl⟩ := List.mem_map.1 hp
            trivial
        refine ⟨asg, ?_⟩
        have := hmv.append hr hn
        simpa [ownIds, h1, outwin] using this
      | io o =>
        simp only [outsK] at h
        obtain ⟨u, hk, hh⟩ := ih h hok.2
        refine ⟨_, hk, ?_⟩
        intro M L w w' x vs ls lsO A0 A E hm hmu hn hw ha hargs ho hf hE
        obtain ⟨h1, h2, l2, rfl, h3⟩ := ha
        obtain ⟨cs, vs', k1, k2, rfl, e, hor, h4⟩ := hargs
        have e1 := List.append_inj e (by rw [hor.nleaf, ← h2.length, lmap_length])
        obtain ⟨rfl, rfl⟩ := e1
        obtain ⟨cs', g1, g2, ev, rfl, hor', ho⟩ := ho
        have hcs := toV_inj ev fun hag => ⟨agg_size hor hag, agg_size hor' hag⟩
        subst hcs
        have hg := orep_same hok.1 hor hor'
        subst hg
        simp only [outsK.backs] at hk hmu hn ⊢
        rw [fsts_append] at hmu
        have hn2 := hn
        rw [fsts_append, List.nodup_append] at hn2
        have hap : a.leaf ++ [] = a.leaf := List.append_nil _
        have hmu1 := fun i hi => hmu i (List.mem_append_left _ hi)
        have hfst : fsts (outsK.go m o y.1 a.leaf).1 = somes a.leaf := by
          have := (go_fst (m := m) (y := y.1) (r := []) hok.1 h2).2
          rwa [hap] at this
        have bk := back_ok (r := []) (A0 := A0) (A := A) (w := w) (w' := w') (M := M) hm hok.1 h2 (fun i hi => hmu1 i (by rw [hfst]; exact hi)) hor hor'
        rw [hap] at bk
        obtain ⟨_, b2, b3, b4⟩ := bk
        obtain ⟨asg, hr⟩ := hh hm (fun i hi => hmu i (List.mem_append_right _ hi)) hn2.2.1 hw h3 h4 ho hf (fun p hp => hE p (by simp only [pwin]; rw [pwin_io hor]; exact List.mem_append_right _ hp))
        have hio : OutRes M L w w' A (outsK.go m o y.1 a.leaf).1 ((somes a.leaf).map fun i => (i, M.ι i)) (lmap M a.leaf) (owin o (lmap M a.leaf)) (somes a.leaf) := by
          refine ⟨?_, ?_, by rw [b2]; exact fun i hi => hi, ?_, ?_⟩
          · rw [b2, List.map_map]
            have : ((fun x : Nat × Leaf => x.1) ∘ fun i => (i, M.ι i)) = id := rfl
            rw [this, List.map_id]
            exact List.Sublist.refl _
          · rw [lb_lmap, List.map_map]; rfl
          · intro i e hie
            obtain ⟨v1, v2⟩ := b3 i e hie
            refine .inr ⟨v1, fun l hl => ?_, v2⟩
            obtain ⟨k, _, e⟩ := List.mem_map.1 hl
            simp only [Prod.mk.injEq] at e
            obtain ⟨rfl, rfl⟩ := e
            rfl
          · intro M' L' _ he hi hk hA hw p hp
            refine b4 he (fun i hi' => hi (i, M.ι i) (List.mem_map.2 ⟨i, hi', rfl⟩)) (fun i hi' b n hb => hk (i, M.ι i) (List.mem_map.2 ⟨i, hi', rfl⟩) b n hb) hA hw p hp
        have := hio.append hr hn
        refine ⟨(somes a.leaf).map (fun i => (i, M.ι i)) ++ asg, ?_⟩
        simp only [outwin]
        rw [owin_append hor', ← hor'.nleaf, List.drop_left]
        simpa [ownIds, h1] using this
      | ptr o =>
        simp only [outsK] at h
        split at h
        · rename_i id ver p bt c hptr
          obtain ⟨c', h1, hset⟩ := setAV_ok h
          obtain ⟨u, hk, hh⟩ := ih h1 hok.2
          refine ⟨_, hk, ?_⟩
          intro M L w w' x vs ls lsO A0 A E hm hmu hn hw ha hargs ho hf hE
          obtain ⟨h2, id', ver', p', bt', c'', b, off, d, hp', hLi, hι, hoff, l2, rfl, h3⟩ := ha
          rw [hptr] at hp'
          simp only [Option.some.injEq, Prod.mk.injEq] at hp'
          obtain ⟨rfl, rfl, rfl, rfl, rfl⟩ := hp'
          obtain ⟨cs, vs', k1, k2, rfl, e, hor, h4⟩ := hargs
          have hlen : (some (b, off + d) :: lmap M a.leaf).length = k1.length := by
            rw [ORep.nleaf (o := .ref o) hor, nleaf, ← h2.length]
            simp only [List.length_cons, lmap_length]
          have e1 := List.append_inj e hlen
          obtain ⟨rfl, rfl⟩ := e1
          obtain ⟨cs', g1, g2, ev, rfl, hor', ho⟩ := ho
          have hcs := toV_inj ev fun hag => ⟨agg_size (o := .ref o) hor hag, agg_size (o := .ref o) hor' hag⟩
          subst hcs
          have horef := hor
          have horef' := hor'
          obtain ⟨b1, o1, ls1, e1, e2, cur1, el1, cs1, op1, or1, len1, cu1⟩ := hor
          obtain ⟨b2, o2, ls2, rfl, e4, cur2, el2, cs2, op2, or2, len2, cu2⟩ := hor'
          rw [e2] at e4
          simp only [List.cons.injEq, Option.some.injEq, Prod.mk.injEq, Value.pointer.injEq, Addr.mk.injEq, and_true] at e1 e4
          obtain ⟨⟨rfl, rfl⟩, rfl⟩ := e1
          obtain ⟨rfl, rfl⟩ := e4
          have hE0 : ((b, off + d, o.ty.size) : Nat × Nat × Nat) ∈ E := hE _ (by simp only [pwin]; rw [pwin_io (o := .ref o) horef]; simp [owin])
          have hres := rescat_length (m := m) (site := site) (x := y.1) (ids := a.leaf) (j := j) hok.1 (by rw [h2.length]; exact Nat.le_refl _)
          rw [show ((id, ver, Cont.box bt c') :: (rescat m site o y.1 a.leaf j).2.1 ++ u) = ((id, ver, Cont.box bt c') :: (rescat m site o y.1 a.leaf j).2.1) ++ u from rfl] at hmu hn ⊢
          rw [fsts_append] at hmu
          have hn2 := hn
          rw [fsts_append, List.nodup_append] at hn2
          obtain ⟨asg, hr⟩ := hh hm (fun i hi => hmu i (List.mem_append_right _ hi)) hn2.2.1 hw h3 h4 ho hf (fun p hp => hE p (by simp only [pwin]; rw [pwin_io (o := .ref o) horef]; exact List.mem_append_right _ hp))
          have hfl : (fsts (rescat m site o y.1 a.leaf j).2.1).length = ls2.length := by rw [fsts_length, hres.1, or2.nleaf]
          have hn1 := hn2.1
          simp only [fsts, List.nodup_cons] at hn1
          have hptrR : OutRes M L w w' A ((id, ver, Cont.box bt c') :: (rescat m site o y.1 a.leaf j).2.1) ((id, M.ι id) :: (fsts (rescat m site o y.1 a.leaf j).2.1).zip ls2) (some (b, off + d) :: ls2) (owin (.ref o) (some (b, off + d) :: ls2)) (id :: somes a.leaf) := by
            refine ⟨?_, ?_, ?_, ?_, ?_⟩
            · rw [List.map_cons, zip_fst hfl]; exact List.Sublist.refl _
            · rw [List.map_cons, zip_snd hfl, hι]; rfl
            · intro i hi
              simp only [fsts, List.mem_cons] at hi ⊢
              rcases hi with rfl | hi
              · exact .inl rfl
              · exact .inr (rescat_has hok.1 h2.length i hi)
            · intro i e hie
              simp only [List.mem_cons, Prod.mk.injEq] at hie
              rcases hie with ⟨rfl, rfl⟩ | hie
              · refine .inr ⟨by rw [hLi], fun l hl => ?_, by rw [hLi]; exact rfl⟩
                simp only [List.mem_cons, Prod.mk.injEq] at hl
                rcases hl with ⟨_, rfl⟩ | hl
                · rfl
                · exact absurd ((List.of_mem_zip hl).1) hn1.1
              · left
                rw [rescat_ver hie, hmu i (List.mem_append_left _ (by simp only [fsts, List.mem_cons]; exact .inr (mem_fsts hie)))]
                exact Nat.lt_succ_self _
            · intro M' L' hlat he hi hκ hA hwin
              have hlaid : Laid M' L' (rescat m site o y.1 a.leaf j).2.1 ls2 := laid_zip (by rw [hres.1, or2.nleaf]) (fun p hp => he p (List.mem_cons_of_mem _ hp)) (fun p hp => hi p (List.mem_cons_of_mem _ hp)) (fun p hp => hκ p (List.mem_cons_of_mem _ hp))
              simp only [owin, List.mem_cons, forall_eq_or_imp] at hwin
              obtain ⟨r1, r2, r3⟩ := rescat_ok hA hok.1 or2 (by rw [h2.length]; exact Nat.le_refl _) hlaid hwin.2
              have hb := hw.blk id
              rw [hLi] at hb
              obtain ⟨f0, κ0, w0, cur, el, cs, hop, hav, hcur, _⟩ := box_cells hb hι
              obtain ⟨fc, pre, mid, post, rfl, hpl, hml, hnew⟩ := hset hav f0 hoff r2
              have hav' := hnew (M' := M') (L' := L') (w' := w') (fun hx => hlat.rep hx) (fun hx => hlat.avc hx) r1
              have hlenr := fits_length r2 r1
              obtain ⟨c0, c1, el0, fr0, q1, q2, q3, q4⟩ := hf.cut _ hE0
              simp only at q1 q2 q4
              obtain ⟨fr1, hp1, hp2⟩ := hop
              obtain ⟨fr2, hq1, hq2⟩ := op2
              rw [hp1] at q1
              simp only [Option.some.injEq, Obj.cells.injEq] at q1
              obtain ⟨rfl, rfl, rfl⟩ := q1
              rw [hq1] at q2
              simp only [Option.some.injEq, Obj.cells.injEq] at q2
              obtain ⟨rfl, rfl, rfl⟩ := q2
              intro q hq
              simp only [List.mem_cons] at hq
              rcases hq with rfl | hq
              · refine ⟨fc, b, off, cur2, el2, by rw [hi (id, M.ι id) (by simp)]; exact hι, hκ (id, M.ι id) (by simp) b off hι, hlat.wr w0, ⟨fr2, hq1, hq2⟩, _, hav', ?_⟩
                intro k v hk
                by_cases k1 : k < pre.length
                · rw [List.append_assoc, List.getElem?_append_left k1] at hk
                  rw [q4 (off + k) (by omega)]
                  exact hcur k v (by rw [List.append_assoc, List.getElem?_append_left k1]; exact hk)
                · by_cases k2 : k < pre.length + cs2.length
                  · rw [List.append_assoc, List.getElem?_append_right (by omega), List.getElem?_append_left (by omega)] at hk
                    have := cu2 (k - pre.length) v hk
                    rwa [show off + d + (k - pre.length) = off + k by omega] at this
                  · rw [List.getElem?_append_right (by simp; omega)] at hk
                    rw [q4 (off + k) (by omega)]
                    refine hcur k v ?_
                    rw [List.getElem?_append_right (by simp; omega)]
                    simp only [List.length_append] at hk ⊢
                    rw [hml, ← hlenr]
                    exact hk
              · exact r3 q hq
          have := hptrR.append hr hn
          refine ⟨((id, M.ι id) :: (fsts (rescat m site o y.1 a.leaf j).2.1).zip ls2) ++ asg, ?_⟩
          simp only [outwin]
          rw [owin_append (o := .ref o) horef', ← ORep.nleaf (o := .ref o) horef', List.drop_left]
          simp only [ownIds, hptr]
          exact this
        · simp at h
end Go.Vi

set_option autoImplicit false
set_option linter.unusedVariables false
set_option linter.unusedSimpArgs false
namespace Go.Vi
open Go
/-! ## A call -/
theorem avr_of_avc {M : Ms} {L : Lk} {w : World} {a : AV} {cs : List Value} (h : AVC M L w a cs) : AVR M L w a (toV (aggAV a) cs) := by
  cases a with
  | dead => trivial
  | und => exact h.elim
  | tup s => exact h.elim
  | _ => exact ⟨cs, h, rfl⟩
theorem scat_ver {m : Lk} {site : Nat} : ∀ {o : OT} {x : o.den} {j : Nat} {i : Nat} {e : Nat × Cont}, (i, e) ∈ (scat m site o x j).2.1 → e.1 = (m i).1 + 1 := by
  intro o
  induction o with
  | row t => intro x j i e h; simp [scat] at h; obtain ⟨rfl, rfl⟩ := h; rfl
  | pair a b iha ihb =>
    intro x j i e h
    simp only [scat] at h
    rcases List.mem_append.1 h with h | h
    · exact iha h
    · exact ihb h
  | ref o ih =>
    intro x j i e h
    simp only [scat, List.mem_cons, Prod.mk.injEq] at h
    rcases h with ⟨rfl, rfl⟩ | h
    · rfl
    · exact ih h
  | _ => intro x j i e h; simp [scat] at h
theorem rwin_cons {A : Nat → Prop} {w : World} {o : OT} {x : o.den} {cs : List Value} {l1 : List Leaf} (h : ORep A w o x cs l1) (rs : List OT) (l2 : List Leaf) : rwin (o :: rs) (l1 ++ l2) = owin o l1 ++ rwin rs l2 := by
  simp only [rwin]
  rw [owin_append h, ← h.nleaf, List.drop_left]
theorem scat_rs {m : Lk} {site : Nat} {M : Ms} {L : Lk} {w : World} {A : Nat → Prop} (hA : ∀ b, A b → Fre M w b) : ∀ {rs : List OT} {x : (rsOT rs).den} {j : Nat} {vs : List Value} {ls : List Leaf}, okRs rs = true → RsAt A w rs x vs ls → Laid M L (scat m site (rsOT rs) x j).2.1 ls →
    (∀ p ∈ rwin rs ls, Wr M p.1 p.2.1 (p.2.1 + p.2.2)) → TupR M L w (scat m site (rsOT rs) x j).1 vs ∧ (∀ p ∈ (scat m site (rsOT rs) x j).2.1, BlkC M L w p.1 p.2.2) ∧
      (∀ o, rs = [o] → ∀ v, vs = [v] → AVR M L w (resAV rs (scat m site (rsOT rs) x j).1) v) := by
  intro rs
  induction rs with
  | nil => rintro x j vs ls _ ⟨rfl, rfl⟩ _ _; exact ⟨rfl, by simp [scat], by intro o h; simp at h⟩
  | cons o rs ih =>
    rintro x j vs ls hok ⟨cs, vs', l1, l2, rfl, rfl, h1, h2⟩ hl hw
    simp only [okRs, Bool.and_eq_true] at hok
    simp only [rsOT, scat] at hl ⊢
    obtain ⟨d1, d2⟩ := hl.split (by rw [scat_length, h1.nleaf])
    rw [rwin_cons h1] at hw
    obtain ⟨p1, p2, p3, p4⟩ := scat_ok hA hok.1 h1 d1 fun p hp => hw p (List.mem_append_left _ hp)
    obtain ⟨q1, q2, _⟩ := ih hok.2 h2 d2 fun p hp => hw p (List.mem_append_right _ hp)
    refine ⟨⟨_, _, rfl, ⟨cs, p1, by rw [p3]⟩, q1⟩, ?_, ?_⟩
    · intro p hp
      rcases List.mem_append.1 hp with hp | hp
      · exact p4 p hp
      · exact q2 p hp
    · intro o' ho v hv
      simp only [List.cons.injEq] at ho hv
      obtain ⟨rfl, rfl⟩ := ho
      obtain ⟨rfl, _⟩ := hv
      simp only [resAV]
      have := avr_of_avc p1
      rwa [p3] at this
theorem RsAt.length {A : Nat → Prop} {w : World} : ∀ {rs : List OT} {x : (rsOT rs).den} {vs : List Value} {ls : List Leaf}, RsAt A w rs x vs ls → vs.length = rs.length ∧ ls.length = nleaf (rsOT rs) := by
  intro rs
  induction rs with
  | nil => rintro x vs ls ⟨rfl, rfl⟩; exact ⟨rfl, rfl⟩
  | cons o rs ih =>
    rintro x vs ls ⟨cs, vs', l1, l2, rfl, rfl, h1, h2⟩
    obtain ⟨e1, e2⟩ := ih h2
    exact ⟨by simp [e1], by simp [nleaf, h1.nleaf, e2]⟩
theorem RsAt.bare {A A' : Nat → Prop} {w : World} : ∀ {rs : List OT} {x : (rsOT rs).den} {vs : List Value} {ls : List Leaf}, (rsOT rs).leaky = false → RsAt A w rs x vs ls → RsAt A' w rs x vs ls := by
  intro rs
  induction rs with
  | nil => intro x vs ls _ h; exact h
  | cons o rs ih =>
    rintro x vs ls hl ⟨cs, vs', l1, l2, h1, h2, h3, h4⟩
    simp only [rsOT, OT.leaky, Bool.or_eq_false_iff] at hl
    exact ⟨cs, vs', l1, l2, h1, h2, h3.bare hl.1, ih hl.2 h4⟩
theorem OutsAt.bare {A A' : Nat → Prop} {w : World} : ∀ {ps : List PM} {x : (outsOT ps).den} {vs : List Value} {ls : List Leaf}, ptrLeaky ps = false → OutsAt A w ps x vs ls → OutsAt A' w ps x vs ls := by
  intro ps
  induction ps with
  | nil => intro x vs ls _ k; cases vs <;> exact k
  | cons p ps ih =>
    intro x vs ls hl k
    cases vs with
    | nil => cases p <;> exact k.elim
    | cons v vs =>
      cases p with
      | ro t => exact ih hl k
      | io o =>
        simp only [ptrLeaky, Bool.or_eq_false_iff] at hl
        obtain ⟨cs, l1, l2, h1, h2, h3, h4⟩ := k; exact ⟨cs, l1, l2, h1, h2, h3.bare hl.1, ih hl.2 h4⟩
      | mv o => exact ih hl k
      | ptr o =>
        simp only [ptrLeaky, Bool.or_eq_false_iff] at hl
        obtain ⟨cs, l1, l2, h1, h2, h3, h4⟩ := k; exact ⟨cs, l1, l2, h1, h2, ORep.bare (o := .ref o) hl.1 h3, ih hl.2 h4⟩
      | fn f => exact ih hl k
theorem resAV_ok {M : Ms} {L : Lk} {w : World} {rs : List OT} {a : AV} {vs : List Value} (hl : vs.length = rs.length) (ht : TupR M L w a vs) (h1 : ∀ o, rs = [o] → ∀ v, vs = [v] → AVR M L w (resAV rs a) v) : AVR M L w (resAV rs a) (rval vs) := by
  match rs, vs, hl with
  | [], [], _ => trivial
  | [o], [v], _ => exact h1 o rfl v rfl
  | o :: o' :: rs, v :: v' :: vs, _ =>
    have : resAV (o :: o' :: rs) a = .tup a := by cases a <;> rfl
    rw [this]
    exact ⟨_, rfl, ht⟩

theorem callK_ok {P : Program} {GL : List (Nat × GV)} {m : Lk} {d f : Nat} {F : Fn} {as_ : List AV} {R : Type} {r : R} {K : AV → Mem → Option R} (hF : FnOk P GL f F) (h : callK m d F as_ K = some r) :
    ∃ v u, K v u = some r ∧ ∀ {M : Ms} {L : Lk} {w : World} {vs : List Value}, M.X.GL = GL → Msk m L → (∀ i ∈ fsts u, m i = L i) → (fsts u).Nodup → WInv M L w → ListR M L w as_ vs →
      Calls P f vs.toArray w fun e w' => ∃ val M', e = .returned val ∧ Later M M' L (updL L u) w w' ∧ WInv M' (updL L u) w' ∧ AVR M' (updL L u) w' v val := by
  unfold callK at h
  obtain ⟨x, l, h, hro, hargs⟩ := gArgs_ok h
  obtain ⟨hchk, h⟩ := cond_none h
  simp only [Bool.and_eq_true] at hchk
  obtain ⟨⟨hsig, hno⟩, hdj⟩ := hchk
  simp only [Sig.ok, Bool.and_eq_true] at hsig
  have hno := (nodupB_iff _).1 hno
  have hdj := (disjB_iff _ _).1 hdj
  simp only [bnd, Option.bind_eq_some_iff] at h
  obtain ⟨res, hres, h⟩ := h
  obtain ⟨u2, hk, houts⟩ := outsK_ok h hsig.1
  refine ⟨_, _, hk, ?_⟩
  intro M L w vs hGL hm hmu hn hw hvs
  -- what may be read
  let cur (ids : List Nat) (b : Nat) : Prop := ∃ i ∈ ids, M.κ b = some i ∧ ∃ n, M.ι i = some (b, n)
  let hid : Nat → Prop := fun b => M.X.hid b ∨ ((∃ i, M.κ b = some i) ∧ ¬ cur (ownIds l) b ∧ ¬ cur (roIds l) b)
  let A : Nat → Prop := fun b => b < w.heap.size ∧ ¬ hid b ∧ ∀ i ∈ ownIds l, ∀ n, M.ι i ≠ some (b, n)
  have roκ : ∀ i ∈ roIds l, ∀ b n, M.ι i = some (b, n) → M.κ b = some i := by
    intro i hi b n hb
    obtain ⟨s, xs, hc⟩ := hro i hi
    have hL := hm.eq (i := i) (by rw [hc]; simp)
    exact own_of hw (.inl ⟨s, xs, by rw [← hL]; exact hc⟩) hb
  obtain ⟨ls0, ail0, _, _⟩ := hargs hm hw hvs (A := fun _ => True) (fun _ _ => trivial) fun _ _ _ _ _ => trivial
  have ownκ : ∀ i ∈ ownIds l, ∀ b n, M.ι i = some (b, n) → M.κ b = some i := fun i hi b n hb => own_of hw ((ail_lb hw ail0).2 i hi) hb
  have hAF : ∀ b, Fre M w b → A b := by
    rintro b ⟨h1, h2, h3⟩
    refine ⟨h3, ?_, fun i hi n hb => ?_⟩
    · rintro (h | ⟨⟨i, h⟩, _⟩)
      · exact h2 h
      · rw [h1] at h; simp at h
    · have := ownκ i hi b n hb
      rw [h1] at this; simp at this
  have hAR : ∀ i ∈ roIds l, ∀ b cap, M.ι i = some (b, cap) → A b := by
    intro i hi b n hb
    have hκ := roκ i hi b n hb
    have how := hw.own b i hκ
    refine ⟨how.1, ?_, fun j hj n' hb' => ?_⟩
    · rintro (h | ⟨_, _, h⟩)
      · exact how.2.1 h
      · exact h ⟨i, hi, hκ, n, hb⟩
    · have := ownκ j hj b n' hb'
      rw [hκ] at this
      simp only [Option.some.injEq] at this
      subst this
      exact hdj i hi hj
  obtain ⟨ls, ail, hat, hwin⟩ := hargs hm hw hvs hAF hAR
  obtain ⟨elb, howned⟩ := ail_lb hw ail
  have hlbn : (lb ls).Nodup := by rw [elb]; exact lb_ids_nodup hno ownκ
  have hlbo : ∀ b ∈ lb ls, cur (ownIds l) b := by
    intro b hb
    rw [elb] at hb
    obtain ⟨i, hi, n, hn⟩ := lb_ids hb
    exact ⟨i, hi, ownκ i hi b n hn, n, hn⟩
  have hAR2 : ∀ b, A b → Rd w hid ls b := by
    rintro b ⟨h1, h2, h3⟩
    refine ⟨h1, h2, fun hb => ?_⟩
    obtain ⟨i, hi, _, n, hn⟩ := hlbo b hb
    exact h3 i hi n hn
  have hhid : ∀ b, hid b → b < w.heap.size := by
    rintro b (h | ⟨⟨i, h⟩, _⟩)
    · have := hw.hid b h; have := hw.frame.size; omega
    · exact (hw.own b i h).1
  have hlbh : ∀ b ∈ lb ls, ¬ hid b := by
    intro b hb
    have hc := hlbo b hb
    obtain ⟨i, _, hκ, _⟩ := hc
    rintro (h | ⟨_, h, _⟩)
    · exact (hw.own b i hκ).2.1 h
    · exact h (hlbo b hb)
  have hglob : GlobAt GL (Rd w hid ls) w := by
    intro p hp
    rw [← hGL] at hp
    obtain ⟨h1, cs, h2, h3⟩ := hw.glob p hp
    exact ⟨hAR2 _ (hAF _ h1), cs, h2, h3.mono fun b hb => ⟨hAR2 _ (hAF _ hb), rfl⟩⟩
  have hcall := hF.2 x res hres w hid vs.toArray ls (by simpa using hat.mono hAR2) hlbn hhid hlbh hglob
  refine hcall.mono ?_
  rintro e w' ⟨rv, lsR, lsO, rfl, hfr, hnd2, hlb2, hrs, hos, hwins⟩
  -- rows that are read alone from now on
  rw [fsts_append, fsts_append] at hmu hn
  rw [List.nodup_append] at hn
  obtain ⟨hn12, hnf, hn3⟩ := hn
  obtain ⟨Mf, lf, wf, eι, ff⟩ := freeze_step hw (froz_of hm _) hnf
  -- of what is told, what may be read there
  let A1 : Nat → Prop := Rd w' hid (lsR ++ lsO)
  let A2 : Nat → Prop := fun b => F.sig.leaky = true ∧ A1 b
  have hrs2 : RsAt A2 w' F.sig.rs res.1 rv lsR := by
    cases hlk : F.sig.leaky
    · have hlk' := hlk
      simp only [Sig.leaky, Bool.or_eq_false_iff] at hlk'
      exact hrs.bare hlk'.1
    · exact hrs.mono fun b hb => ⟨hlk, hb⟩
  have hos2 : OutsAt A2 w' F.sig.ps res.2 vs lsO := by
    simp only at hos
    cases hlk : F.sig.leaky
    · have hlk' := hlk
      simp only [Sig.leaky, Bool.or_eq_false_iff] at hlk'
      exact hos.bare hlk'.2
    · exact hos.mono fun b hb => ⟨hlk, hb⟩
  have hn12' : (fsts ((scat m d (rsOT F.sig.rs) res.1 0).2.1 ++ u2)).Nodup := by rw [fsts_append]; exact hn12
  have hn1 := (List.nodup_append.1 hn12).1
  have hn2 := (List.nodup_append.1 hn12).2.1
  obtain ⟨asgO, hout⟩ := houts (A := A2) hm (fun i hi => hmu i (List.mem_append_left _ (List.mem_append_right _ hi))) hn2 hw ail hat hos2 hfr (fun p hp => hp)
  obtain ⟨hlen1, hlen2⟩ := hrs2.length
  have hul : (scat m d (rsOT F.sig.rs) res.1 0).2.1.length = lsR.length := by rw [scat_length, hlen2]
  have hul' : (fsts (scat m d (rsOT F.sig.rs) res.1 0).2.1).length = lsR.length := by rw [fsts_length, hul]
  have hresR : OutRes M L w w' A2 (scat m d (rsOT F.sig.rs) res.1 0).2.1 ((fsts (scat m d (rsOT F.sig.rs) res.1 0).2.1).zip lsR) lsR (rwin F.sig.rs lsR) [] := by
    refine ⟨by rw [zip_fst hul']; exact List.Sublist.refl _, by rw [zip_snd hul'], by simp, ?_, ?_⟩
    · intro i e hie
      left
      rw [scat_ver hie, hmu i (List.mem_append_left _ (List.mem_append_left _ (mem_fsts hie)))]
      exact Nat.lt_succ_self _
    · intro M' L' _ he hi hk hA hw'
      exact (scat_rs hA hsig.2 hrs2 (laid_zip hul he hi hk) hw').2.1
  have hall := hresR.append hout hn12'
  -- memory is told anew
  have hLf : ∀ i ∈ fsts ((scat m d (rsOT F.sig.rs) res.1 0).2.1 ++ u2), updL L (storeK.froz m (cond F.sig.leaky (dedup (roIds l)) [])) i = L i := by
    intro i hi
    rw [fsts_append] at hi
    exact updL_not fun h => hn3 i hi i h rfl
  have hlball : lb (((fsts (scat m d (rsOT F.sig.rs) res.1 0).2.1).zip lsR ++ asgO).map (·.2)) = lb (lsR ++ lsO) := hall.lbs
  have hpw : (pwin F.sig.ps ls).map (·.1) = lb ls := by
    have : ∀ {ps : List PM} {x : (insOT ps).den} {vs : List Value} {ls : List Leaf}, ArgsAt A w ps x vs ls → (pwin ps ls).map (·.1) = lb ls := by
      intro ps
      induction ps with
      | nil => rintro x vs ls ⟨_, rfl⟩; rfl
      | cons p ps ih =>
        intro x vs ls h
        cases p with
        | ro t => obtain ⟨cs, vs', _, _, h⟩ := h; exact ih h
        | fn f => obtain ⟨vs', _, h⟩ := h; exact ih h
        | io o => obtain ⟨cs, vs', l1, l2, _, rfl, h1, h2⟩ := h; simp only [pwin]; rw [pwin_io h1, List.map_append, owin_blocks h1, ih h2, lb_append]
        | mv o => obtain ⟨cs, vs', l1, l2, _, rfl, h1, h2⟩ := h; simp only [pwin]; rw [pwin_io h1, List.map_append, owin_blocks h1, ih h2, lb_append]
        | ptr o => obtain ⟨cs, vs', l1, l2, _, rfl, h1, h2⟩ := h; simp only [pwin]; rw [pwin_io (o := .ref o) h1, List.map_append, owin_blocks (o := .ref o) h1, ih h2, lb_append]
    exact this hat
  have hEb : ∀ b, (∃ p ∈ pwin F.sig.ps ls, p.1 = b) ↔ b ∈ lb ls := by
    intro b
    rw [← hpw]
    simp [List.mem_map]
  have howb : (rwin F.sig.rs lsR ++ outwin F.sig.ps lsO).map (·.1) = lb (lsR ++ lsO) := by
    have e1 : ∀ {rs : List OT} {x : (rsOT rs).den} {vs : List Value} {ls : List Leaf}, RsAt A2 w' rs x vs ls → (rwin rs ls).map (·.1) = lb ls := by
      intro rs
      induction rs with
      | nil => rintro x vs ls ⟨_, rfl⟩; rfl
      | cons o rs ih => rintro x vs ls ⟨cs, vs', l1, l2, _, rfl, h1, h2⟩; rw [rwin_cons h1, List.map_append, owin_blocks h1, ih h2, lb_append]
    have e2 : ∀ {ps : List PM} {x : (outsOT ps).den} {vs : List Value} {ls : List Leaf}, OutsAt A2 w' ps x vs ls → (outwin ps ls).map (·.1) = lb ls := by
      intro ps
      induction ps with
      | nil => intro x vs ls h; have : ls = [] := by cases vs <;> exact h
               subst this; rfl
      | cons p ps ih =>
        intro x vs ls h
        cases vs with
        | nil => cases p <;> exact h.elim
        | cons v vs =>
          cases p with
          | ro t => exact ih h
          | fn f => exact ih h
          | mv f => exact ih h
          | io o => obtain ⟨cs, l1, l2, _, rfl, h1, h2⟩ := h; simp only [outwin]; rw [owin_append h1, ← h1.nleaf, List.drop_left, List.map_append, owin_blocks h1, ih h2, lb_append]
          | ptr o => obtain ⟨cs, l1, l2, _, rfl, h1, h2⟩ := h; simp only [outwin]; rw [owin_append (o := .ref o) h1, ← ORep.nleaf (o := .ref o) h1, List.drop_left, List.map_append, owin_blocks (o := .ref o) h1, ih h2, lb_append]
    rw [List.map_append, e1 hrs2, e2 hos2, lb_append]
  have hnewb : ∀ b ∈ lb (lsR ++ lsO), (w.heap.size ≤ b ∧ b < w'.heap.size) ∨ ∃ p ∈ pwin F.sig.ps ls, p.1 = b := by
    intro b hb
    rw [← howb] at hb
    obtain ⟨p, hp, rfl⟩ := List.mem_map.1 hb
    rcases hwins p hp with h | ⟨q, hq, h, _⟩
    · exact .inl ⟨h, (hlb2 _ (by rw [← howb]; exact List.mem_map.2 ⟨p, hp, rfl⟩)).2⟩
    · exact .inr ⟨q, hq, h⟩
  have hEown : ∀ p ∈ pwin F.sig.ps ls, Wr Mf p.1 p.2.1 (p.2.1 + p.2.2) ∧ ∃ i ∈ fsts ((scat m d (rsOT F.sig.rs) res.1 0).2.1 ++ u2), Mf.κ p.1 = some i := by
    intro p hp
    refine ⟨lf.wr (hwin p hp), ?_⟩
    obtain ⟨i, hi, hκ, n, hn⟩ := hlbo p.1 ((hEb p.1).1 ⟨p, hp, rfl⟩)
    have hiu : i ∈ fsts ((scat m d (rsOT F.sig.rs) res.1 0).2.1 ++ u2) := hall.own i (by simpa using hi)
    refine ⟨i, hiu, ?_⟩
    have hb := howned i hi
    have hLi := hLf i hiu
    have := own_of wf (i := i) (b := p.1) (n := n) (by rcases hb with ⟨t, xs, h⟩ | ⟨t, a, h⟩; exact .inl ⟨t, xs, by rw [hLi]; exact h⟩; exact .inr ⟨t, a, by rw [hLi]; exact h⟩) (by rw [eι]; exact hn)
    exact this
  obtain ⟨hlat, hwin'⟩ := rebuild wf hfr hn12' (asg := (fsts (scat m d (rsOT F.sig.rs) res.1 0).2.1).zip lsR ++ asgO)
    (fun i hi => hall.sub.subset hi) (hall.sub.nodup hn12') (by rw [hlball]; exact hnd2) (fun b hb => hnewb b (by rw [hlball] at hb; exact hb)) hEown
    (fun i e hie => by
      have hi := mem_fsts hie
      rw [hLf i hi]
      rcases hall.ver i e hie with h | ⟨h1, h2, h3⟩
      · exact .inl h
      · exact .inr ⟨h1, fun l hl => by rw [eι]; exact h2 l hl, h3⟩)
  have hnas : (((fsts (scat m d (rsOT F.sig.rs) res.1 0).2.1).zip lsR ++ asgO).map (·.1)).Nodup := hall.sub.nodup hn12'
  have hnab : (lb (((fsts (scat m d (rsOT F.sig.rs) res.1 0).2.1).zip lsR ++ asgO).map (·.2))).Nodup := by rw [hlball]; exact hnd2
  have eU : updL L ((scat m d (rsOT F.sig.rs) res.1 0).2.1 ++ u2 ++ storeK.froz m (cond F.sig.leaky (dedup (roIds l)) [])) = updL (updL L (storeK.froz m (cond F.sig.leaky (dedup (roIds l)) []))) ((scat m d (rsOT F.sig.rs) res.1 0).2.1 ++ u2) := by
    funext i
    have hnall : (fsts ((scat m d (rsOT F.sig.rs) res.1 0).2.1 ++ u2 ++ storeK.froz m (cond F.sig.leaky (dedup (roIds l)) []))).Nodup := by
      rw [fsts_append, List.nodup_append, fsts_append]; exact ⟨hn12, hnf, hn3⟩
    by_cases h1 : i ∈ fsts ((scat m d (rsOT F.sig.rs) res.1 0).2.1 ++ u2)
    · obtain ⟨e, he⟩ := fsts_mem h1
      rw [updL_mem hn12' he, updL_mem hnall (List.mem_append_left _ he)]
    · rw [updL_not h1]
      by_cases h2 : i ∈ fsts (storeK.froz m (cond F.sig.leaky (dedup (roIds l)) []))
      · obtain ⟨e, he⟩ := fsts_mem h2
        rw [updL_mem hnf he, updL_mem hnall (List.mem_append_right _ he)]
      · rw [updL_not h2, updL_not]
        rw [fsts_append]
        intro h
        rcases List.mem_append.1 h with h | h
        · exact h1 h
        · exact h2 h
  have hA2F : ∀ b, A2 b → Fre (rebuilt Mf (pwin F.sig.ps ls) ((fsts (scat m d (rsOT F.sig.rs) res.1 0).2.1).zip lsR ++ asgO)) w' b := by
    rintro b ⟨hlk, h1, h2, h3⟩
    have hb1 : findB ((fsts (scat m d (rsOT F.sig.rs) res.1 0).2.1).zip lsR ++ asgO) b = none := findB_none (by rw [hlball]; exact h3)
    refine ⟨?_, ?_, h1⟩
    · simp only [rebuilt, hb1]
      split
      · rfl
      · rename_i hnE
        have hnl : b ∉ lb ls := fun h => hnE ((hEb b).2 h)
        cases hκ : Mf.κ b with
        | none => rfl
        | some i =>
          exfalso
          have hlt := (wf.own b i hκ).1
          cases hκM : M.κ b with
          | none =>
            have := (lf.fre b ⟨hκM, by rw [← show Mf.X = M.X from lf.ctx]; exact (wf.own b i hκ).2.1, hlt⟩).1.1
            rw [hκ] at this; simp at this
          | some j =>
            have hnc : ¬ (¬ cur (ownIds l) b ∧ ¬ cur (roIds l) b) := fun h => h2 (.inr ⟨⟨j, hκM⟩, h⟩)
            by_cases hco : cur (ownIds l) b
            · obtain ⟨k, hk, _, n, hn⟩ := hco
              refine hnl ?_
              rw [elb]
              exact mem_lb.2 ⟨n, List.mem_map.2 ⟨k, hk, hn⟩⟩
            · by_cases hcr : cur (roIds l) b
              · obtain ⟨k, hk, _, n, hn⟩ := hcr
                have := ff k (by rw [hlk]; exact froz_has (mem_dedup.2 hk) (hro k hk)) b n hn
                rw [this.1] at hκ; simp at hκ
              · exact hnc ⟨hco, hcr⟩
    · intro hh
      refine h2 (.inl ?_)
      have : (rebuilt Mf (pwin F.sig.ps ls) ((fsts (scat m d (rsOT F.sig.rs) res.1 0).2.1).zip lsR ++ asgO)).X = M.X := lf.ctx
      rwa [this] at hh
  have hwinW : ∀ p ∈ rwin F.sig.rs lsR ++ outwin F.sig.ps lsO, Wr (rebuilt Mf (pwin F.sig.ps ls) ((fsts (scat m d (rsOT F.sig.rs) res.1 0).2.1).zip lsR ++ asgO)) p.1 p.2.1 (p.2.1 + p.2.2) := by
    intro p hp
    refine hlat.wr (lf.wr ?_)
    rcases hwins p hp with h | ⟨q, hq, h1, h2, h3⟩
    · exact .inl (Nat.le_trans hw.frame.size h)
    · rw [← h1]; exact (hwin q hq).sub h2 h3
  have hent : ∀ p ∈ (scat m d (rsOT F.sig.rs) res.1 0).2.1 ++ u2, updL (updL L (storeK.froz m (cond F.sig.leaky (dedup (roIds l)) []))) ((scat m d (rsOT F.sig.rs) res.1 0).2.1 ++ u2) p.1 = p.2 := fun p hp => updL_mem hn12' hp
  have hplc : ∀ p ∈ (fsts (scat m d (rsOT F.sig.rs) res.1 0).2.1).zip lsR ++ asgO, (rebuilt Mf (pwin F.sig.ps ls) ((fsts (scat m d (rsOT F.sig.rs) res.1 0).2.1).zip lsR ++ asgO)).ι p.1 = p.2 := by
    intro p hp
    simp only [rebuilt, findI_mem hnas (show (p.1, p.2) ∈ _ from hp)]
  have hblk : ∀ p ∈ (fsts (scat m d (rsOT F.sig.rs) res.1 0).2.1).zip lsR ++ asgO, ∀ b n, p.2 = some (b, n) → (rebuilt Mf (pwin F.sig.ps ls) ((fsts (scat m d (rsOT F.sig.rs) res.1 0).2.1).zip lsR ++ asgO)).κ b = some p.1 := by
    intro p hp b n hb
    have : (p.1, some (b, n)) ∈ (fsts (scat m d (rsOT F.sig.rs) res.1 0).2.1).zip lsR ++ asgO := by rw [← hb]; exact hp
    simp only [rebuilt, findB_mem hnab this]
  have hfin := hwin' fun i e hie => hall.blk (lf.trans hlat) hent hplc hblk hA2F hwinW (i, e) hie
  rw [eU]
  refine ⟨_, _, rfl, lf.trans hlat, hfin, ?_⟩
  have hsr := scat_rs (m := m) (site := d) (j := 0) hA2F hsig.2 hrs2 (laid_zip (M' := rebuilt Mf (pwin F.sig.ps ls) ((fsts (scat m d (rsOT F.sig.rs) res.1 0).2.1).zip lsR ++ asgO)) hul (fun p hp => hent p (List.mem_append_left _ hp)) (fun p hp => hplc p (List.mem_append_left _ hp)) (fun p hp => hblk p (List.mem_append_left _ hp)))
    (fun p hp => hwinW p (List.mem_append_left _ hp))
  exact resAV_ok hlen1 hsr.1 hsr.2.2
end Go.Vi

set_option autoImplicit false
set_option linter.unusedVariables false
set_option linter.unusedSimpArgs false
namespace Go.Vi
open Go
section
variable {R : Type} {P : Program}
/-! ## One operation -/
def OpR (P : Program) (o : Oper) (a : Act) (w : World) (Post : Value → World → Prop) : Prop :=
  ∀ (next : Act → World → Prop) (Q : Exit → Act → World → Prop), (∀ v w', Post v w' → next (a.put o.dst v) w') → o.wp P a w next Q
theorem OpR.mk {o : Oper} {a : Act} {w w' : World} {Post : Value → World → Prop} {val : Value} (h : (execOp a.eval o).run P w = .ok (.value val) w') (hp : Post val w') : OpR P o a w Post := by
  intro next Q hn
  unfold Oper.wp
  rw [h]
  exact hn _ _ hp
theorem OpR.skip {o : Oper} {a : Act} {w w' : World} {Post : Value → World → Prop} (h : (execOp a.eval o).run P w = .ok .skip w') (hp : Post undef w') : OpR P o a w Post := by
  intro next Q hn
  unfold Oper.wp
  rw [h]
  exact hn _ _ hp
/-- what an operation leaves -/
def Left (M : Ms) (L : Lk) (w : World) (v : AV) (u : Mem) : Value → World → Prop := fun val w' => ∃ M', Later M M' L (updL L u) w w' ∧ WInv M' (updL L u) w' ∧ AVR M' (updL L u) w' v val
theorem Left.quiet {M : Ms} {L : Lk} {w : World} {v : AV} {val : Value} (hw : WInv M L w) (h : AVR M L w v val) : Left M L w v [] val w := ⟨M, Later.refl _ _ _, hw, h⟩
theorem run_v {s : Sem Value} {w w' : World} {val : Value} (h : s.run P w = .ok val w') : (do pure (Next.value (← s)) : Sem Next).run P w = .ok (.value val) w' := by
  simp only [Sem.run_bind, h, Result.andThen_ok, Sem.run_pure]
theorem append_any {at_ : Array TypeId} {t u ty : TypeId} {args : Array Value} (h1 : at_[0]? = some t) (h2 : at_[1]? = some u) : Builtin.append_ at_ ty args = Builtin.append_ #[t, u] ty args := by
  simp only [Builtin.append_, h1, h2]
  rfl
theorem sameOp_eval {x y : Operand} (h : sameOp x y = true) (a : Act) {k : IntKind} {n : Int} (hx : a.eval x = .int k n) : ∃ k', a.eval y = .int k' n := by
  cases x <;> cases y <;> try (simp [sameOp] at h; done)
  · have := Nat.eq_of_beq_eq_true h; subst this; exact ⟨k, hx⟩
  · rename_i u v
    cases u <;> try (simp [sameOp] at h; done)
    cases v <;> try (simp [sameOp] at h; done)
    simp only [sameOp, decide_eq_true_eq] at h
    rename_i k1 a1 k2 a2
    subst h
    simp only [Act.eval, Value.int.injEq] at hx
    obtain ⟨_, rfl⟩ := hx
    exact ⟨k2, rfl⟩
theorem optR_map {M : Ms} {L : Lk} {w : World} {ev : Operand → AV} {ρ : Operand → Value} (h : ∀ x, AVR M L w (ev x) (ρ x)) (o : Option Operand) : OptR M L w (o.map ev) (o.map ρ) := by
  cases o with
  | none => trivial
  | some x => exact h x

set_option maxHeartbeats 1000000 in
theorem opK_ok {GL : List (Nat × GV)} {TT : TTab} {G : Gam} {m : Lk} {ev : Operand → AV} {o : Oper} {K : AV → Mem → Option R} {r : R} (htt : ttOk P TT = true) (hG : GamOk P GL G) (h : opK TT G m ev o K = some r) :
    ∃ v u, K v u = some r ∧ ∀ {M : Ms} {L : Lk} {w : World} {a : Act}, M.X.GL = GL → Msk m L → (∀ i ∈ fsts u, m i = L i) → (fsts u).Nodup → WInv M L w → (∀ x, AVR M L w (ev x) (a.eval x)) → OpR P o a w (Left M L w v u) := by
  unfold opK at h
  split at h
  · rename_i x ho
    exact ⟨_, _, h, fun hGL hm hmu hn hw he => .mk (val := _) (by simp only [execOp, ho, Sem.run_pure]) (.quiet hw (he x))⟩
  · rename_i x ho
    exact ⟨_, _, h, fun hGL hm hmu hn hw he => .mk (val := _) (by simp only [execOp, ho, Sem.run_pure]) (.quiet hw (he x))⟩
  · rename_i c x y ho
    split at h
    · rename_i t hc
      cases t with
      | true =>
        refine ⟨_, _, h, ?_⟩
        intro M L w a hGL hm hmu hn hw he
        have e : a.eval c = .bool true := avr_bool.1 (by have := he c; rwa [hc] at this)
        exact .mk (val := a.eval x) (by simp [execOp, ho, e, asBool]) (.quiet hw (he x))
      | false =>
        refine ⟨_, _, h, ?_⟩
        intro M L w a hGL hm hmu hn hw he
        have e : a.eval c = .bool false := avr_bool.1 (by have := he c; rwa [hc] at this)
        exact .mk (val := a.eval y) (by simp [execOp, ho, e, asBool]) (.quiet hw (he y))
    · simp at h
  · rename_i e ho
    split at h
    · rename_i ti d ht hd
      refine ⟨_, _, h, ?_⟩
      intro M L w a hGL hm hmu hn hw he
      obtain ⟨val, w', M', h1, h2, h3, h4⟩ := alloc_ok (P := P) (tiOk_lay (ttOk_look htt ht)) hw (d := d) (ver := stepVer m d) (by rw [stepVer, hmu d (by simp [fsts])]; omega)
      exact .mk (by simp only [execOp, ho]; exact run_v h1) ⟨M', h2, h3, h4⟩
    · simp at h
  · rename_i e x ho
    split at h
    · rename_i ti d ht hd
      obtain ⟨hf, h⟩ := cond_none h
      refine ⟨_, _, h, ?_⟩
      intro M L w a hGL hm hmu hn hw he
      obtain ⟨val, w', M', h1, h2, h3, h4⟩ := box_ok (P := P) (e := e) hf (he x) hw (d := d) (ver := stepVer m d) (by rw [stepVer, hmu d (by simp [fsts])]; omega)
      exact .mk (by simp only [execOp, ho]; exact run_v h1) ⟨M', h2, h3, h4⟩
    · simp at h
  · rename_i t parts ho
    split at h
    · rename_i ti ht
      have hl := tiOk_lay (ttOk_look htt ht)
      obtain ⟨v, hk, hv⟩ := build_ok (P := P) hl h
      refine ⟨v, [], hk, ?_⟩
      intro M L w a hGL hm hmu hn hw he
      obtain ⟨val', h1, h2⟩ := hv (M := M) (L := L) (w := w) (vals := parts.map fun p => (p.1, a.eval p.2)) (by
        have := partsR_of (M := M) (L := L) (w := w) he parts.toList
        simpa using this)
      exact .mk (by simp only [execOp, ho]; exact run_v h1) (.quiet hw h2)
    · simp at h
  · rename_i t n parts ho
    split at h
    · rename_i e eb el d ht hd
      obtain ⟨v, u, hk, hv⟩ := buildSlice_ok (P := P) (ttOk_look htt ht) h
      refine ⟨v, u, hk, ?_⟩
      intro M L w a hGL hm hmu hn hw he
      obtain ⟨val, w', M', h1, h2, h3, h4⟩ := hv (vals := parts.map fun p => (p.1, a.eval p.2)) hm hmu hw (by
        have := partsR_of (M := M) (L := L) (w := w) he parts.toList
        simpa using this) hn
      exact .mk (by simp only [execOp, ho]; exact run_v h1) ⟨M', h2, h3, h4⟩
    · simp at h
  · rename_i t x ho
    split at h
    · rename_i ti ht
      obtain ⟨v, hk, hv⟩ := load_ok (P := P) h
      refine ⟨v, [], hk, ?_⟩
      intro M L w a hGL hm hmu hn hw he
      obtain ⟨val, h1, h2⟩ := hv hm hw (he x) (tiOk_lay (ttOk_look htt ht))
      exact .mk (by simp only [execOp, ho]; exact run_v h1) (.quiet hw h2)
    · simp at h
  · rename_i t x y ho
    split at h
    · rename_i ti ht
      obtain ⟨u, hk, hv⟩ := store_ok (P := P) h
      refine ⟨_, u, hk, ?_⟩
      intro M L w a hGL hm hmu hn hw he
      obtain ⟨M', w', h1, h2, h3⟩ := hv hm hw (he x) (he y) (tiOk_lay (ttOk_look htt ht)) hn
      exact .skip (by simp only [execOp, ho, Sem.run_bind, h1, Result.andThen_ok, Sem.run_pure]) ⟨M', h2, h3, trivial⟩
    · simp at h
  · rename_i x ho
    split at h
    · rename_i id ver p t hx
      obtain ⟨hlv, h⟩ := cond_none h
      obtain ⟨hv, hnn⟩ := live_of hlv
      refine ⟨_, _, h, ?_⟩
      intro M L w a hGL hm hmu hn hw he
      have hL := hm.eq (i := id) hnn
      have hr := he x
      rw [hx] at hr
      obtain ⟨ad, e⟩ := ptr_is hr (by rw [← hL]; exact hv) (by rw [← hL]; exact hnn)
      exact .mk (val := a.eval x) (by simp [execOp, ho, e]) (.quiet hw hr)
    · rename_i t y hx
      refine ⟨_, _, h, ?_⟩
      intro M L w a hGL hm hmu hn hw he
      have hr := he x
      rw [hx] at hr
      obtain ⟨cs, ⟨b, off, c, rfl, _⟩, e⟩ := hr
      have e : a.eval x = .pointer (some ⟨b, off, none⟩) := e
      exact .mk (val := a.eval x) (by simp [execOp, ho, e]) (.quiet hw (by have := he x; rwa [hx] at this))
    · rename_i f hx
      refine ⟨_, _, h, ?_⟩
      intro M L w a hGL hm hmu hn hw he
      have hr := he x
      rw [hx] at hr
      have e := avr_fn.1 hr
      exact .mk (val := a.eval x) (by simp [execOp, ho, e]) (.quiet hw hr)
    · simp at h
  · rename_i op t x y z ho
    obtain ⟨hef, h⟩ := cond_none h
    obtain ⟨v, hk, hv⟩ := binK_ok (P := P) htt h
    refine ⟨v, [], hk, ?_⟩
    intro M L w a hGL hm hmu hn hw he
    obtain ⟨val, h1, h2, h3⟩ := hv (ox := x) (oy := y) hm hw (he x) (he y) hef
    exact .mk (by simp only [execOp, ho]; exact run_v (by simp only [Sem.run_bind, h1, Result.andThen_ok, h2])) (.quiet hw h3)
  · rename_i op t x ho
    obtain ⟨v, hk, hv⟩ := unK_ok (P := P) h
    refine ⟨v, [], hk, ?_⟩
    intro M L w a hGL hm hmu hn hw he
    obtain ⟨val, h1, h2⟩ := hv (he x)
    exact .mk (by simp only [execOp, ho]; exact run_v h1) (.quiet hw h2)
  · rename_i s t x ho
    split at h
    · rename_i si ti d hs ht hd
      obtain ⟨v, u, hk, hv⟩ := convK_ok (P := P) h
      refine ⟨v, u, hk, ?_⟩
      intro M L w a hGL hm hmu hn hw he
      obtain ⟨val, w', M', h1, h2, h3, h4⟩ := hv (tiOk_lay (ttOk_look htt hs)) (tiOk_lay (ttOk_look htt ht)) hm hmu hw (he x) hn
      exact .mk (by simp only [execOp, ho]; exact run_v h1) ⟨M', h2, h3, h4⟩
    · simp at h
  · rename_i t l c ho
    split at h
    · rename_i e eb el d k n ht hd hx
      obtain ⟨hso, h⟩ := cond_none h
      obtain ⟨hb, h⟩ := cnd_none h
      simp only [decide_eq_true_eq] at hb
      refine ⟨_, _, h, ?_⟩
      intro M L w a hGL hm hmu hn hw he
      have hr := he l
      rw [hx] at hr
      have e1 := avr_int.1 hr
      obtain ⟨k', e2⟩ := sameOp_eval hso a e1
      obtain ⟨val, w', M', h1, h2, h3, h4⟩ := makeSlice_ok (P := P) (ttOk_look htt ht) hb.1 hb.2 k k' hw (d := d) (ver := stepVer m d) (by rw [stepVer, hmu d (by simp [fsts])]; omega)
      exact .mk (by simp only [execOp, ho, e1, e2]; exact run_v h1) ⟨M', h2, h3, h4⟩
    · simp at h
  · rename_i t x lo hi ho
    split at h
    · rename_i ti ht
      obtain ⟨v, hk, hv⟩ := sliceK_ok (P := P) h
      refine ⟨v, [], hk, ?_⟩
      intro M L w a hGL hm hmu hn hw he
      obtain ⟨val, h1, h2⟩ := hv (tiOk_lay (ttOk_look htt ht)) hm hw (he x) (optR_map he lo) (optR_map he hi)
      exact .mk (by simp only [execOp, ho]; exact run_v h1) (.quiet hw h2)
    · simp at h
  · rename_i s x f ho
    split at h
    · rename_i ti ht
      obtain ⟨v, hk, hv⟩ := fieldAddrK_ok (P := P) h
      refine ⟨v, [], hk, ?_⟩
      intro M L w a hGL hm hmu hn hw he
      obtain ⟨val, h1, h2⟩ := hv (tiOk_lay (ttOk_look htt ht)) hm hw (he x)
      exact .mk (by simp only [execOp, ho]; exact run_v h1) (.quiet hw h2)
    · simp at h
  · rename_i s x f ho
    split at h
    · rename_i ti ht
      obtain ⟨v, hk, hv⟩ := field_ok (P := P) h
      refine ⟨v, [], hk, ?_⟩
      intro M L w a hGL hm hmu hn hw he
      obtain ⟨val, h1, h2⟩ := hv (tiOk_lay (ttOk_look htt ht)) (he x)
      exact .mk (by simp only [execOp, ho]; exact run_v h1) (.quiet hw h2)
    · simp at h
  · rename_i t x i ho
    split at h
    · rename_i ti ht
      obtain ⟨v, hk, hv⟩ := indexAddrK_ok (P := P) h
      refine ⟨v, [], hk, ?_⟩
      intro M L w a hGL hm hmu hn hw he
      obtain ⟨val, h1, h2⟩ := hv (tiOk_lay (ttOk_look htt ht)) hm hw (he x) (he i)
      exact .mk (by simp only [execOp, ho]; exact run_v h1) (.quiet hw h2)
    · simp at h
  · rename_i t x i ho
    split at h
    · rename_i eb el s k n ht hx hi
      simp only [bnd, Option.bind_eq_some_iff] at h
      obtain ⟨c, hc, h⟩ := h
      refine ⟨_, _, h, ?_⟩
      intro M L w a hGL hm hmu hn hw he
      have h1 := he x
      have h2 := he i
      rw [hx] at h1
      rw [hi] at h2
      have e1 := avr_str.1 h1
      have e2 := avr_int.1 h2
      exact .mk (by simp only [execOp, ho, e1, e2]; exact run_v (index_str_ok hc (tiOk_lay (ttOk_look htt ht)) k w)) (.quiet hw (avr_int.2 rfl))
    · rename_i n1 e eb el n2 e' xs k n ht hx hi
      obtain ⟨hnn, h⟩ := cond_none h
      have hnn := Nat.eq_of_beq_eq_true hnn
      subst hnn
      split at h
      · rename_i e3
        subst e3
        simp only [bnd, Option.bind_eq_some_iff] at h
        obtain ⟨y, hy, h⟩ := h
        refine ⟨_, _, h, ?_⟩
        intro M L w a hGL hm hmu hn hw he
        have h1 := he x
        have h2 := he i
        rw [hx] at h1
        rw [hi] at h2
        obtain ⟨cs, hr, e1⟩ := avr_val' h1
        have e2 := avr_int.1 h2
        obtain ⟨mid, h3, h4⟩ := index_arr_ok (P := P) hy (tiOk_lay (ttOk_look htt ht)) k hr
        exact .mk (by simp only [execOp, ho, e1, e2]; exact run_v h3) (.quiet hw (avr_val h4))
      · simp at h
    · simp at h
  · rename_i x i ho
    split at h
    · rename_i s hx
      obtain ⟨hnt, h⟩ := cond_none h
      refine ⟨_, _, h, ?_⟩
      intro M L w a hGL hm hmu hn hw he
      have h1 := he x
      rw [hx] at h1
      obtain ⟨val, h2, h3⟩ := extract_ok (P := P) h1 hnt
      exact .mk (by simp only [execOp, ho]; exact run_v h2) (.quiet hw h3)
    · simp at h
  · rename_i c ho
    split at h
    · rename_i hc
      split at h
      · rename_i x t ts hx ht
        split at h
        · rename_i ti hti
          obtain ⟨v, hk, hv⟩ := lenK_ok (P := P) h
          refine ⟨v, [], hk, ?_⟩
          intro M L w a hGL hm hmu hn hw he
          have hl := tiOk_lay (ttOk_look htt hti)
          obtain ⟨d, hu⟩ := lay_under hl
          obtain ⟨val, h1, h2⟩ := hv (o := o.type) hl hm hw (he x)
          have e1 : c.argTypes[0]? = some t := by rw [← Array.getElem?_toList, ht]; rfl
          have e2 : (c.args.map a.eval)[0]? = some (a.eval x) := by rw [Array.getElem?_map, ← Array.getElem?_toList, hx]; rfl
          have h1' := run_len_of (P := P) hu (at_ := c.argTypes) (args := c.args.map a.eval) (ty := o.type) e1 e2 w
          rw [h1] at h1'
          exact .mk (by simp only [execOp, ho, resolve, hc, invoke, builtin, Sem.run_bind, Sem.run_pure, Result.andThen_ok, h1']) (.quiet hw h2)
        · simp at h
      · simp at h
    · rename_i hc
      split at h
      · rename_i x y t t' ts d hx ht hd
        replace h := cond_none h
        obtain ⟨htt', h⟩ := h
        have htt' := Nat.eq_of_beq_eq_true htt'
        subst htt'
        split at h
        · rename_i e eb el hti
          obtain ⟨v, u, hk, hv⟩ := appendK_ok (P := P) h
          refine ⟨v, u, hk, ?_⟩
          intro M L w a hGL hm hmu hn hw he
          obtain ⟨val, w', M', h1, h2, h3, h4⟩ := hv (ty := o.type) (ttOk_look htt hti) hm hmu hw (he x) (he y) hn
          have e1 : c.argTypes[0]? = some t := by rw [← Array.getElem?_toList, ht]; rfl
          have e2 : c.argTypes[1]? = some t := by rw [← Array.getElem?_toList, ht]; rfl
          have e3 : c.args.map a.eval = #[a.eval x, a.eval y] := by apply Array.ext'; rw [Array.toList_map, hx]; rfl
          exact .mk (by simp only [execOp, ho, resolve, hc, invoke, builtin, Sem.run_bind, Sem.run_pure, Result.andThen_ok, e3, append_any e1 e2, h1]) ⟨M', h2, h3, h4⟩
        · simp at h
      · simp at h
    · rename_i hc
      split at h
      · rename_i k x k' y hx
        split at h
        · rename_i e
          subst e
          refine ⟨_, _, h, ?_⟩
          intro M L w a hGL hm hmu hn hw he
          have hl := listR_of (M := M) (L := L) (w := w) he c.args.toList
          rw [hx] at hl
          generalize hz : c.args.toList.map a.eval = zs at hl
          match zs, hl with
          | [u, v], hl =>
            have e1 := avr_int.1 hl.1
            have e2 := avr_int.1 hl.2.1
            subst e1 e2
            have e3 : c.args.map a.eval = #[.int k x, .int k y] := by apply Array.ext'; rw [Array.toList_map, hz]
            exact .mk (by simp only [execOp, ho, resolve, hc, invoke, builtin, Sem.run_bind, Sem.run_pure, Result.andThen_ok, e3, run_min_int2]; rfl) (.quiet hw (avr_int.2 rfl))
        · simp at h
      · simp at h
    · rename_i hc
      split at h
      · rename_i k x k' y hx
        split at h
        · rename_i e
          subst e
          refine ⟨_, _, h, ?_⟩
          intro M L w a hGL hm hmu hn hw he
          have hl := listR_of (M := M) (L := L) (w := w) he c.args.toList
          rw [hx] at hl
          generalize hz : c.args.toList.map a.eval = zs at hl
          match zs, hl with
          | [u, v], hl =>
            have e1 := avr_int.1 hl.1
            have e2 := avr_int.1 hl.2.1
            subst e1 e2
            have e3 : c.args.map a.eval = #[.int k x, .int k y] := by apply Array.ext'; rw [Array.toList_map, hz]
            exact .mk (by simp only [execOp, ho, resolve, hc, invoke, builtin, Sem.run_bind, Sem.run_pure, Result.andThen_ok, e3, run_max_int2]; rfl) (.quiet hw (avr_int.2 rfl))
        · simp at h
      · simp at h
    · rename_i f hc
      split at h
      · rename_i g d hg hd
        split at h
        · rename_i F hF
          obtain ⟨v, u, hk, hv⟩ := callK_ok (hG.look hF) h
          refine ⟨v, u, hk, ?_⟩
          intro M L w a hGL hm hmu hn hw he
          obtain ⟨fn, hf1, hf2, hf3⟩ := (hG.look hF).1
          have h1 := he f
          rw [hg] at h1
          have e1 := avr_fn.1 h1
          have hcall := hv hGL hm hmu hn hw (listR_of (M := M) (L := L) (w := w) he c.args.toList)
          have e2 : (c.args.toList.map a.eval).toArray = c.args.map a.eval := by apply Array.ext'; simp
          rw [e2] at hcall
          intro next Q hnext
          unfold Oper.wp
          have hex : (execOp a.eval o).run P w = .ok (.enter g (c.args.map a.eval)) w := by
            simp only [execOp, ho, resolve, hc, Deferred.ofValue, e1, invoke, callFunc, Sem.run_bind, Sem.run_pure, Result.andThen_ok, run_program, hf1, hf2, hf3, Bool.false_eq_true, if_false, Array.empty_append, Array.append_empty]
          rw [hex, Oper.upon_enter]
          refine hcall.mono ?_
          rintro e w' ⟨val, M', rfl, k1, k2, k3⟩
          exact hnext _ _ ⟨M', k1, k2, k3⟩
        · simp at h
      · simp at h
    · simp at h
  · simp at h
end
end Go.Vi

