/- A part of the proof of publicPart_holds: VjG, VjH. No condition of its own. -/
import Derived.Test.YtfabcimcdnaoiaaGreatDoorA04
import Derived.LoopN
set_option autoImplicit false
set_option linter.unusedVariables false
set_option linter.unusedSimpArgs false
namespace Go.Vi
open Go
section
variable {P : Program}
/-! ## A function's end -/
theorem asAddr_of_load {tid : TypeId} {val val' : Value} {w : World} (h : (Instr.loadAt tid val).run P w = .ok val' w) : (do loadVar tid (← asAddr val) : Sem Value).run P w = .ok val' w := by
  cases val <;> try (simp [Instr.loadAt, Instr.sureAddr, stuck] at h; done)
  rename_i p
  cases p with
  | none => simp [Instr.loadAt, Instr.sureAddr, stuck] at h
  | some a => exact h
def resOne (tmps : Array Value) : ResultVar → Sem Value
  | .tmp t => pure (tmps.getD t undef)
  | .cell a t => do loadVar t (← asAddr (tmps.getD a undef))
theorem results_eq (fn : Func) (tmps : Array Value) : results fn tmps = (do let vs ← fn.results.mapM (resOne tmps); pure (if h : vs.size = 1 then vs[0] else .tuple vs)) := rfl
theorem results_run {fn : Func} {l : List ResultVar} (hl : fn.results.toList = l) {tmps : Array Value} {w : World} {vs : List Value} (h : (l.mapM (resOne tmps)).run P w = .ok vs w) : (results fn tmps).run P w = .ok (rval vs) w := by
  rw [results_eq, Array.mapM_eq_mapM_toList, hl]
  simp only [Sem.run_bind, Sem.run_map, h, Result.andThen_ok, Sem.run_pure]
  match vs with
  | [] => rfl
  | [v] => rfl
  | a :: b :: r => rfl
theorem rowb_not_none {m : Lk} {i : Nat} (h : ∃ (s : Ty) (xs : List s.den), (m i).2 = .rowb s xs) : (m i).2 ≠ .none := by obtain ⟨s, xs, h⟩ := h; rw [h]; simp
theorem gRes_ok {TT : TTab} (htt : ttOk P TT = true) {m : Lk} {tmps : List AV} {R : Type} {r : R} : ∀ {rs : List OT} {l : List ResultVar} {K : (rsOT rs).den → List Nat → List Nat → Option R}, gRes TT m tmps rs l K = some r →
    ∃ x leaf ids, K x (somes leaf) ids = some r ∧ OwnV m (rsOT rs) x leaf ∧ (∀ i ∈ ids, ∃ (s : Ty) (xs : List s.den), (m i).2 = .rowb s xs) ∧
      ∀ {M : Ms} {w : World} {a : Array Value}, WInv M m w → (∀ i, AVR M m w (getT tmps i) (a.getD i undef)) → ∀ {A : Nat → Prop}, (∀ b, Fre M w b → A b) → (∀ i ∈ ids, ∀ b cap, M.ι i = some (b, cap) → A b) →
        ∃ vs, (l.mapM (resOne a)).run P w = .ok vs w ∧ RsAt A w rs x vs (lmap M leaf) ∧ ∀ p ∈ rwin rs (lmap M leaf), Wr M p.1 p.2.1 (p.2.1 + p.2.2) := by
  intro rs
  induction rs with
  | nil =>
    intro l K h
    cases l with
    | cons _ _ => simp [gRes] at h
    | nil =>
      simp only [gRes] at h
      exact ⟨(), [], [], h, rfl, by simp, fun _ _ A _ _ => ⟨[], rfl, ⟨rfl, rfl⟩, fun p hp => by simp [rwin] at hp⟩⟩
  | cons o rs ih =>
    have step : ∀ {v : AV} {l : List ResultVar} {K : (rsOT (o :: rs)).den → List Nat → List Nat → Option R} {rv : ResultVar},
        gatherK m o v (fun x leaf ids => gRes TT m tmps rs l fun y n r => K (x, y) (somes leaf ++ n) (ids ++ r)) = some r →
        (∀ {M : Ms} {w : World} {a : Array Value}, WInv M m w → (∀ i, AVR M m w (getT tmps i) (a.getD i undef)) → ∃ val, (resOne a rv).run P w = .ok val w ∧ AVR M m w v val) →
        ∃ x leaf ids, K x (somes leaf) ids = some r ∧ OwnV m (rsOT (o :: rs)) x leaf ∧ (∀ i ∈ ids, ∃ (s : Ty) (xs : List s.den), (m i).2 = .rowb s xs) ∧
          ∀ {M : Ms} {w : World} {a : Array Value}, WInv M m w → (∀ i, AVR M m w (getT tmps i) (a.getD i undef)) → ∀ {A : Nat → Prop}, (∀ b, Fre M w b → A b) → (∀ i ∈ ids, ∀ b cap, M.ι i = some (b, cap) → A b) →
            ∃ vs, ((rv :: l).mapM (resOne a)).run P w = .ok vs w ∧ RsAt A w (o :: rs) x vs (lmap M leaf) ∧ ∀ p ∈ rwin (o :: rs) (lmap M leaf), Wr M p.1 p.2.1 (p.2.1 + p.2.2) := by
      intro v l K rv h hone
      obtain ⟨x, leaf, ids, h1, ov, hr, hg, hh⟩ := gatherK_ok h
      obtain ⟨y, leaf2, ids2, h2, ov2, hr2, hh2⟩ := ih h1
      refine ⟨(x, y), leaf ++ leaf2, ids ++ ids2, by rw [somes_append]; exact h2, ⟨leaf, leaf2, rfl, ov, ov2⟩, ?_, ?_⟩
      · intro i hi
        rcases List.mem_append.1 hi with hi | hi
        · exact hr i hi
        · exact hr2 i hi
      · intro M w a hw ht A hA hi
        obtain ⟨val, k1, k2⟩ := hone hw ht
        obtain ⟨cs, hc, e⟩ := gatherK_av h k2
        obtain ⟨p1, q1⟩ := hh (fun i => .inl rfl) hw hc hA fun i h => hi i (List.mem_append_left _ h)
        obtain ⟨vs, k3, k4, k5⟩ := hh2 hw ht hA fun i h => hi i (List.mem_append_right _ h)
        refine ⟨val :: vs, ?_, ?_, ?_⟩
        · rw [List.mapM_cons]
          simp only [Sem.run_bind, k1, Result.andThen_ok, k3, Sem.run_pure]
        · rw [lmap_append]
          exact ⟨cs, vs, _, _, by rw [e, hg], rfl, p1, k4⟩
        · rw [lmap_append, rwin_cons p1]
          intro p hp
          rcases List.mem_append.1 hp with hp | hp
          · exact q1 p hp
          · exact k5 p hp
    intro l K h
    cases l with
    | nil => simp [gRes] at h
    | cons rv l =>
      cases rv with
      | tmp t =>
        simp only [gRes] at h
        exact step h fun hw ht => ⟨_, rfl, ht t⟩
      | cell c t =>
        simp only [gRes] at h
        split at h
        · rename_i ti hti
          obtain ⟨v, h1, hv⟩ := load_ok (P := P) h
          refine step h1 ?_
          intro M w a hw ht
          obtain ⟨val, k1, k2⟩ := hv (fun i => .inl rfl) hw (ht c) (tiOk_lay (ttOk_look htt hti))
          exact ⟨val, asAddr_of_load k1, k2⟩
        · simp at h
def gvOf : List PM → List Value → List Value
  | [], _ => []
  | .io _ :: ps, v :: vs => v :: gvOf ps vs
  | .ptr _ :: ps, v :: vs => v :: gvOf ps vs
  | .ro _ :: ps, _ :: vs => gvOf ps vs
  | .mv _ :: ps, _ :: vs => gvOf ps vs
  | .fn _ :: ps, _ :: vs => gvOf ps vs
  | _ :: _, [] => []
theorem outwin_cons {A : Nat → Prop} {w : World} {o : OT} {x : o.den} {cs : List Value} {l1 : List Leaf} (h : ORep A w o x cs l1) (ps : List PM) (l2 : List Leaf) : owin o (l1 ++ l2) ++ outwin ps ((l1 ++ l2).drop (nleaf o)) = owin o l1 ++ outwin ps l2 := by
  rw [owin_append h, ← h.nleaf, List.drop_left]
theorem gOuts_ok {m : Lk} {R : Type} {r : R} : ∀ {ps : List PM} {gs : List AV} {K : (outsOT ps).den → List Nat → List Nat → Option R}, gOuts m ps gs K = some r →
    ∃ x leaf ids, K x (somes leaf) ids = some r ∧ (∀ i ∈ somes leaf, Owned m i) ∧ (∀ i ∈ ids, ∃ (s : Ty) (xs : List s.den), (m i).2 = .rowb s xs) ∧
      ∀ {M : Ms} {w : World} {args : List Value}, WInv M m w → ListR M m w gs (gvOf ps args) → args.length = ps.length → ∀ {A : Nat → Prop}, (∀ b, Fre M w b → A b) → (∀ i ∈ ids, ∀ b cap, M.ι i = some (b, cap) → A b) →
        OutsAt A w ps x args (lmap M leaf) ∧ ∀ p ∈ outwin ps (lmap M leaf), Wr M p.1 p.2.1 (p.2.1 + p.2.2) := by
  intro ps
  induction ps with
  | nil =>
    intro gs K h
    cases gs with
    | cons _ _ => simp [gOuts] at h
    | nil =>
      simp only [gOuts] at h
      refine ⟨(), [], [], h, by simp [somes], by simp, ?_⟩
      intro M w args _ _ _ A _ _
      exact ⟨by cases args <;> rfl, fun p hp => by simp [outwin] at hp⟩
  | cons p ps ih =>
    intro gs K h
    have pass : ∀ {x : (outsOT ps).den} {leaf : List (Option Nat)} {ids : List Nat}, True := trivial
    cases p with
    | ro t =>
      simp only [gOuts] at h
      obtain ⟨x, leaf, ids, h1, ho, hr, hh⟩ := ih h
      refine ⟨x, leaf, ids, h1, ho, hr, ?_⟩
      intro M w args hw hl hlen A hA hi
      cases args with
      | nil => simp at hlen
      | cons v vs => exact hh hw hl (by simpa using hlen) hA hi
    | mv o =>
      simp only [gOuts] at h
      obtain ⟨x, leaf, ids, h1, ho, hr, hh⟩ := ih h
      refine ⟨x, leaf, ids, h1, ho, hr, ?_⟩
      intro M w args hw hl hlen A hA hi
      cases args with
      | nil => simp at hlen
      | cons v vs => exact hh hw hl (by simpa using hlen) hA hi
    | fn f =>
      simp only [gOuts] at h
      obtain ⟨x, leaf, ids, h1, ho, hr, hh⟩ := ih h
      refine ⟨x, leaf, ids, h1, ho, hr, ?_⟩
      intro M w args hw hl hlen A hA hi
      cases args with
      | nil => simp at hlen
      | cons v vs => exact hh hw hl (by simpa using hlen) hA hi
    | io o =>
      cases gs with
      | nil => simp [gOuts] at h
      | cons g gs =>
        simp only [gOuts] at h
        obtain ⟨x, leaf, ids, h1, ov, hr, hg, hh⟩ := gatherK_ok h
        obtain ⟨y, leaf2, ids2, h2, ov2, hr2, hh2⟩ := ih h1
        refine ⟨(x, y), leaf ++ leaf2, ids ++ ids2, by rw [somes_append]; exact h2, ?_, ?_, ?_⟩
        · intro i hi
          rw [somes_append] at hi
          rcases List.mem_append.1 hi with hi | hi
          · exact ov.owned i hi
          · exact ov2 i hi
        · intro i hi
          rcases List.mem_append.1 hi with hi | hi
          · exact hr i hi
          · exact hr2 i hi
        · intro M w args hw hl hlen A hA hi
          cases args with
          | nil => simp at hlen
          | cons v vs =>
            obtain ⟨cs, hc, e⟩ := gatherK_av h hl.1
            obtain ⟨p1, q1⟩ := hh (fun i => .inl rfl) hw hc hA fun i h => hi i (List.mem_append_left _ h)
            obtain ⟨p2, q2⟩ := hh2 hw hl.2 (by simpa using hlen) hA fun i h => hi i (List.mem_append_right _ h)
            rw [lmap_append]
            refine ⟨⟨cs, _, _, by rw [e, hg], rfl, p1, p2⟩, ?_⟩
            simp only [outwin]
            rw [outwin_cons p1]
            intro p hp
            rcases List.mem_append.1 hp with hp | hp
            · exact q1 p hp
            · exact q2 p hp
    | ptr o =>
      cases gs with
      | nil => simp [gOuts] at h
      | cons g gs =>
        cases g with
        | ptr id ver q t0 =>
          cases q with
          | cons _ _ => simp [gOuts] at h
          | nil =>
            simp only [gOuts] at h
            replace h := beq_case h
            obtain ⟨hv, h⟩ := h
            split at h
            · rename_i t c hcc
              split at h
              · rename_i e
                subst e
                obtain ⟨x, leaf, ids, h1, ov, hr, hg, hh⟩ := gatherK_ok h
                obtain ⟨y, leaf2, ids2, h2, ov2, hr2, hh2⟩ := ih h1
                refine ⟨(x, y), some id :: leaf ++ leaf2, ids ++ ids2, by rw [somes_append]; exact h2, ?_, ?_, ?_⟩
                · intro i hi
                  rw [somes_append] at hi
                  rcases List.mem_append.1 hi with hi | hi
                  · simp only [somes, List.mem_cons] at hi
                    rcases hi with rfl | hi
                    · exact .inr ⟨_, _, hcc⟩
                    · exact ov.owned i hi
                  · exact ov2 i hi
                · intro i hi
                  rcases List.mem_append.1 hi with hi | hi
                  · exact hr i hi
                  · exact hr2 i hi
                · intro M w args hw hl hlen A hA hi
                  cases args with
                  | nil => simp at hlen
                  | cons v vs =>
                    obtain ⟨cs0, ⟨k1, k2, k3⟩, rfl⟩ := hl.1
                    have k4 := k3 hv.symm
                    rw [hcc] at k4
                    obtain ⟨b, off, d, hι, hoff, rfl⟩ := k4
                    rw [offT_nil] at hoff
                    simp only [Option.some.injEq, Prod.mk.injEq] at hoff
                    obtain ⟨rfl, _⟩ := hoff
                    have hb := hw.blk id
                    rw [hcc] at hb
                    obtain ⟨h0, hκ, kw, cur, el, cs', hop, hav, hcur, _⟩ := box_cells hb hι
                    obtain ⟨p1, q1⟩ := hh (fun i => .inl rfl) hw hav hA fun i h => hi i (List.mem_append_left _ h)
                    obtain ⟨p2, q2⟩ := hh2 hw hl.2 (by simpa using hlen) hA fun i h => hi i (List.mem_append_right _ h)
                    have href : ORep A w (.ref o) x [.pointer (some ⟨b, off + 0, none⟩)] (lmap M (some id :: leaf)) := by
                      have e1 : lmap M (some id :: leaf) = some (b, off) :: lmap M leaf := by simp [lmap, hι]
                      rw [e1]
                      exact ⟨b, off, _, rfl, rfl, cur, el, cs', hop, p1, fits_length h0 hav, hcur⟩
                    rw [lmap_append]
                    refine ⟨⟨_, _, _, rfl, rfl, href, p2⟩, ?_⟩
                    simp only [outwin]
                    rw [outwin_cons (o := .ref o) href]
                    intro p hp
                    rcases List.mem_append.1 hp with hp | hp
                    · simp only [lmap, hι, owin, List.mem_cons] at hp
                      rcases hp with rfl | hp
                      · exact kw
                      · exact q1 p hp
                    · exact q2 p hp
              · simp at h
            · simp at h
        | _ => simp [gOuts] at h

/-- what a function gives, in its caller's words -/
def Fin (P : Program) (fn : Func) (sig : Sig) (args : List Value) (M : Ms) (o : sig.outDen) (a : Act) (w : World) : Prop :=
  a.defers = [] ∧ Frame M.X.w0 M.X.E w ∧ ∃ vs lsR lsO, (results fn a.tmps).run P w = .ok (rval vs) w ∧ (lb (lsR ++ lsO)).Nodup ∧ (∀ b ∈ lb (lsR ++ lsO), ¬ M.X.hid b ∧ b < w.heap.size) ∧
    RsAt (Rd w M.X.hid (lsR ++ lsO)) w sig.rs o.1 vs lsR ∧ OutsAt (Rd w M.X.hid (lsR ++ lsO)) w sig.ps o.2 args lsO ∧ ∀ p ∈ rwin sig.rs lsR ++ outwin sig.ps lsO, Wr M p.1 p.2.1 (p.2.1 + p.2.2)
theorem listR_get {M : Ms} {L : Lk} {w : World} : ∀ {l : List AV} {k : List Value}, l.length = k.length → (∀ i, AVR M L w (getT l i) (k.getD i undef)) → ListR M L w l k := by
  intro l
  induction l with
  | nil => intro k h _; cases k with
    | nil => trivial
    | cons _ _ => simp at h
  | cons a l ih =>
    intro k h hv
    cases k with
    | nil => simp at h
    | cons v k => exact ⟨by simpa [getT] using hv 0, ih (by simpa using h) fun i => by simpa [getT] using hv (i + 1)⟩
theorem lb_nodup {M : Ms} {m : Lk} {w : World} (hw : WInv M m w) {leaf : List (Option Nat)} (hn : (somes leaf).Nodup) (ho : ∀ i ∈ somes leaf, Owned m i) : (lb (lmap M leaf)).Nodup ∧ ∀ b ∈ lb (lmap M leaf), ∃ i ∈ somes leaf, M.κ b = some i := by
  rw [lb_lmap]
  refine ⟨lb_ids_nodup hn fun i hi b n hb => own_of hw (ho i hi) hb, ?_⟩
  intro b hb
  obtain ⟨i, hi, n, hb⟩ := lb_ids hb
  exact ⟨i, hi, own_of hw (ho i hi) hb⟩
theorem finishK_ok {C : Cx} (htt : ttOk P C.E.TT = true) {fn : Func} (hres : fn.results.toList = C.results) {args : List Value} (hlen : args.length = C.sig.ps.length) {st : St} {R : Type} {r : R} {K : C.sig.outDen → Option R} (h : finishK C st K = some r) :
    ∃ o, K o = some r ∧ ∀ {M : Ms} {a : Act} {w : World}, M.X.gv = gvOf C.sig.ps args → Inv M st a w → Fin P fn C.sig args M o a w := by
  unfold finishK at h
  obtain ⟨x, leaf, ids, h1, ov, hr, hh⟩ := gRes_ok (P := P) htt h
  obtain ⟨y, leaf2, ids2, h2, ov2, hr2, hh2⟩ := gOuts_ok h1
  obtain ⟨hc, h3⟩ := cond_none h2
  refine ⟨(x, y), h3, ?_⟩
  intro M a w hgv hI
  simp only [Bool.and_eq_true] at hc
  have hnd := (nodupB_iff _).1 hc.1
  have hdj := (disjB_iff _ _).1 hc.2
  rw [← somes_append] at hnd hdj
  have hw := hI.win
  have hown : ∀ i ∈ somes (leaf ++ leaf2), Owned (look st.mem) i := by
    intro i hi
    rw [somes_append] at hi
    rcases List.mem_append.1 hi with hi | hi
    · exact ov.owned i hi
    · exact ov2 i hi
  obtain ⟨n1, n2⟩ := lb_nodup hw hnd hown
  rw [lmap_append] at n1 n2
  have hA : ∀ b, Fre M w b → Rd w M.X.hid (lmap M leaf ++ lmap M leaf2) b := by
    rintro b ⟨k1, k2, k3⟩
    refine ⟨k3, k2, fun hb => ?_⟩
    obtain ⟨i, _, hi⟩ := n2 b hb
    rw [k1] at hi; simp at hi
  have hi : ∀ i ∈ ids ++ ids2, ∀ b cap, M.ι i = some (b, cap) → Rd w M.X.hid (lmap M leaf ++ lmap M leaf2) b := by
    intro i hi b cap hb
    have hrow : ∃ (s : Ty) (xs : List s.den), (look st.mem i).2 = .rowb s xs := by
      rcases List.mem_append.1 hi with hi | hi
      · exact hr i hi
      · exact hr2 i hi
    have hκ := own_of hw (.inl hrow) hb
    have ho := hw.own b i hκ
    refine ⟨ho.1, ho.2.1, fun hb => ?_⟩
    obtain ⟨j, hj, hκ'⟩ := n2 b hb
    rw [hκ] at hκ'
    simp only [Option.some.injEq] at hκ'
    subst hκ'
    exact hdj i hi hj
  obtain ⟨vs, v1, v2, v3⟩ := hh hw hI.tmps hA fun i h => hi i (List.mem_append_left _ h)
  have hl : ListR M (look st.mem) w st.ghosts (gvOf C.sig.ps args) := by
    rw [← hgv]
    exact listR_get hI.glen hI.gh
  obtain ⟨o1, o2⟩ := hh2 hw hl hlen hA fun i h => hi i (List.mem_append_right _ h)
  refine ⟨hI.defers, hw.frame, vs, lmap M leaf, lmap M leaf2, results_run hres v1, n1, ?_, v2, o1, ?_⟩
  · intro b hb
    obtain ⟨i, _, hκ⟩ := n2 b hb
    have ho := hw.own b i hκ
    exact ⟨ho.2.1, ho.1⟩
  · intro p hp
    rcases List.mem_append.1 hp with hp | hp
    · exact v3 p hp
    · exact o2 p hp
end
end Go.Vi

set_option autoImplicit false
set_option linter.unusedVariables false
set_option linter.unusedSimpArgs false
namespace Go.Vi
open Go
section
variable {P : Program}
/-! ## Code -/
def ExPost (P : Program) (fn : Func) (sig : Sig) (args : List Value) (X : Sx) (e : Ex sig.outDen) (Q : Exit → Act → World → Prop) : Prop :=
  match e with
  | .go .normal st => ∀ M a w, M.X = X → Inv M st a w → Q .normal a w
  | .go (.exit i) st => ∀ M a w, M.X = X → Inv M st a w → Q (.exit i) a w
  | .ret o => ∀ M a w, M.X = X → Fin P fn sig args M o a w → Q .ret a w
def Good (P : Program) (fn : Func) (C : Cx) (args : List Value) (c : Code) (st : St) (e : Ex C.sig.outDen) : Prop :=
  ∀ X : Sx, X.GL = C.E.GL → X.gv = gvOf C.sig.ps args → ∀ (M : Ms) (a : Act) (w : World), M.X = X → Inv M st a w → ∀ Q : Exit → Act → World → Prop, ExPost P fn C.sig args X e Q → c.wp P Q a w
/-- one state told as another -/
def Told (st st' : St) : Prop := ∀ (M : Ms) (a : Act) (w : World), Inv M st a w → ∃ M' : Ms, M'.X = M.X ∧ Inv M' st' a w
theorem capEx_ok {st : St} {i : Nat} : ∀ {l : Exits} {R : Type} {r : R} {K : exDen l → Option R}, capEx st i l K = some r →
    ∃ y, K y = some r ∧ ∀ {R' : Type} {r' : R'} {f : Nat → St → Option R'}, exK l y f = some r' → ∃ st', f i st' = some r' ∧ Told st st' := by
  intro l
  induction l with
  | nil => intro R r K h; simp [capEx] at h
  | cons p l ih =>
    intro R r K h
    cases l with
    | nil =>
      simp only [capEx] at h
      obtain ⟨e, h⟩ := beq_case h
      obtain ⟨x, h1, hx⟩ := packK_ok h
      refine ⟨x, h1, ?_⟩
      intro R' r' f hf
      simp only [exK] at hf
      rw [← e] at hf
      exact ⟨_, hf, fun M a w hI => hx hI⟩
    | cons q l =>
      simp only [capEx] at h
      cases hb : Nat.beq i p.1 with
      | true =>
        rw [hb] at h
        simp only [cond_true] at h
        have e := Nat.eq_of_beq_eq_true hb
        obtain ⟨x, h1, hx⟩ := packK_ok h
        refine ⟨_, h1, ?_⟩
        intro R' r' f hf
        simp only [exK] at hf
        rw [← e] at hf
        exact ⟨_, hf, fun M a w hI => hx hI⟩
      | false =>
        rw [hb] at h
        simp only [cond_false] at h
        obtain ⟨y, h1, hy⟩ := ih h
        refine ⟨_, h1, ?_⟩
        intro R' r' f hf
        simp only [exK] at hf
        exact hy hf
/-- what a cut gives -/
theorem cap_ok {C : Cx} {T : Cut} {e : Ex C.sig.outDen} {lr : LR C T} (h : cap C T e = some lr) :
    (∃ y st, lr = .inl y ∧ e = .go .normal st ∧ Told st (unpack T.t y)) ∨
    (∃ y i st, lr = .inr (.inl y) ∧ e = .go (.exit i) st ∧ ∀ {R' : Type} {r' : R'} {f : Nat → St → Option R'}, exK T.x y f = some r' → ∃ st', f i st' = some r' ∧ Told st st') ∨
    (∃ o, lr = .inr (.inr o) ∧ e = .ret o) := by
  cases e with
  | ret o => simp only [cap, Option.some.injEq] at h; exact .inr (.inr ⟨o, h.symm, rfl⟩)
  | go k st =>
    cases k with
    | normal =>
      simp only [cap] at h
      obtain ⟨y, h1, hy⟩ := packK_ok h
      simp only [Option.some.injEq] at h1
      exact .inl ⟨y, st, h1.symm, rfl, fun M a w hI => hy hI⟩
    | exit i =>
      simp only [cap] at h
      obtain ⟨y, h1, hy⟩ := capEx_ok h
      simp only [Option.some.injEq] at h1
      exact .inr (.inl ⟨y, i, st, h1.symm, rfl, hy⟩)
section
variable {fn : Func} {C : Cx} {args : List Value}
theorem execK_ok (hE : EnOk P C.E) (hmix : P.follows .mixedOrders = true) (hres : fn.results.toList = C.results) (hlen : args.length = C.sig.ps.length) : ∀ (c : Code) (cur : Nat) (st : St) (R : Type) (K : Ex C.sig.outDen → Option R) (r : R),
    execK C c cur st R K = some r → ∃ e, K e = some r ∧ Good P fn C args c st e := by
  intro c
  induction c with
  | skip =>
    intro cur st R K r h
    simp only [execK] at h
    exact ⟨_, h, fun X hGL hgv M a w hX hI Q hQ => wp_skip (hQ M a w hX hI)⟩
  | region id ops draw =>
    intro cur st R K r h
    simp only [execK] at h
    obtain ⟨st', h1, hv⟩ := regionK_ok hE hmix h
    exact ⟨_, h1, fun X hGL hgv M a w hX hI Q hQ => hv (by rw [hX]; exact hGL) hI fun M' a' w' hX' hI' => hQ M' a' w' (hX'.trans hX) hI'⟩
  | seq a b iha ihb =>
    intro cur st R K r h
    simp only [execK] at h
    split at h
    · rename_i T hT
      simp only [bnd, Option.bind_eq_some_iff] at h
      obtain ⟨lr, h1, h2⟩ := h
      obtain ⟨e1, hc, hg⟩ := iha _ _ _ _ _ h1
      rcases cap_ok hc with ⟨y, st1, rfl, rfl, ht⟩ | ⟨y, i, st1, rfl, rfl, ht⟩ | ⟨o, rfl, rfl⟩
      · simp only at h2
        obtain ⟨e, hk, hg2⟩ := ihb _ _ _ _ _ h2
        refine ⟨e, hk, ?_⟩
        intro X hGL hgv M act w hX hI Q hQ
        refine wp_seq (hg X hGL hgv M act w hX hI _ ?_)
        intro M1 a1 w1 hX1 hI1
        obtain ⟨M2, hX2, hI2⟩ := ht M1 a1 w1 hI1
        exact hg2 X hGL hgv M2 a1 w1 (hX2.trans hX1) hI2 Q hQ
      · simp only at h2
        obtain ⟨st2, hk, ht2⟩ := ht h2
        refine ⟨_, hk, ?_⟩
        intro X hGL hgv M act w hX hI Q hQ
        refine wp_seq (hg X hGL hgv M act w hX hI _ ?_)
        intro M1 a1 w1 hX1 hI1
        obtain ⟨M2, hX2, hI2⟩ := ht2 M1 a1 w1 hI1
        exact hQ M2 a1 w1 (hX2.trans hX1) hI2
      · simp only at h2
        refine ⟨_, h2, ?_⟩
        intro X hGL hgv M act w hX hI Q hQ
        exact wp_seq (hg X hGL hgv M act w hX hI _ hQ)
    · obtain ⟨e1, hc, hg⟩ := iha _ _ _ _ _ h
      cases e1 with
      | ret o =>
        refine ⟨_, hc, ?_⟩
        intro X hGL hgv M act w hX hI Q hQ
        exact wp_seq (hg X hGL hgv M act w hX hI _ hQ)
      | go k st1 =>
        cases k with
        | exit i =>
          refine ⟨_, hc, ?_⟩
          intro X hGL hgv M act w hX hI Q hQ
          exact wp_seq (hg X hGL hgv M act w hX hI _ hQ)
        | normal =>
          obtain ⟨e, hk, hg2⟩ := ihb _ _ _ _ _ hc
          refine ⟨e, hk, ?_⟩
          intro X hGL hgv M act w hX hI Q hQ
          refine wp_seq (hg X hGL hgv M act w hX hI _ ?_)
          intro M1 a1 w1 hX1 hI1
          exact hg2 X hGL hgv M1 a1 w1 hX1 hI1 Q hQ
  | cond x a b iha ihb =>
    intro cur st R K r h
    simp only [execK] at h
    split at h
    · rename_i t ht
      have hev : ∀ {X : Sx} {M : Ms} {act : Act} {w : World}, X.GL = C.E.GL → M.X = X → Inv M st act w → act.eval x = .bool t := by
        intro X M act w hGL hX hI
        have := ev_ok (GL := C.E.GL) (InvA.of hI) (by rw [hX]; exact hGL) x
        rw [ht] at this
        exact avr_bool.1 this
      cases htt : (t : Bool) with
      | true =>
        rw [htt] at h
        simp only [cnd, cond_true] at h
        obtain ⟨e, hk, hg⟩ := iha _ _ _ _ _ h
        refine ⟨e, hk, ?_⟩
        intro X hGL hgv M act w hX hI Q hQ
        exact wp_cond_true (by rw [hev hGL hX hI, htt]) (hg X hGL hgv M act w hX hI Q hQ)
      | false =>
        rw [htt] at h
        simp only [cnd, cond_false] at h
        obtain ⟨e, hk, hg⟩ := ihb _ _ _ _ _ h
        refine ⟨e, hk, ?_⟩
        intro X hGL hgv M act w hX hI Q hQ
        exact wp_cond_false (by rw [hev hGL hX hI, htt]) (hg X hGL hgv M act w hX hI Q hQ)
    · simp at h
  | block id b ih =>
    intro cur st R K r h
    simp only [execK] at h
    obtain ⟨e1, hc, hg⟩ := ih _ _ _ _ _ h
    cases e1 with
    | ret o =>
      refine ⟨_, hc, ?_⟩
      intro X hGL hgv M act w hX hI Q hQ
      exact wp_block (hg X hGL hgv M act w hX hI _ hQ)
    | go k st1 =>
      cases k with
      | normal =>
        refine ⟨_, hc, ?_⟩
        intro X hGL hgv M act w hX hI Q hQ
        exact wp_block (hg X hGL hgv M act w hX hI _ hQ)
      | exit i =>
        simp only at hc
        cases hb : Nat.beq i id with
        | true =>
          rw [hb] at hc
          have e := Nat.eq_of_beq_eq_true hb
          refine ⟨_, hc, ?_⟩
          intro X hGL hgv M act w hX hI Q hQ
          refine wp_block (hg X hGL hgv M act w hX hI _ ?_)
          intro M1 a1 w1 hX1 hI1
          simp only [Exit.inBlock, e, if_true]
          exact hQ M1 a1 w1 hX1 hI1
        | false =>
          rw [hb] at hc
          have e : i ≠ id := by rintro rfl; simp at hb
          refine ⟨_, hc, ?_⟩
          intro X hGL hgv M act w hX hI Q hQ
          refine wp_block (hg X hGL hgv M act w hX hI _ ?_)
          intro M1 a1 w1 hX1 hI1
          simp only [Exit.inBlock, e, if_false]
          exact hQ M1 a1 w1 hX1 hI1
  | loop b ih =>
    intro cur st R K r h
    simp only [execK] at h
    split at h
    · rename_i T hT
      obtain ⟨x, h1, hx⟩ := packK_ok h
      simp only [bnd, Option.bind_eq_some_iff] at h1
      obtain ⟨ρ, h2, h3⟩ := h1
      rw [iter_some] at h2
      obtain ⟨n, hn⟩ := h2
      have key : ∀ (n : Nat) (x : T.t.den), iterN (fun x => execK C b cur (unpack T.t x) (LR C T) (cap C T)) n x = some ρ →
          ∃ e, K e = some r ∧ ∀ X : Sx, X.GL = C.E.GL → X.gv = gvOf C.sig.ps args → ∀ (M : Ms) (a : Act) (w : World), M.X = X → Inv M (unpack T.t x) a w → ∀ Q : Exit → Act → World → Prop, ExPost P fn C.sig args X e Q → Code.rounds P b Q n a w := by
        intro n
        induction n with
        | zero => intro x h; simp [iterN] at h
        | succ n ihn =>
          intro x h
          simp only [iterN] at h
          split at h
          · simp at h
          · rename_i ρ' he
            simp only [Option.some.injEq] at h
            subst h
            obtain ⟨e1, hc, hg⟩ := ih _ _ _ _ _ he
            rcases cap_ok hc with ⟨y, st1, hlr, rfl, ht⟩ | ⟨y, i, st1, hlr, rfl, ht⟩ | ⟨o, hlr, rfl⟩
            · simp at hlr
            · simp only [Sum.inr.injEq] at hlr
              subst hlr
              simp only at h3
              obtain ⟨st2, hk, ht2⟩ := ht h3
              refine ⟨_, hk, ?_⟩
              intro X hGL hgv M act w hX hI Q hQ
              refine hg X hGL hgv M act w hX hI _ ?_
              intro M1 a1 w1 hX1 hI1
              obtain ⟨M2, hX2, hI2⟩ := ht2 M1 a1 w1 hI1
              exact hQ M2 a1 w1 (hX2.trans hX1) hI2
            · simp only [Sum.inr.injEq] at hlr
              subst hlr
              simp only at h3
              refine ⟨_, h3, ?_⟩
              intro X hGL hgv M act w hX hI Q hQ
              exact hg X hGL hgv M act w hX hI _ hQ
          · rename_i y he
            obtain ⟨e1, hc, hg⟩ := ih _ _ _ _ _ he
            rcases cap_ok hc with ⟨y', st1, hlr, rfl, ht⟩ | ⟨y', i, st1, hlr, rfl, ht⟩ | ⟨o, hlr, rfl⟩
            · simp only [Sum.inl.injEq] at hlr
              subst hlr
              obtain ⟨e, hk, hr⟩ := ihn _ h
              refine ⟨e, hk, ?_⟩
              intro X hGL hgv M act w hX hI Q hQ
              refine hg X hGL hgv M act w hX hI _ ?_
              intro M1 a1 w1 hX1 hI1
              obtain ⟨M2, hX2, hI2⟩ := ht M1 a1 w1 hI1
              exact hr X hGL hgv M2 a1 w1 (hX2.trans hX1) hI2 Q hQ
            · simp at hlr
            · simp at hlr
      obtain ⟨e, hk, hr⟩ := key n x hn
      refine ⟨e, hk, ?_⟩
      intro X hGL hgv M act w hX hI Q hQ
      obtain ⟨M2, hX2, hI2⟩ := hx hI
      exact wp_loop_rounds n (hr X hGL hgv M2 act w (hX2.trans hX) hI2 Q hQ)
    · simp at h
  | exit i =>
    intro cur st R K r h
    simp only [execK] at h
    exact ⟨_, h, fun X hGL hgv M a w hX hI Q hQ => wp_exit (hQ M a w hX hI)⟩
  | ret =>
    intro cur st R K r h
    simp only [execK] at h
    obtain ⟨o, hk, ho⟩ := finishK_ok hE.tt hres hlen h
    exact ⟨_, hk, fun X hGL hgv M a w hX hI Q hQ => wp_ret (hQ M a w hX (ho (by rw [hX]; exact hgv) hI))⟩
  | rangeFunc f ps x y _ _ => intro cur st R K r h; simp [execK] at h
  | scope b _ => intro cur st R K r h; simp [execK] at h
  | label l => intro cur st R K r h; simp [execK] at h
  | goto l => intro cur st R K r h; simp [execK] at h
  | refuse s => intro cur st R K r h; simp [execK] at h
end
/-! ## A function's beginning -/
theorem listR_append {M : Ms} {L : Lk} {w : World} : ∀ {l l' : List AV} {k k' : List Value}, ListR M L w l k → ListR M L w l' k' → ListR M L w (l ++ l') (k ++ k') := by
  intro l
  induction l with
  | nil => intro l' k k' h h'; cases k with
    | nil => exact h'
    | cons _ _ => exact h.elim
  | cons a l ih => intro l' k k' h h'; cases k with
    | nil => exact h.elim
    | cons v k => exact ⟨h.1, ih h.2 h'⟩
theorem listR_length {M : Ms} {L : Lk} {w : World} : ∀ {l : List AV} {k : List Value}, ListR M L w l k → l.length = k.length := by
  intro l
  induction l with
  | nil => intro k h; cases k with
    | nil => rfl
    | cons _ _ => exact h.elim
  | cons a l ih => intro k h; cases k with
    | nil => exact h.elim
    | cons v k => simp [ih h.2]
theorem listR_at {M : Ms} {L : Lk} {w : World} : ∀ {l : List AV} {k : List Value}, ListR M L w l k → ∀ i, AVR M L w (getT l i) (k.getD i undef) := by
  intro l
  induction l with
  | nil => intro k h; cases k with
    | nil => intro i; exact rfl
    | cons _ _ => exact h.elim
  | cons a l ih => intro k h; cases k with
    | nil => exact h.elim
    | cons v k =>
      intro i
      cases i with
      | zero => exact h.1
      | succ i => simpa [getT] using ih h.2 i
theorem listR_und {M : Ms} {L : Lk} {w : World} : ∀ n, ListR M L w (List.replicate n .und) (List.replicate n undef)
  | 0 => trivial
  | n + 1 => ⟨rfl, listR_und n⟩
theorem ArgsAt.lens {A : Nat → Prop} {w : World} : ∀ {ps : List PM} {x : (insOT ps).den} {vs : List Value} {ls : List Leaf}, ArgsAt A w ps x vs ls → vs.length = ps.length := by
  intro ps
  induction ps with
  | nil => rintro x vs ls ⟨rfl, _⟩; rfl
  | cons p ps ih =>
    intro x vs ls h
    cases p with
    | ro t => obtain ⟨cs, vs', rfl, _, h⟩ := h; simp [ih h]
    | io o => obtain ⟨cs, vs', l1, l2, rfl, _, _, h⟩ := h; simp [ih h]
    | mv o => obtain ⟨cs, vs', l1, l2, rfl, _, _, h⟩ := h; simp [ih h]
    | ptr o => obtain ⟨cs, vs', l1, l2, rfl, _, _, h⟩ := h; simp [ih h]
    | fn f => obtain ⟨vs', rfl, h⟩ := h; simp [ih h]
theorem parAV_mem {m : Lk} {A : Nat → Prop} {w : World} : ∀ {ps : List PM} {x : (insOT ps).den} {vs : List Value} {ls : List Leaf} {i : Nat}, ArgsAt A w ps x vs ls → (parAV m ps x i).2.1.length = ls.length := by
  intro ps
  induction ps with
  | nil => rintro x vs ls i ⟨_, rfl⟩; rfl
  | cons p ps ih =>
    intro x vs ls i h
    cases p with
    | ro t => obtain ⟨cs, vs', _, _, h⟩ := h; exact ih h
    | fn f => obtain ⟨vs', _, h⟩ := h; exact ih h
    | io o => obtain ⟨cs, vs', l1, l2, _, rfl, h1, h2⟩ := h; simp [parAV, ih h2, scat_length, h1.nleaf]
    | mv o => obtain ⟨cs, vs', l1, l2, _, rfl, h1, h2⟩ := h; simp [parAV, ih h2, scat_length, h1.nleaf]
    | ptr o =>
      obtain ⟨cs, vs', l1, l2, _, rfl, h1, h2⟩ := h
      have := ORep.nleaf (o := .ref o) h1
      simp only [nleaf] at this
      simp [parAV, ih h2, scat_length, this]
      omega
theorem parAV_ok {M : Ms} {L : Lk} {w : World} {A : Nat → Prop} (hA : ∀ b, A b → Fre M w b) : ∀ {ps : List PM} {x : (insOT ps).den} {vs : List Value} {ls : List Leaf} {i : Nat}, okPs ps = true → ArgsAt A w ps x vs ls → Laid M L (parAV (fun _ => (0, .none)) ps x i).2.1 ls →
    (∀ p ∈ pwin ps ls, Wr M p.1 p.2.1 (p.2.1 + p.2.2)) → ListR M L w (parAV (fun _ => (0, .none)) ps x i).1 vs ∧ ListR M L w (parAV (fun _ => (0, .none)) ps x i).2.2 (gvOf ps vs) ∧ ∀ p ∈ (parAV (fun _ => (0, .none)) ps x i).2.1, BlkC M L w p.1 p.2.2 := by
  intro ps
  induction ps with
  | nil => rintro x vs ls i _ ⟨rfl, rfl⟩ _ _; exact ⟨trivial, trivial, by simp [parAV]⟩
  | cons p ps ih =>
    intro x vs ls i hok h hl hw
    simp only [okPs, Bool.and_eq_true] at hok
    cases p with
    | ro t =>
      obtain ⟨cs, vs', rfl, hr, h⟩ := h
      obtain ⟨p1, p2, p3⟩ := ih hok.2 h hl hw
      exact ⟨⟨avr_val (hr.mono fun b hb => ⟨hA b hb, rfl⟩), p1⟩, p2, p3⟩
    | fn f =>
      obtain ⟨vs', rfl, h⟩ := h
      obtain ⟨p1, p2, p3⟩ := ih hok.2 h hl hw
      exact ⟨⟨avr_fn.2 rfl, p1⟩, p2, p3⟩
    | io o =>
      obtain ⟨cs, vs', l1, l2, rfl, rfl, h1, h2⟩ := h
      simp only [parAV] at hl ⊢
      obtain ⟨d1, d2⟩ := hl.split (by rw [scat_length, h1.nleaf])
      simp only [pwin] at hw
      rw [pwin_io h1] at hw
      obtain ⟨q1, q2, q3, q4⟩ := scat_ok hA (OT.okR_of hok.1) h1 d1 fun p hp => hw p (List.mem_append_left _ hp)
      obtain ⟨p1, p2, p3⟩ := ih hok.2 h2 d2 fun p hp => hw p (List.mem_append_right _ hp)
      have hav := avr_of_avc q1
      rw [q3] at hav
      refine ⟨⟨hav, p1⟩, ⟨hav, p2⟩, ?_⟩
      intro p hp
      rcases List.mem_append.1 hp with hp | hp
      · exact q4 p hp
      · exact p3 p hp
    | mv o =>
      obtain ⟨cs, vs', l1, l2, rfl, rfl, h1, h2⟩ := h
      simp only [parAV] at hl ⊢
      obtain ⟨d1, d2⟩ := hl.split (by rw [scat_length, h1.nleaf])
      simp only [pwin] at hw
      rw [pwin_io h1] at hw
      obtain ⟨q1, q2, q3, q4⟩ := scat_ok hA (OT.okR_of hok.1) h1 d1 fun p hp => hw p (List.mem_append_left _ hp)
      obtain ⟨p1, p2, p3⟩ := ih hok.2 h2 d2 fun p hp => hw p (List.mem_append_right _ hp)
      have hav := avr_of_avc q1
      rw [q3] at hav
      refine ⟨⟨hav, p1⟩, p2, ?_⟩
      intro p hp
      rcases List.mem_append.1 hp with hp | hp
      · exact q4 p hp
      · exact p3 p hp
    | ptr o =>
      obtain ⟨cs, vs', l1, l2, rfl, rfl, h1, h2⟩ := h
      have h1' := h1
      obtain ⟨b, off, ls', rfl, rfl, cur, el, cs', hop, hr, hlen, hcur⟩ := h1
      simp only [parAV] at hl ⊢
      have hnl := ORep.nleaf (o := .ref o) h1'
      obtain ⟨d1, d2⟩ := hl.split (by rw [hnl]; simp [scat_length, nleaf])
      simp only [pwin] at hw
      rw [pwin_io (o := .ref o) h1'] at hw
      obtain ⟨p1, p2, p3⟩ := ih hok.2 h2 d2 fun p hp => hw p (List.mem_append_right _ hp)
      have hL := d1.ent (pbase i, 1, .box o.ty (scat (fun _ => (0, .none)) (pbase i) o x.1 1).1) (by simp)
      have hpl := d1.pl
      simp only [fsts, List.map_cons, List.cons.injEq] at hpl
      have hκ := d1.own _ (by simp [fsts]) b off hpl.1
      have hl' : Laid M L (scat (fun _ => (0, .none)) (pbase i) o x.1 1).2.1 ls' := ⟨fun p hp => d1.ent p (by simp [hp]), hpl.2, fun i hi => d1.own i (by simp [fsts, hi])⟩
      have hw1 : ∀ p ∈ owin (.ref o) (some (b, off) :: ls'), Wr M p.1 p.2.1 (p.2.1 + p.2.2) := fun p hp => hw p (List.mem_append_left _ hp)
      simp only [owin, List.mem_cons, forall_eq_or_imp] at hw1
      obtain ⟨q1, q2, q3, q4⟩ := scat_ok hA (OT.okR_of hok.1) hr hl' hw1.2
      have hav : AVR M L w (.ptr (pbase i) 1 [] o.ty) (toV false [.pointer (some ⟨b, off, none⟩)]) := by
        refine ⟨_, ⟨⟨_, rfl, rfl⟩, by rw [hL]; exact Nat.le_refl _, fun _ => ?_⟩, rfl⟩
        rw [hL]; exact ⟨b, off, 0, hpl.1, offT_nil _, rfl⟩
      refine ⟨⟨hav, p1⟩, ⟨hav, p2⟩, ?_⟩
      intro p hp
      rcases List.mem_append.1 hp with hp | hp
      · simp only [List.mem_cons] at hp
        rcases hp with rfl | hp
        · exact ⟨q2 hok.1, b, off, cur, el, hpl.1, hκ, hw1.1, hop, cs', q1, hcur⟩
        · exact q4 p hp
      · exact p3 p hp
theorem owin_open {A : Nat → Prop} {w : World} : ∀ {o : OT} {x : o.den} {cs : List Value} {ls : List Leaf}, ORep A w o x cs ls → ∀ p ∈ owin o ls, ∃ cur el fr, w.heap[p.1]? = some (.cells cur el fr) := by
  intro o
  induction o with
  | v t => intro x cs ls h p hp; simp [owin] at hp
  | row t =>
    rintro x cs ls ⟨l, rfl, _, _, h⟩ p hp
    rcases h with ⟨rfl, _⟩ | ⟨b, cap, cur, el, rfl, ⟨fr, h, _⟩, _⟩
    · simp [owin] at hp
    · simp [owin] at hp; subst hp; exact ⟨cur, el, fr, h⟩
  | pair a b iha ihb =>
    rintro x cs ls ⟨c1, c2, l1, l2, rfl, rfl, h1, h2⟩ p hp
    rw [owin_pair h1] at hp
    rcases List.mem_append.1 hp with hp | hp
    · exact iha h1 p hp
    · exact ihb h2 p hp
  | unit => intro x cs ls h p hp; simp [owin] at hp
  | ref o ih =>
    rintro x cs ls ⟨b, off, ls', rfl, rfl, cur, el, cs', ⟨fr, hop, _⟩, hr, hlen, hcur⟩ p hp
    simp only [owin, List.mem_cons] at hp
    rcases hp with rfl | hp
    · exact ⟨cur, el, fr, hop⟩
    · exact ih hr p hp
theorem pwin_facts {A : Nat → Prop} {w : World} : ∀ {ps : List PM} {x : (insOT ps).den} {vs : List Value} {ls : List Leaf}, ArgsAt A w ps x vs ls → (pwin ps ls).map (·.1) = lb ls ∧ ∀ p ∈ pwin ps ls, ∃ cur el fr, w.heap[p.1]? = some (.cells cur el fr) := by
  intro ps
  induction ps with
  | nil => rintro x vs ls ⟨_, rfl⟩; exact ⟨rfl, by simp [pwin]⟩
  | cons p ps ih =>
    intro x vs ls h
    have own : ∀ {o : OT} {y : o.den} {cs : List Value} {l1 l2 : List Leaf} {z : (insOT ps).den} {vs' : List Value}, ORep A w o y cs l1 → ArgsAt A w ps z vs' l2 →
        (owin o (l1 ++ l2) ++ pwin ps ((l1 ++ l2).drop (nleaf o))).map (·.1) = lb (l1 ++ l2) ∧ ∀ p ∈ owin o (l1 ++ l2) ++ pwin ps ((l1 ++ l2).drop (nleaf o)), ∃ cur el fr, w.heap[p.1]? = some (.cells cur el fr) := by
      intro o y cs l1 l2 z vs' h1 h2
      rw [pwin_io h1, List.map_append, owin_blocks h1, (ih h2).1, lb_append]
      refine ⟨rfl, fun p hp => ?_⟩
      rcases List.mem_append.1 hp with hp | hp
      · exact owin_open h1 p hp
      · exact (ih h2).2 p hp
    cases p with
    | ro t => obtain ⟨cs, vs', _, _, h⟩ := h; exact ih h
    | fn f => obtain ⟨vs', _, h⟩ := h; exact ih h
    | io o => obtain ⟨cs, vs', l1, l2, _, rfl, h1, h2⟩ := h; exact own h1 h2
    | mv o => obtain ⟨cs, vs', l1, l2, _, rfl, h1, h2⟩ := h; exact own h1 h2
    | ptr o => obtain ⟨cs, vs', l1, l2, _, rfl, h1, h2⟩ := h; exact own (o := .ref o) h1 h2
theorem nodup_fst_inj {α β : Type} : ∀ {l : List (α × β)}, (l.map (·.1)).Nodup → ∀ p ∈ l, ∀ q ∈ l, p.1 = q.1 → p = q := by
  intro l
  induction l with
  | nil => intro _ p hp; simp at hp
  | cons a l ih =>
    intro h p hp q hq e
    simp only [List.map_cons, List.nodup_cons] at h
    rcases List.mem_cons.1 hp with rfl | hp1 <;> rcases List.mem_cons.1 hq with rfl | hq1
    · rfl
    · exact absurd (e ▸ List.mem_map.2 ⟨q, hq1, rfl⟩) h.1
    · exact absurd (e ▸ List.mem_map.2 ⟨p, hp1, rfl⟩) h.1
    · exact ih h.2 p hp1 q hq1 e
theorem init_ok {GL : List (Nat × GV)} {sig : Sig} (hsig : sig.ok = true) {ntmps : Nat} {x : sig.inDen} (hnd : (fsts (initSt sig ntmps x).mem).Nodup) {w0 : World} {hid : Nat → Prop} {args : Array Value} {ls : List Leaf}
    (hat : ArgsAt (Rd w0 hid ls) w0 sig.ps x args.toList ls) (hlb : (lb ls).Nodup) (hhid : ∀ b, hid b → b < w0.heap.size) (hlh : ∀ b ∈ lb ls, ¬ hid b) (hglob : GlobAt GL (Rd w0 hid ls) w0) :
    ∃ M : Ms, M.X = ⟨GL, w0, pwin sig.ps ls, hid, gvOf sig.ps args.toList⟩ ∧ Inv M (initSt sig ntmps x) { tmps := args ++ Array.replicate (ntmps - args.size) undef, defers := [] } w0 := by
  simp only [Sig.ok, Bool.and_eq_true] at hsig
  have hlen := hat.lens
  have hmem : (initSt sig ntmps x).mem = (parAV (fun _ => (0, .none)) sig.ps x 0).2.1 := rfl
  obtain ⟨hp1, hp2⟩ := pwin_facts hat
  rw [hmem] at hnd
  have hl1 : (parAV (fun _ => (0, .none)) sig.ps x 0).2.1.length = ls.length := parAV_mem hat
  have hl2 : (fsts (parAV (fun _ => (0, .none)) sig.ps x 0).2.1).length = ls.length := by rw [fsts_length, hl1]
  let asg : Asg := (fsts (parAV (fun _ => (0, .none)) sig.ps x 0).2.1).zip ls
  have ha1 : asg.map (·.1) = fsts (parAV (fun _ => (0, .none)) sig.ps x 0).2.1 := zip_fst hl2
  have ha2 : asg.map (·.2) = ls := zip_snd hl2
  let M : Ms := ⟨fun b => findB asg b, fun i => (findI asg i).getD none, ⟨GL, w0, pwin sig.ps ls, hid, gvOf sig.ps args.toList⟩⟩
  have hκ : ∀ b i, M.κ b = some i → b ∈ lb ls := by
    intro b i hb
    obtain ⟨n, hn⟩ := findB_some hb
    rw [← ha2]
    exact mem_lb.2 ⟨n, List.mem_map.2 ⟨_, hn, rfl⟩⟩
  have hA : ∀ b, Rd w0 hid ls b → Fre M w0 b := by
    rintro b ⟨k1, k2, k3⟩
    refine ⟨?_, k2, k1⟩
    show findB asg b = none
    exact findB_none (by rw [ha2]; exact k3)
  have hlaid : Laid M (look (initSt sig ntmps x).mem) (parAV (fun _ => (0, .none)) sig.ps x 0).2.1 ls := by
    refine laid_zip hl1 ?_ ?_ ?_
    · intro p hp
      rw [hmem]
      exact look_mem' hnd hp
    · intro p hp
      show (findI asg p.1).getD none = p.2
      rw [findI_mem (by rw [ha1]; exact hnd) (show (p.1, p.2) ∈ asg from hp)]
      rfl
    · intro p hp b n hb
      show findB asg b = some p.1
      exact findB_mem (by rw [ha2]; exact hlb) (show (p.1, some (b, n)) ∈ asg by rw [← hb]; exact hp)
  have hWr : ∀ p ∈ pwin sig.ps ls, Wr M p.1 p.2.1 (p.2.1 + p.2.2) := fun p hp => .inr ⟨p, hp, rfl, Nat.le_refl _, Nat.le_refl _⟩
  obtain ⟨q1, q2, q3⟩ := parAV_ok hA hsig.1 hat hlaid hWr
  have hE : ∀ b, b ∈ lb ls → ∃ p ∈ pwin sig.ps ls, p.1 = b := by
    intro b hb
    rw [← hp1] at hb
    obtain ⟨p, hp, e⟩ := List.mem_map.1 hb
    exact ⟨p, hp, e⟩
  have hsz : ∀ b, b ∈ lb ls → b < w0.heap.size := by
    intro b hb
    obtain ⟨p, hp, rfl⟩ := hE b hb
    obtain ⟨cur, el, fr, h⟩ := hp2 p hp
    exact (Array.getElem?_eq_some_iff.1 h).1
  have htl : ListR M (look (initSt sig ntmps x).mem) w0 (initSt sig ntmps x).tmps (args.toList ++ List.replicate (ntmps - sig.ps.length) undef) := listR_append q1 (listR_und _)
  refine ⟨M, rfl, ?_⟩
  constructor
  · have := listR_length htl
    rw [this]
    simp [hlen]
    rw [← hlen]; simp
  · intro i
    have := listR_at htl i
    have e : (args ++ Array.replicate (ntmps - args.size) undef).getD i undef = (args.toList ++ List.replicate (ntmps - sig.ps.length) undef).getD i undef := by
      rw [← hlen, Array.length_toList, ← Array.toList_replicate, ← Array.toList_append]
      simp only [Array.getD_eq_getD_getElem?, List.getD_eq_getElem?_getD, Array.getElem?_toList]
    show AVR M _ w0 _ ((args ++ Array.replicate (ntmps - args.size) undef).getD i undef)
    rw [e]; exact this
  · exact listR_length q2
  · intro i; exact listR_at q2 i
  · constructor
    · intro i
      rcases look_cases (initSt sig ntmps x).mem i with hi | hi
      · exact q3 _ hi
      · rw [hi]; trivial
    · intro b i hb
      have hm := hκ b i hb
      exact ⟨hsz b hm, hlh b hm, .inr (hE b hm)⟩
    · exact hhid
    · exact nodup_fst_inj (by rw [hp1]; exact hlb)
    · exact ⟨rfl, rfl, rfl, Nat.le_refl _, fun _ _ _ => rfl, fun p hp => by
        obtain ⟨cur, el, fr, h⟩ := hp2 p hp
        exact ⟨cur, cur, el, fr, h, h, rfl, fun _ _ => rfl⟩⟩
    · intro p hp
      obtain ⟨k1, cs, k2, k3⟩ := hglob p hp
      exact ⟨hA _ k1, cs, k2, k3.mono fun b hb => ⟨hA b hb, rfl⟩⟩
  · rfl
/-- **A function that the executor has run does what the executor says.** -/
theorem runFn_ok {C : Cx} (hE : EnOk P C.E) (hmix : P.follows .mixedOrders = true) (hsig : C.sig.ok = true) {f : Nat} {fn : Func} {body : Code} (hf : P.funcs[f]? = some fn) (hb : fn.body = some body) (hres : fn.results.toList = C.results) (hname : (fn.name == "runtime.NumGoroutine") = false) :
    FnOk P C.E.GL f ⟨C.sig, runFn C fn.ntmps body⟩ := by
  refine ⟨⟨fn, hf, hname, by rw [hb]; rfl⟩, ?_⟩
  intro x r hr w0 hid args ls hat hlb hhid hlh hglob
  have hr : runFn C fn.ntmps body x = some r := hr
  unfold runFn at hr
  obtain ⟨hnd, hr⟩ := cond_none hr
  have hnd := (nodupB_iff _).1 hnd
  obtain ⟨M, hX, hI⟩ := init_ok hsig hnd hat hlb hhid hlh hglob
  have hlen := hat.lens
  obtain ⟨e, hk, hg⟩ := execK_ok (fn := fn) (args := args.toList) hE hmix hres hlen _ _ _ _ _ _ hr
  refine calls_of_wp hf hb ?_
  have hgv : M.X.gv = gvOf C.sig.ps args.toList := by rw [hX]
  have hGL : M.X.GL = C.E.GL := by rw [hX]
  refine hg M.X hGL hgv M _ w0 rfl hI _ ?_
  have hfin : ∀ {M' : Ms} {a : Act} {w : World}, M'.X = M.X → Fin P fn C.sig args.toList M' r a w → a.defers = [] ∧ ∃ v, (results fn a.tmps).run P w = .ok v w ∧ Gives ⟨C.sig, runFn C fn.ntmps body⟩ r w0 hid args ls (.returned v) w := by
    rintro M' a w hX' ⟨h1, h2, vs, lsR, lsO, h3, h4, h5, h6, h7, h8⟩
    have hM : M'.X = ⟨C.E.GL, w0, pwin C.sig.ps ls, hid, gvOf C.sig.ps args.toList⟩ := hX'.trans hX
    unfold Wr at h8
    rw [hM] at h2 h5 h6 h7 h8
    exact ⟨h1, _, h3, vs, lsR, lsO, rfl, h2, h4, h5, h6, h7, fun p hp => by
      rcases h8 p hp with h | ⟨q, hq, k1, k2, k3⟩
      · exact .inl h
      · exact .inr ⟨q, hq, k1, k2, k3⟩⟩
  cases e with
  | ret o =>
    simp only [Option.some.injEq] at hk
    subst hk
    intro M' a w hX' hF
    exact hfin hX' hF
  | go k st =>
    cases k with
    | exit i => simp at hk
    | normal =>
      simp only at hk
      obtain ⟨o, ho, hfo⟩ := finishK_ok hE.tt hres hlen hk
      simp only [Option.some.injEq] at ho
      subst ho
      intro M' a w hX' hI'
      exact hfin hX' (hfo (by rw [hX']; exact hgv) hI')
end
end Go.Vi
namespace Go.Vi
open Go
theorem FnOk.of_eq {P : Program} {GL : List (Nat × GV)} {f : Nat} {s : Sig} {f1 f2 : s.inDen → Option s.outDen} (h : FnOk P GL f ⟨s, f1⟩) (e : ∀ x, f1 x = f2 x) : FnOk P GL f ⟨s, f2⟩ := by
  have : f1 = f2 := funext e
  subst this
  exact h
end Go.Vi

