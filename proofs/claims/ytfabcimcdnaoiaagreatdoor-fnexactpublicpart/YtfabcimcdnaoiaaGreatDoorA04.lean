/- A part of the proof of publicPart_holds: VjB, VjC, VjD, VjE, VjF. No condition of its own. -/
import Derived.Test.YtfabcimcdnaoiaaGreatDoorA03
import Derived.Orders
set_option autoImplicit false
set_option linter.unusedVariables false
set_option linter.unusedSimpArgs false
namespace Go.Vi
open Go
/-! ## What comes behind may be told apart (naturality) -/
section
variable {R S : Type} (f : R → Option S)
theorem cond_nat {b : Bool} {x y : Option R} : cond b (x.bind f) (y.bind f) = (cond b x y).bind f := by cases b <;> rfl
theorem cnd_nat {b : Bool} {x y : Option R} : cnd b (x.bind f) (y.bind f) = (cnd b x y).bind f := by cases b <;> rfl
theorem condn_nat {b : Bool} {x : Option R} : cond b (x.bind f) none = (cond b x none).bind f := by cases b <;> rfl
theorem cndn_nat {b : Bool} {x : Option R} : cnd b (x.bind f) none = (cnd b x none).bind f := by cases b <;> rfl
theorem ncnd_nat {b : Bool} {x : Option R} : cnd b none (x.bind f) = (cnd b none x).bind f := by cases b <;> rfl
theorem iten_nat {p : Prop} [Decidable p] {x : Option R} : (if p then x.bind f else none) = (if p then x else none).bind f := by split <;> rfl
theorem diten_nat {p : Prop} [Decidable p] {x : p → Option R} : (if h : p then (x h).bind f else none) = (if h : p then x h else none).bind f := by split <;> rfl
theorem bnd_nat {α : Type} {o : Option α} {x : α → Option R} : (bnd o fun a => (x a).bind f) = (bnd o x).bind f := by cases o <;> rfl
theorem getVal_nat : ∀ {p : List PE} {t : Ty} {x : t.den} {K : AV → Option R}, getVal t x p (fun v => (K v).bind f) = (getVal t x p K).bind f := by
  intro p
  induction p with
  | nil => intro t x K; cases t <;> first | rfl | (simp [getVal]; done)
  | cons q p ih =>
    intro t
    induction t generalizing q with
    | pair a b _ ihb =>
      intro x K
      cases q with
      | fld i => cases i with
        | zero => exact ih
        | succ i => exact ihb _
      | idx i => first | rfl | (simp [getVal]; done)
    | arr n a _ =>
      intro x K
      cases q with
      | fld i => first | rfl | (simp [getVal]; done)
      | idx i => simp only [getVal, ih]; exact bnd_nat f
    | _ => intro x K; first | rfl | (simp [getVal]; done)
theorem setVal_nat : ∀ {p : List PE} {t : Ty} {x : t.den} {s : Ty} {y : s.den} {K : t.den → Option R}, setVal t x p s y (fun v => (K v).bind f) = (setVal t x p s y K).bind f := by
  intro p
  induction p with
  | nil => intro t x s y K; cases t <;> exact diten_nat f
  | cons q p ih =>
    intro t
    induction t generalizing q with
    | pair a b _ ihb =>
      intro x s y K
      cases q with
      | fld i => cases i with
        | zero => exact ih
        | succ i => exact ihb _
      | idx i => first | rfl | (simp [setVal]; done)
    | arr n a _ =>
      intro x s y K
      cases q with
      | fld i => first | rfl | (simp [setVal]; done)
      | idx i => simp only [setVal, ih]; exact bnd_nat f
    | _ => intro x s y K; first | rfl | (simp [setVal]; done)
theorem getAV_nat : ∀ {a : AV} {p : List PE} {K : AV → Option R}, getAV a p (fun v => (K v).bind f) = (getAV a p K).bind f := by
  intro a
  induction a with
  | val t x => intro p K; cases p with
    | nil => first | rfl | (simp [getAV]; done)
    | cons q p => exact getVal_nat f
  | cons a b iha ihb =>
    intro p K
    cases p with
    | nil => first | rfl | (simp [getAV]; done)
    | cons q p => cases q with
      | idx i => first | rfl | (simp [getAV]; done)
      | fld i => cases i with
        | zero => exact iha
        | succ i => exact ihb
  | _ => intro p K; cases p <;> first | rfl | (simp [getAV]; done)
theorem setMix_nat {v : AV} : ∀ {p : List PE} {t : Ty} {x : t.den} {K : AV → Option R}, setMix t x p v (fun a => (K a).bind f) = (setMix t x p v K).bind f := by
  intro p
  induction p with
  | nil => intro t x K; cases t <;> first | rfl | (simp [setMix]; done)
  | cons q p ih =>
    intro t
    induction t generalizing q with
    | pair a b _ ihb =>
      intro x K
      cases q with
      | fld i => cases i with
        | zero => exact ih
        | succ i => exact ihb _
      | idx i => first | rfl | (simp [setMix]; done)
    | _ => intro x K; first | rfl | (simp [setMix]; done)
theorem setAV_nat {v : AV} : ∀ {a : AV} {p : List PE} {K : AV → Option R}, setAV a p v (fun a => (K a).bind f) = (setAV a p v K).bind f := by
  intro a
  induction a with
  | val t x =>
    intro p K
    cases v with
    | val s y => exact setVal_nat f
    | _ => exact setMix_nat f
  | cons a b iha ihb =>
    intro p K
    cases p with
    | nil => first | rfl | (simp [setAV]; done)
    | cons q p => cases q with
      | idx i => first | rfl | (simp [setAV]; done)
      | fld i => cases i with
        | zero => exact iha
        | succ i => exact ihb
  | _ => intro p K; cases p <;> first | rfl | (simp [setAV]; done)
theorem valK_nat {m : Lk} : ∀ {t : Ty} {a : AV} {K : t.den → List Nat → Option R}, valK m t a (fun x i => (K x i).bind f) = (valK m t a K).bind f := by
  intro t
  induction t with
  | pair a b iha ihb =>
    intro v K
    cases v with
    | val s x => exact diten_nat f
    | cons x y =>
      simp only [valK]
      rw [← iha]
      congr 1
      funext x' i
      exact ihb
    | _ => first | rfl | (simp [valK]; done)
  | list t _ =>
    intro v K
    cases v with
    | val s x => exact diten_nat f
    | nil => first | rfl | (simp [valK]; done)
    | row id ver =>
      simp only [valK]
      rw [← condn_nat]
      congr 1
      split <;> first | exact diten_nat f | rfl
    | rowv id ver lo hi =>
      simp only [valK]
      rw [← condn_nat]
      congr 1
      split <;> first | exact diten_nat f | rfl
    | _ => first | rfl | (simp [valK]; done)
  | unit =>
    intro v K
    cases v with
    | val s x => exact diten_nat f
    | _ => first | rfl | (simp [valK]; done)
  | _ =>
    intro v K
    cases v with
    | val s x => exact diten_nat f
    | _ => first | rfl | (simp [valK]; done)
theorem gatherK_nat {m : Lk} : ∀ {o : OT} {a : AV} {K : o.den → List (Option Nat) → List Nat → Option R}, gatherK m o a (fun x l i => (K x l i).bind f) = (gatherK m o a K).bind f := by
  intro o
  induction o with
  | v t => intro a K; exact valK_nat f
  | row t =>
    intro a K
    cases a with
    | row id ver =>
      simp only [gatherK]
      rw [← condn_nat]
      congr 1
      split <;> first | exact diten_nat f | rfl
    | nil => exact condn_nat f
    | _ => first | rfl | (simp [gatherK]; done)
  | pair a b iha ihb =>
    intro v K
    cases v with
    | cons x y =>
      simp only [gatherK]
      rw [← iha]
      congr 1
      funext x' i r
      exact ihb
    | val s x =>
      cases s with
      | pair s t =>
        simp only [gatherK]
        rw [← iha]
        congr 1
        funext x' i r
        exact ihb
      | _ => first | rfl | (simp [gatherK]; done)
    | _ => first | rfl | (simp [gatherK]; done)
  | unit =>
    intro v K
    cases v with
    | val s x => cases s <;> first | rfl | (simp [gatherK]; done)
    | _ => first | rfl | (simp [gatherK]; done)
  | ref o ih =>
    intro v K
    cases v with
    | ptr id ver p t =>
      cases p with
      | cons q p => first | rfl | (simp [gatherK]; done)
      | nil =>
        simp only [gatherK]
        rw [← condn_nat]
        congr 1
        split
        · rw [← iten_nat, ih]
        · rfl
    | _ => first | rfl | (simp [gatherK]; done)
theorem intBin_nat {op : BinOp} {k : IntKind} {a b : Int} {K : AV → Option R} : intBin op k a b (fun v => (K v).bind f) = (intBin op k a b K).bind f := by
  cases op <;> first | rfl | exact ncnd_nat f
theorem strBin_nat {op : BinOp} {a b : List UInt8} {K : AV → Option R} : strBin op a b (fun v => (K v).bind f) = (strBin op a b K).bind f := by
  cases op <;> first | rfl | exact bnd_nat f
theorem binK_nat {TT : TTab} {m : Lk} {op : BinOp} {t : TypeId} {x y : AV} {K : AV → Option R} : binK TT m op t x y (fun v => (K v).bind f) = (binK TT m op t x y K).bind f := by
  unfold binK
  split
  · exact ncnd_nat f
  · exact ncnd_nat f
  · rw [← iten_nat, intBin_nat]
  · exact strBin_nat f
  · exact condn_nat f
  · exact condn_nat f
  · split
    · rw [← condn_nat]
      congr 1
      rw [← valK_nat]
      congr 1
      funext a i
      rw [← valK_nat]
    · rfl
  · split
    · rw [← condn_nat]
      congr 1
      rw [← valK_nat]
      congr 1
      funext a i
      rw [← valK_nat]
    · rfl
  · rfl
theorem unK_nat {op : UnOp} {x : AV} {K : AV → Option R} : unK op x (fun v => (K v).bind f) = (unK op x K).bind f := by
  unfold unK
  split <;> rfl
theorem lenK_nat {m : Lk} {ty : Ty} {x : AV} {K : AV → Option R} : lenK m ty x (fun v => (K v).bind f) = (lenK m ty x K).bind f := by
  unfold lenK
  split
  · rfl
  · exact iten_nat f
  · exact condn_nat f
  · rw [← condn_nat]; congr 1; split <;> first | exact iten_nat f | rfl
  · rw [← condn_nat]; congr 1; split <;> first | exact iten_nat f | rfl
  · rfl
  · rfl
theorem indexAddrK_nat {m : Lk} {ty : Ty} {x i : AV} {K : AV → Option R} : indexAddrK m ty x i (fun v => (K v).bind f) = (indexAddrK m ty x i K).bind f := by
  unfold indexAddrK
  split
  · split
    · rw [← condn_nat]; congr 1; split <;> first | (rw [← iten_nat]; congr 1; exact bnd_nat f) | rfl
    · rw [← iten_nat]; congr 1; exact bnd_nat f
    · rw [← condn_nat]; congr 1; split <;> first | (rw [← iten_nat]; congr 1; exact bnd_nat f) | rfl
    · rw [← iten_nat, ← condn_nat, ← cndn_nat]
    · rw [← iten_nat, ← condn_nat, ← bnd_nat]
    · rfl
  · rfl
theorem loadK_nat {m : Lk} {t : Ty} {a : AV} {K : AV → Option R} : loadK m t a (fun v => (K v).bind f) = (loadK m t a K).bind f := by
  unfold loadK
  split
  · rw [← iten_nat, ← condn_nat]
    congr 2
    split
    · exact getAV_nat f
    · rw [← bnd_nat]
      congr 1
      funext x
      exact getVal_nat f
    · rfl
  · exact iten_nat f
  · rfl
theorem storeK_nat {m : Lk} {t : Ty} {a v : AV} {K : Mem → Option R} : storeK m t a v (fun u => (K u).bind f) = (storeK m t a v K).bind f := by
  unfold storeK
  split
  · rw [← iten_nat, ← condn_nat, ← condn_nat]
    congr 3
    split
    · exact setAV_nat f
    · rw [← bnd_nat]
      congr 1
      funext x
      rw [← valK_nat]
      congr 1
      funext y ids
      exact setVal_nat f
    · rfl
  · rfl
theorem fieldAddrK_nat {m : Lk} {ty : Ty} {x : AV} {g : Nat} {K : AV → Option R} : fieldAddrK m ty x g (fun v => (K v).bind f) = (fieldAddrK m ty x g K).bind f := by
  unfold fieldAddrK
  split
  · rw [← iten_nat, ← condn_nat]
    congr 2
    split <;> rfl
  · rw [← iten_nat]
    congr 1
    rw [← getVal_nat]
    congr 1
    funext v
    cases v <;> rfl
  · rfl
theorem sliceK_nat {m : Lk} {ty : Ty} {x : AV} {lo hi : Option AV} {K : AV → Option R} : sliceK m ty x lo hi (fun v => (K v).bind f) = (sliceK m ty x lo hi K).bind f := by
  unfold sliceK
  split
  · split <;> first | exact bnd_nat f | rfl
  · rw [← iten_nat]; congr 1; split <;> first | exact bnd_nat f | rfl
  · rw [← condn_nat]; congr 1
    split
    · rw [← iten_nat]; congr 1; split <;> first | exact bnd_nat f | rfl
    · rw [← iten_nat]; congr 1; split <;> first | exact bnd_nat f | rfl
    · rfl
  · split <;> first | exact cndn_nat f | rfl
  · rfl
theorem appendK_nat {m : Lk} {d : Nat} {t : Ty} {eb : Nat} {x y : AV} {K : AV → Mem → Option R} : appendK m d t eb x y (fun v u => (K v u).bind f) = (appendK m d t eb x y K).bind f := by
  unfold appendK
  split
  · rw [← valK_nat]; congr 1; funext ys ids; exact bnd_nat f
  · rw [← condn_nat]; congr 1
    split
    · rw [← diten_nat]
      congr 1
      funext h
      rw [← valK_nat]; congr 1; funext ys ids
      cases memB _ ids
      · exact bnd_nat f
      · rfl
    · rfl
  · rw [← condn_nat]; congr 1
    split
    · rw [← diten_nat]
      congr 1
      funext h
      cases hasList t
      · simp only [cond_false]
        rw [← valK_nat]; congr 1; funext ys ids
        exact cndn_nat f
      · rfl
    · rfl
  · rfl
theorem convK_nat {m : Lk} {d : Nat} {src dst : Ty} {x : AV} {K : AV → Mem → Option R} : convK m d src dst x (fun v u => (K v u).bind f) = (convK m d src dst x K).bind f := by
  unfold convK
  split
  · rfl
  · rfl
  · rfl
  · rw [← valK_nat]
  · rfl
theorem litK_nat {m : Lk} {t : Ty} : ∀ {n i : Nat} {parts : List (Nat × AV)} {K : List t.den → List Nat → Option R}, litK m t i n parts (fun x i => (K x i).bind f) = (litK m t i n parts K).bind f := by
  intro n
  induction n with
  | zero => intro i parts K; cases parts <;> rfl
  | succ n ih =>
    intro i parts K
    cases parts with
    | nil => simp only [litK]; exact ih
    | cons p r =>
      obtain ⟨j, v⟩ := p
      simp only [litK]
      rw [← cond_nat]
      congr 1
      · rw [← valK_nat]; congr 1; funext x ids; exact ih
      · exact ih
theorem buildK_nat {ty : Ty} : ∀ {parts : List (Nat × AV)} {a : AV} {K : AV → Option R}, buildK ty a parts (fun v => (K v).bind f) = (buildK ty a parts K).bind f := by
  intro parts
  induction parts with
  | nil => intro a K; rfl
  | cons p r ih =>
    obtain ⟨i, v⟩ := p
    intro a K
    simp only [buildK]
    split
    · rw [← condn_nat]; congr 1
      rw [← setAV_nat]; congr 1; funext a'; exact ih
    · rfl
theorem gArgs_nat {m : Lk} : ∀ {ps : List PM} {as_ : List AV} {K : (insOT ps).den → List AI → Option R}, gArgs m ps as_ (fun x l => (K x l).bind f) = (gArgs m ps as_ K).bind f := by
  intro ps
  induction ps with
  | nil => intro as_ K; cases as_ <;> first | rfl | (simp [gArgs]; done)
  | cons p ps ih =>
    intro as_ K
    cases as_ with
    | nil => cases p <;> first | rfl | (simp [gArgs]; done)
    | cons a as_ =>
      cases p with
      | ro t => simp only [gArgs]; rw [← valK_nat]; congr 1; funext x ids; exact ih
      | io o => simp only [gArgs]; rw [← gatherK_nat]; congr 1; funext x l ids; exact ih
      | mv o => simp only [gArgs]; rw [← gatherK_nat]; congr 1; funext x l ids; exact ih
      | ptr o =>
        cases a with
        | ptr id ver p t =>
          simp only [gArgs]
          rw [← iten_nat, ← condn_nat]
          congr 2
          split
          · rw [← getAV_nat]; congr 1; funext sub
            rw [← gatherK_nat]; congr 1; funext x l ids; exact ih
          · rfl
        | _ => first | rfl | (simp [gArgs]; done)
      | fn g => cases a <;> first | rfl | (simp only [gArgs]; rw [← condn_nat]; congr 1; exact ih)
theorem outsK_nat {m : Lk} {site : Nat} : ∀ {ps : List PM} {y : (outsOT ps).den} {l : List AI} {j : Nat} {K : Mem → Option R}, outsK m site ps y l j (fun u => (K u).bind f) = (outsK m site ps y l j K).bind f := by
  intro ps
  induction ps with
  | nil => intro y l j K; first | rfl | (simp [outsK]; done)
  | cons p ps ih =>
    intro y l j K
    cases l with
    | nil => cases p <;> first | rfl | (simp [outsK]; done)
    | cons a l =>
      cases p with
      | ro t => exact ih
      | fn g => exact ih
      | mv o => exact ih
      | io o => exact ih
      | ptr o =>
        simp only [outsK]
        split
        · rw [← setAV_nat]; congr 1; funext c'; exact ih
        · rfl
theorem callK_nat {m : Lk} {d : Nat} {F : Fn} {as_ : List AV} {K : AV → Mem → Option R} : callK m d F as_ (fun v u => (K v u).bind f) = (callK m d F as_ K).bind f := by
  unfold callK
  rw [← gArgs_nat]
  congr 1
  funext x l
  rw [← condn_nat]
  congr 1
  rw [← bnd_nat]
  congr 1
  funext r
  exact outsK_nat f
set_option maxHeartbeats 1000000 in
theorem opK_nat {TT : TTab} {G : Gam} {m : Lk} {ev : Operand → AV} {o : Oper} {K : AV → Mem → Option R} : opK TT G m ev o (fun v u => (K v u).bind f) = (opK TT G m ev o K).bind f := by
  unfold opK
  split
  · rfl
  · rfl
  · split
    · exact cnd_nat f
    · rfl
  · split <;> rfl
  · split
    · exact condn_nat f
    · rfl
  · split
    · rw [← condn_nat]; congr 1; exact buildK_nat f
    · rfl
  · split
    · rw [← condn_nat]; congr 1; exact litK_nat f
    · rfl
  · split
    · exact loadK_nat f
    · rfl
  · split
    · exact storeK_nat f
    · rfl
  · split
    · exact condn_nat f
    · rfl
    · rfl
    · rfl
  · rw [← condn_nat]; congr 1; exact binK_nat f
  · exact unK_nat f
  · split
    · exact convK_nat f
    · rfl
  · split
    · rw [← condn_nat, ← cndn_nat]
    · rfl
  · split
    · exact sliceK_nat f
    · rfl
  · split
    · exact fieldAddrK_nat f
    · rfl
  · split
    · rw [← condn_nat]; congr 1; exact getAV_nat f
    · rfl
  · split
    · exact indexAddrK_nat f
    · rfl
  · split
    · exact bnd_nat f
    · rw [← condn_nat, ← diten_nat]
      congr 2
      funext h
      exact bnd_nat f
    · rfl
  · split
    · exact condn_nat f
    · rfl
  · split
    · split
      · split
        · exact lenK_nat f
        · rfl
      · rfl
    · split
      · rw [← condn_nat]; congr 1
        split
        · exact appendK_nat f
        · rfl
      · rfl
    · split
      · exact iten_nat f
      · rfl
    · split
      · exact iten_nat f
      · rfl
    · split
      · split
        · exact callK_nat f
        · rfl
      · rfl
    · rfl
  · rfl
end
end Go.Vi

set_option autoImplicit false
set_option linter.unusedVariables false
set_option linter.unusedSimpArgs false
namespace Go.Vi
open Go
/-! ## A state of affairs, memory as a function -/
structure InvA (M : Ms) (tmps : List AV) (L : Lk) (gs : List AV) (a : Act) (w : World) : Prop where
  len : tmps.length = a.tmps.size
  tmps : ∀ i, AVR M L w (getT tmps i) (a.tmps.getD i undef)
  glen : gs.length = M.X.gv.length
  gh : ∀ i, AVR M L w (getT gs i) (M.X.gv.getD i undef)
  win : WInv M L w
  defers : a.defers = []
theorem InvA.of {M : Ms} {st : St} {a : Act} {w : World} (h : Inv M st a w) : InvA M st.tmps (look st.mem) st.ghosts a w := ⟨h.len, h.tmps, h.glen, h.gh, h.win, h.defers⟩
theorem InvA.to {M : Ms} {st : St} {a : Act} {w : World} (h : InvA M st.tmps (look st.mem) st.ghosts a w) : Inv M st a w := ⟨h.len, h.tmps, h.glen, h.gh, h.win, h.defers⟩
theorem const_ok {M : Ms} {L : Lk} {w : World} (v : Value) : AVR M L w (constAV v) v := by
  unfold constAV
  split
  · exact avr_int.2 rfl
  · exact avr_bool.2 rfl
  · rename_i s
    refine avr_str.2 ?_
    obtain ⟨⟨s⟩⟩ := s
    rfl
  · exact avr_nil.2 rfl
  · exact avr_err.2 (.inl ⟨rfl, rfl⟩)
  · trivial
theorem gv_ok {M : Ms} {L : Lk} {w : World} : ∀ {GL : List (Nat × GV)}, (∀ p ∈ GL, Fre M w p.1 ∧ ∃ cs, CellsAt w p.1 0 cs ∧ Rep (Fre M w) w p.2.t p.2.x cs) → ∀ g, AVR M L w (gvLook GL g) (.pointer (some ⟨g, 0, none⟩)) := by
  intro GL
  induction GL with
  | nil => intro _ g; trivial
  | cons p GL ih =>
    intro h g
    obtain ⟨i, e⟩ := p
    simp only [gvLook]
    cases hb : Nat.beq i g
    · exact ih (fun p hp => h p (List.mem_cons_of_mem _ hp)) g
    · have := Nat.eq_of_beq_eq_true hb
      subst this
      obtain ⟨h1, cs, h2, h3⟩ := h (i, e) (by simp)
      exact ⟨[_], ⟨i, 0, cs, rfl, h1, h2, h3⟩, rfl⟩
theorem ev_ok {M : Ms} {tmps : List AV} {L : Lk} {gs : List AV} {a : Act} {w : World} {GL : List (Nat × GV)} (h : InvA M tmps L gs a w) (hGL : M.X.GL = GL) (x : Operand) : AVR M L w (evT GL tmps x) (a.eval x) := by
  cases x with
  | tmp t => exact h.tmps t
  | const v => exact const_ok v
  | func f => exact avr_fn.2 rfl
  | global g => exact gv_ok (by have := h.win.glob; rw [← hGL]; exact this) g
theorem put_getD (a : Act) (d : Option Nat) (v : Value) (i : Nat) : (a.put d v).tmps.getD i undef = if d = some i ∧ i < a.tmps.size then v else a.tmps.getD i undef := by
  cases d with
  | none => simp [Act.put]
  | some d =>
    simp only [Act.put, Array.getD_eq_getD_getElem?, Array.getElem?_setIfInBounds, Option.some.injEq]
    by_cases h : d = i
    · subst h
      by_cases h2 : d < a.tmps.size <;> simp [h2]
    · simp [h]
theorem put_size (a : Act) (d : Option Nat) (v : Value) : (a.put d v).tmps.size = a.tmps.size := by cases d <;> simp [Act.put]
theorem put_defers (a : Act) (d : Option Nat) (v : Value) : (a.put d v).defers = a.defers := by cases d <;> rfl
theorem length_setO (l : List AV) (d : Option Nat) (v : AV) : (setO l d v).length = l.length := by cases d <;> simp [setO, length_setT]
theorem InvA.step {M M' : Ms} {tmps : List AV} {L L' : Lk} {gs : List AV} {a : Act} {w w' : World} (h : InvA M tmps L gs a w) (hl : Later M M' L L' w w') (hw : WInv M' L' w') {d : Option Nat} {v : AV} {val : Value} (hv : AVR M' L' w' v val) :
    InvA M' (setO tmps d v) L' gs (a.put d val) w' where
  len := by rw [length_setO, put_size, h.len]
  tmps i := by
    rw [put_getD]
    cases d with
    | none =>
      simp only [setO, reduceCtorEq, false_and, if_false]
      exact hl.avr (h.tmps i)
    | some d =>
      simp only [setO, Option.some.injEq]
      rw [getT_setT]
      by_cases hi : i = d ∧ d < tmps.length
      · obtain ⟨rfl, hi⟩ := hi
        rw [if_pos ⟨rfl, hi⟩, if_pos ⟨rfl, by rw [← h.len]; exact hi⟩]
        exact hv
      · rw [if_neg hi, if_neg]
        · exact hl.avr (h.tmps i)
        · rintro ⟨rfl, hlt⟩; exact hi ⟨rfl, by rw [h.len]; exact hlt⟩
  glen := by rw [h.glen, show M'.X = M.X from hl.ctx]
  gh i := by rw [show M'.X = M.X from hl.ctx]; exact hl.avr (h.gh i)
  win := hw
  defers := by rw [put_defers]; exact h.defers
theorem InvA.world {M : Ms} {tmps : List AV} {L : Lk} {gs : List AV} {a : Act} {w w' : World} (h : InvA M tmps L gs a w) (hh : w'.heap = w.heap) (hs : Same w w') : InvA M tmps L gs a w' := by
  have hl : Later M M L L w w' := ⟨rfl, fun b hb => ⟨⟨hb.1, hb.2.1, by rw [hh]; exact hb.2.2⟩, by rw [hh]⟩, fun _ => Nat.le_refl _, fun _ _ => ⟨rfl, Compat.refl _⟩⟩
  refine ⟨h.len, fun i => hl.avr (h.tmps i), h.glen, fun i => hl.avr (h.gh i), ?_, h.defers⟩
  have hw := h.win
  exact ⟨fun i => hl.blk (hw.blk i) rfl fun b hb => ⟨hb, by rw [hh]⟩, fun b i hb => by have := hw.own b i hb; rw [hh]; exact this, hw.hid, hw.ed,
    ⟨hs.os.trans hw.frame.os, hs.tape.trans hw.frame.tape, hs.output.trans hw.frame.output, by rw [hh]; exact hw.frame.size, fun b hb he => by rw [hh]; exact hw.frame.old b hb he, fun p hp => by rw [hh]; exact hw.frame.cut p hp⟩, hl.glob hw.glob⟩

section
variable {P : Program}
/-- a context that is in order -/
structure EnOk (P : Program) (E : En) : Prop where
  tt : ttOk P E.TT = true
  g : GamOk P E.GL E.G
theorem wanted_none {ops : Array Oper} {o : Oper} {a : Act} (h : o.guard = none) : Region.wanted o (yielded ops a.tmps) = true := by simp [Region.wanted, h]
theorem wanted_some {ops : Array Oper} {o : Oper} {a : Act} {j d : Nat} {want b : Bool} (h : o.guard = some (j, want)) (hd : (ops[j]?).bind (·.dst) = some d) (hv : a.tmps.getD d undef = .bool b) : Region.wanted o (yielded ops a.tmps) = (b == want) := by
  have e : a.tmps[d]? = some (.bool b) := by
    rw [Array.getD_eq_getD_getElem?] at hv
    cases hq : a.tmps[d]? with
    | none => rw [hq] at hv; simp [undef] at hv
    | some x => rw [hq] at hv; simp at hv; rw [hv]
  simp [Region.wanted, h, yielded, hd, e]
theorem wanted_und {ops : Array Oper} {o : Oper} {a : Act} {j d : Nat} {want : Bool} (h : o.guard = some (j, want)) (hd : (ops[j]?).bind (·.dst) = some d) (hv : a.tmps.getD d undef = undef) : Region.wanted o (yielded ops a.tmps) = false := by
  have e : a.tmps[d]? = some undef ∨ a.tmps[d]? = none := by
    rw [Array.getD_eq_getD_getElem?] at hv
    cases hq : a.tmps[d]? with
    | none => exact .inr rfl
    | some x => rw [hq] at hv; simp at hv; rw [hv]; exact .inl rfl
  rcases e with e | e <;> simp [Region.wanted, h, yielded, hd, e, undef]
theorem und_put {M : Ms} {tmps : List AV} {L : Lk} {gs : List AV} {a : Act} {w : World} (h : InvA M tmps L gs a w) (d : Option Nat) : InvA M (setO tmps d .und) L gs (a.put d undef) w := h.step (Later.refl _ _ _) h.win rfl

/-- what an operation does, in the state as it is -/
theorem act_ok {E : En} (hE : EnOk P E) {o : Oper} {m : Lk} {tmps : List AV} {R : Type} {r : R} {K : AV → Mem → Option R} (h : opK E.TT E.G m (evT E.GL tmps) o K = some r) :
    ∃ v u, K v u = some r ∧ ∀ {M : Ms} {L : Lk} {gs : List AV} {a : Act} {w : World}, M.X.GL = E.GL → Msk m L → (∀ i ∈ fsts u, m i = L i) → (fsts u).Nodup → InvA M tmps L gs a w →
      ∀ (next : Act → World → Prop) (Q : Exit → Act → World → Prop), (∀ M' a' w', M'.X = M.X → InvA M' (setO tmps o.dst v) (updL L u) gs a' w' → next a' w') → o.wp P a w next Q := by
  obtain ⟨v, u, hk, hv⟩ := opK_ok (P := P) hE.tt hE.g h
  refine ⟨v, u, hk, ?_⟩
  intro M L gs a w hGL hm hmu hn hi next Q hnext
  refine hv hGL hm hmu hn hi.win (ev_ok hi hGL) next Q ?_
  rintro val w' ⟨M', h1, h2, h3⟩
  exact hnext M' _ _ h1.ctx (hi.step h1 h2 h3)

/-! ## Regions in the order of the text -/
theorem setT_self {l : List AV} {d : Nat} {v : AV} (h : getT l d = v) (hv : v ≠ .und) : setT l d v = l := by
  induction l generalizing d with
  | nil => rfl
  | cons a l ih =>
    cases d with
    | zero => simp [getT] at h; simp [setT, h]
    | succ d => simp [getT] at h; simp [setT, ih h]
theorem runOp1_ok {E : En} (hE : EnOk P E) {o : Oper} {st : St} {R : Type} {r : R} {K : St → Option R} (h : runOp1 E o st K = some r) :
    ∃ st', K st' = some r ∧ st'.ghosts = st.ghosts ∧ ∀ {M : Ms} {a : Act} {w : World}, M.X.GL = E.GL → InvA M st.tmps (look st.mem) st.ghosts a w →
      ∀ (next : Act → World → Prop) (Q : Exit → Act → World → Prop), (∀ M' a' w', M'.X = M.X → InvA M' st'.tmps (look st'.mem) st.ghosts a' w' → next a' w') → o.wp P a w next Q := by
  unfold runOp1 at h
  obtain ⟨v, u, hk, hv⟩ := act_ok hE h
  obtain ⟨hn, hk⟩ := cond_none hk
  refine ⟨_, hk, rfl, ?_⟩
  intro M a w hGL hi next Q hnext
  refine hv hGL (fun i => .inl rfl) (fun i _ => rfl) ((nodupB_iff _).1 hn) hi next Q ?_
  intro M' a' w' hX hi'
  exact hnext M' a' w' hX (by rw [look_puts]; exact hi')
theorem runOp_ok {E : En} (hE : EnOk P E) {ops : Array Oper} {o : Oper} {st : St} {R : Type} {r : R} {K : St → Option R} (h : runOp E ops o st K = some r) :
    ∃ st', K st' = some r ∧ st'.ghosts = st.ghosts ∧ ∀ {M : Ms} {a : Act} {w : World} {i : Nat}, ops[i]? = some o → M.X.GL = E.GL → InvA M st.tmps (look st.mem) st.ghosts a w →
      ∀ (next : Act → World → Prop) (Q : Exit → Act → World → Prop), (∀ M' a' w', M'.X = M.X → InvA M' st'.tmps (look st'.mem) st.ghosts a' w' → next a' w') → wpOp P ops Q i next a w := by
  have fin : ∀ {st0 : St}, st0 = st → runOp1 E o st0 K = some r → (∀ {M : Ms} {a : Act} {w : World}, InvA M st.tmps (look st.mem) st.ghosts a w → Region.wanted o (yielded ops a.tmps) = true) →
      ∃ st', K st' = some r ∧ st'.ghosts = st.ghosts ∧ ∀ {M : Ms} {a : Act} {w : World} {i : Nat}, ops[i]? = some o → M.X.GL = E.GL → InvA M st.tmps (look st.mem) st.ghosts a w →
      ∀ (next : Act → World → Prop) (Q : Exit → Act → World → Prop), (∀ M' a' w', M'.X = M.X → InvA M' st'.tmps (look st'.mem) st.ghosts a' w' → next a' w') → wpOp P ops Q i next a w := by
    rintro _ rfl h hw
    obtain ⟨st', hk, hg, hv⟩ := runOp1_ok hE h
    refine ⟨st', hk, hg, ?_⟩
    intro M a w i hi hGL hI next Q hnext
    unfold wpOp
    simp only [hi, hw hI, if_true]
    exact .inl (hv hGL hI next Q hnext)
  have skip : ∀ {st0 : St}, st0 = { st with tmps := setO st.tmps o.dst .und } → K st0 = some r → (∀ {M : Ms} {a : Act} {w : World}, InvA M st.tmps (look st.mem) st.ghosts a w → Region.wanted o (yielded ops a.tmps) = false) →
      ∃ st', K st' = some r ∧ st'.ghosts = st.ghosts ∧ ∀ {M : Ms} {a : Act} {w : World} {i : Nat}, ops[i]? = some o → M.X.GL = E.GL → InvA M st.tmps (look st.mem) st.ghosts a w →
      ∀ (next : Act → World → Prop) (Q : Exit → Act → World → Prop), (∀ M' a' w', M'.X = M.X → InvA M' st'.tmps (look st'.mem) st.ghosts a' w' → next a' w') → wpOp P ops Q i next a w := by
    rintro _ rfl h hw
    refine ⟨_, h, rfl, ?_⟩
    intro M a w i hi hGL hI next Q hnext
    unfold wpOp
    simp only [hi, hw hI, Bool.false_eq_true, if_false]
    exact hnext M _ _ rfl (und_put hI o.dst)
  unfold runOp at h
  split at h
  · rename_i hg
    exact fin rfl h fun _ => wanted_none hg
  · rename_i j want hg
    split at h
    · rename_i d hd
      split at h
      · rename_i b hb
        have hself : ∀ c : Bool, b = c → setT st.tmps d (.val .bool c) = st.tmps := fun c hc => setT_self (by rw [hb, hc]) (by simp)
        have hwant : ∀ {M : Ms} {a : Act} {w : World}, InvA M st.tmps (look st.mem) st.ghosts a w → Region.wanted o (yielded ops a.tmps) = (b == want) := by
          intro M a w hI
          have := hI.tmps d
          rw [hb] at this
          exact wanted_some hg hd (avr_bool.1 this)
        cases hbv : (b : Bool) with
        | true =>
          rw [hbv] at h
          simp only [cnd, cond_true] at h
          cases want with
          | true => exact fin (by rw [hself true hbv]) h fun hI => by rw [hwant hI, hbv]; rfl
          | false => exact skip (by rw [hself true hbv]) h fun hI => by rw [hwant hI, hbv]; rfl
        | false =>
          rw [hbv] at h
          simp only [cnd, cond_false] at h
          cases want with
          | true => exact skip (by rw [hself false hbv]) h fun hI => by rw [hwant hI, hbv]; rfl
          | false => exact fin (by rw [hself false hbv]) h fun hI => by rw [hwant hI, hbv]; rfl
      · rename_i hb
        exact skip rfl h fun hI => wanted_und hg hd (by have := hI.tmps d; rw [hb] at this; exact this)
      · simp at h
    · simp at h
theorem runOps_ok {E : En} (hE : EnOk P E) {ops : Array Oper} : ∀ {l : List Oper} {n : Nat} {st : St} {R : Type} {r : R} {K : St → Option R}, (∀ k o, l[k]? = some o → ops[n + k]? = some o) → runOps E ops l st K = some r →
    ∃ st', K st' = some r ∧ st'.ghosts = st.ghosts ∧ ∀ {M : Ms} {a : Act} {w : World}, M.X.GL = E.GL → InvA M st.tmps (look st.mem) st.ghosts a w →
      ∀ (Q : Exit → Act → World → Prop), (∀ M' a' w', M'.X = M.X → InvA M' st'.tmps (look st'.mem) st.ghosts a' w' → Q .normal a' w') → wpOps P ops Q (List.range' n l.length) a w := by
  intro l
  induction l with
  | nil =>
    intro n st R r K _ h
    exact ⟨st, h, rfl, fun hGL hI Q hQ => hQ _ _ _ rfl hI⟩
  | cons o l ih =>
    intro n st R r K hl h
    simp only [runOps] at h
    obtain ⟨st1, h1, g1, hv⟩ := runOp_ok hE h
    obtain ⟨st', h2, g2, hv2⟩ := ih (n := n + 1) (fun k o hk => by have := hl (k + 1) o (by simpa using hk); rwa [show n + (k + 1) = n + 1 + k by omega] at this) h1
    refine ⟨st', h2, by rw [g2, g1], ?_⟩
    intro M a w hGL hI Q hQ
    simp only [List.length_cons, List.range'_succ]
    rw [wpOps_cons]
    refine hv (hl 0 o (by simp)) hGL hI _ Q ?_
    intro M' a' w' hX hI'
    rw [← g1] at hI'
    refine hv2 (by rw [hX]; exact hGL) hI' Q ?_
    intro M'' a'' w'' hX' hI''
    rw [g1] at hI''
    exact hQ M'' a'' w'' (hX'.trans hX) hI''
end
end Go.Vi

set_option autoImplicit false
set_option linter.unusedVariables false
set_option linter.unusedSimpArgs false
namespace Go.Vi
open Go
section
variable {P : Program}
/-! ## Regions that draw their order -/
structure Res where
  v : AV
  u : Mem
  ft : List Nat
def actD (E : En) (o : Oper) (tmps : List AV) (L : Lk) : Option Res :=
  (opK E.TT E.G (mask L (foot L (evT E.GL tmps) o)) (evT E.GL tmps) o fun v u => some (v, u)).bind fun p =>
    cond (nodupB (fsts p.2) && allIn (fsts p.2) (foot L (evT E.GL tmps) o)) (some ⟨p.1, p.2, foot L (evT E.GL tmps) o⟩) none
def opD (E : En) (ops : Array Oper) (o : Oper) (tmps : List AV) (L : Lk) : Option Res :=
  match o.guard with
  | none => actD E o tmps L
  | some (j, want) => match (ops[j]?).bind (·.dst) with
    | some d => match getT tmps d with
      | .val .bool b => cond ((b : Bool) == want) (actD E o tmps L) (some ⟨.und, [], []⟩)
      | .und => some ⟨.und, [], []⟩
      | _ => none
    | none => none
theorem runOpD1_some {E : En} {o : Oper} {st : St} {R : Type} {r : R} {K : St → Touch → Option R} (h : runOpD1 E o st K = some r) :
    ∃ p, actD E o st.tmps (look st.mem) = some p ∧ K { st with tmps := setO st.tmps o.dst p.v, mem := puts st.mem p.u } ⟨p.ft, fsts p.u⟩ = some r := by
  unfold runOpD1 at h
  have hn := opK_nat (TT := E.TT) (G := E.G) (m := mask (look st.mem) (foot (look st.mem) (evT E.GL st.tmps) o)) (ev := evT E.GL st.tmps) (o := o) (K := fun v u => some (v, u))
    (fun p : AV × Mem => cond (nodupB (fsts p.2) && allIn (fsts p.2) (foot (look st.mem) (evT E.GL st.tmps) o)) (K { st with tmps := setO st.tmps o.dst p.1, mem := puts st.mem p.2 } ⟨foot (look st.mem) (evT E.GL st.tmps) o, fsts p.2⟩) none)
  simp only [Option.bind_some] at hn
  rw [hn] at h
  cases hop : opK E.TT E.G (mask (look st.mem) (foot (look st.mem) (evT E.GL st.tmps) o)) (evT E.GL st.tmps) o fun v u => some (v, u) with
  | none => rw [hop] at h; simp at h
  | some p =>
    rw [hop] at h
    simp only [Option.bind_some] at h
    obtain ⟨hc, h⟩ := cond_none h
    exact ⟨⟨p.1, p.2, foot (look st.mem) (evT E.GL st.tmps) o⟩, by unfold actD; rw [hop]; simp only [Option.bind_some, hc, cond_true], h⟩
theorem runOpD_some {E : En} {ops : Array Oper} {o : Oper} {st : St} {R : Type} {r : R} {K : St → Touch → Option R} (h : runOpD E ops o st K = some r) :
    ∃ p, opD E ops o st.tmps (look st.mem) = some p ∧ K { st with tmps := setO st.tmps o.dst p.v, mem := puts st.mem p.u } ⟨p.ft, fsts p.u⟩ = some r := by
  unfold runOpD at h
  unfold opD
  split at h
  · rename_i hg
    rw [hg]
    exact runOpD1_some h
  · rename_i j want hg
    rw [hg]
    simp only
    split at h
    · rename_i d hd
      rw [hd]
      simp only
      split at h
      · rename_i b hb
        rw [hb]
        simp only
        have hself : ∀ c : Bool, b = c → setT st.tmps d (.val .bool c) = st.tmps := fun c hc => setT_self (by rw [hb, hc]) (by simp)
        cases hbv : (b : Bool) with
        | true =>
          rw [hbv] at h
          simp only [cnd, cond_true] at h
          cases want with
          | true => rw [hself true hbv] at h; simpa using runOpD1_some h
          | false => rw [hself true hbv] at h; exact ⟨⟨.und, [], []⟩, rfl, h⟩
        | false =>
          rw [hbv] at h
          simp only [cnd, cond_false] at h
          cases want with
          | true => rw [hself false hbv] at h; exact ⟨⟨.und, [], []⟩, rfl, h⟩
          | false => rw [hself false hbv] at h; simpa using runOpD1_some h
      · rename_i hb
        rw [hb]
        exact ⟨⟨.und, [], []⟩, rfl, h⟩
      · simp at h
    · simp at h

/-! what an operation looks at -/
theorem map_congr_in {ev ev' : Operand → AV} {l : List Operand} (h : ∀ x ∈ l, ev x = ev' x) : l.map ev = l.map ev' := List.map_congr_left h
set_option maxHeartbeats 1000000 in
theorem opK_congr {TT : TTab} {G : Gam} {m : Lk} {ev ev' : Operand → AV} {o : Oper} {R : Type} {K : AV → Mem → Option R} (h : ∀ x ∈ o.op.operands.toList, ev x = ev' x) : opK TT G m ev o K = opK TT G m ev' o K := by
  unfold opK
  generalize o.op = op at h ⊢
  have parts : ∀ ps : List (Nat × Operand), (∀ x ∈ ps.map (·.2), ev x = ev' x) → (ps.map fun p => (p.1, ev p.2)) = ps.map fun p => (p.1, ev' p.2) := by
    intro ps hp
    apply List.map_congr_left
    intro p hp'
    rw [hp p.2 (List.mem_map.2 ⟨p, hp', rfl⟩)]
  cases op with
  | move x => simp only [h x (by simp [Op.operands])]
  | assign x => simp only [h x (by simp [Op.operands])]
  | pick c a b => simp only [h c (by simp [Op.operands]), h a (by simp [Op.operands]), h b (by simp [Op.operands])]
  | box e x => simp only [h x (by simp [Op.operands])]
  | build t ps => simp only [parts ps.toList (fun x hx => h x (by simpa [Op.operands] using hx))]
  | buildSlice t n ps => simp only [parts ps.toList (fun x hx => h x (by simpa [Op.operands] using hx))]
  | load t x => simp only [h x (by simp [Op.operands])]
  | store t a v => simp only [h a (by simp [Op.operands]), h v (by simp [Op.operands])]
  | nilCheck x => simp only [h x (by simp [Op.operands])]
  | binOp op t x y z => simp only [h x (by simp [Op.operands]), h y (by simp [Op.operands])]
  | unOp op t x => simp only [h x (by simp [Op.operands])]
  | convert s t x => simp only [h x (by simp [Op.operands])]
  | makeSlice t l c => simp only [h l (by simp [Op.operands])]
  | slice t x lo hi mx =>
    have e1 : lo.map ev = lo.map ev' := by cases lo with
      | none => rfl
      | some y => simp only [Option.map_some, h y (by simp [Op.operands])]
    have e2 : hi.map ev = hi.map ev' := by cases hi with
      | none => rfl
      | some y => simp only [Option.map_some, h y (by simp [Op.operands])]
    cases mx with
    | none => simp only [h x (by simp [Op.operands]), e1, e2]
    | some _ => rfl
  | fieldAddr s x f => simp only [h x (by simp [Op.operands])]
  | field s x f => simp only [h x (by simp [Op.operands])]
  | indexAddr t x i => simp only [h x (by simp [Op.operands]), h i (by simp [Op.operands])]
  | index t x i => simp only [h x (by simp [Op.operands]), h i (by simp [Op.operands])]
  | extract x i => simp only [h x (by simp [Op.operands])]
  | call c =>
    have ha : ∀ x ∈ c.args.toList, ev x = ev' x := fun x hx => h x (by
      simp only [Op.operands, Call.operands, Array.toList_append, List.mem_append]
      exact .inr hx)
    have e := map_congr_in ha
    simp only [e]
    cases hc : c.callee with
    | builtin b =>
      cases b with
      | len =>
        simp only
        split
        · rename_i x t ts hx ht
          rw [ha x (by rw [hx]; simp)]
        · rfl
      | append =>
        simp only
        split
        · rename_i x y t u ts d hx ht hd
          rw [ha x (by rw [hx]; simp), ha y (by rw [hx]; simp)]
        · rfl
      | _ => rfl
    | value f =>
      simp only [h f (by simp [Op.operands, Call.operands, hc])]
    | invoke r n => rfl
  | _ => rfl
theorem idsIn_congr {m m' : Lk} : ∀ {l : List Nat}, (∀ i ∈ l, m i = m' i) → idsIn m l = idsIn m' l := by
  intro l
  induction l with
  | nil => intro _; rfl
  | cons i l ih => intro h; simp only [idsIn]; rw [h i (by simp), ih fun j hj => h j (List.mem_cons_of_mem _ hj)]
theorem idsOps_congr {ev ev' : Operand → AV} : ∀ {l : List Operand}, (∀ x ∈ l, ev x = ev' x) → idsOps ev l = idsOps ev' l := by
  intro l
  induction l with
  | nil => intro _; rfl
  | cons i l ih => intro h; simp only [idsOps]; rw [h i (by simp), ih fun j hj => h j (List.mem_cons_of_mem _ hj)]
theorem foot_congr {m m' : Lk} {ev ev' : Operand → AV} {o : Oper} (h : ∀ x ∈ o.op.operands.toList, ev x = ev' x) (hm : ∀ i ∈ foot m ev o, m i = m' i) : foot m' ev' o = foot m ev o := by
  dsimp only [foot] at hm ⊢
  cases hc : copies o.op with
  | true => rfl
  | false =>
    rw [hc] at hm
    simp only [cond_false] at hm ⊢
    rw [← idsOps_congr h, idsIn_congr (m := m') (m' := m) fun i hi => (hm i (by simp [hi])).symm]
theorem mask_congr {m m' : Lk} {F : List Nat} (h : ∀ i ∈ F, m i = m' i) : mask m F = mask m' F := by
  funext i
  unfold mask
  cases hm : memB i F
  · rfl
  · simp only [cond_true]; exact h i ((memB_iff i F).1 hm)
theorem mask_msk (m : Lk) (F : List Nat) : Msk (mask m F) m := by
  intro i
  unfold mask
  cases memB i F
  · exact .inr rfl
  · exact .inl rfl
theorem mask_in {m : Lk} {F : List Nat} {i : Nat} (h : i ∈ F) : mask m F i = m i := by
  unfold mask; rw [(memB_iff i F).2 h]; rfl
theorem allIn_iff {l k : List Nat} : allIn l k = true ↔ ∀ i ∈ l, i ∈ k := by
  induction l with
  | nil => simp [allIn]
  | cons i l ih => simp only [allIn, Bool.and_eq_true, memB_iff, ih, List.forall_mem_cons]
theorem actD_spec {E : En} {o : Oper} {tmps : List AV} {L : Lk} {p : Res} (h : actD E o tmps L = some p) : opK E.TT E.G (mask L p.ft) (evT E.GL tmps) o (fun v u => some (v, u)) = some (p.v, p.u) ∧ p.ft = foot L (evT E.GL tmps) o ∧ (fsts p.u).Nodup ∧ ∀ i ∈ fsts p.u, i ∈ p.ft := by
  unfold actD at h
  simp only [Option.bind_eq_some_iff] at h
  obtain ⟨q, h1, h2⟩ := h
  obtain ⟨hc, h2⟩ := cond_none h2
  simp only [Bool.and_eq_true] at hc
  simp only [Option.some.injEq] at h2
  subst h2
  exact ⟨h1, rfl, (nodupB_iff _).1 hc.1, allIn_iff.1 hc.2⟩
theorem actD_congr {E : En} {o : Oper} {tmps tmps' : List AV} {L L' : Lk} {p : Res} (h : actD E o tmps L = some p) (hs : ∀ x ∈ o.op.operands.toList, evT E.GL tmps x = evT E.GL tmps' x) (hm : ∀ i ∈ p.ft, L i = L' i) : actD E o tmps' L' = some p := by
  obtain ⟨h1, h2, h3, h4⟩ := actD_spec h
  have e := foot_congr (m := L) (m' := L') (o := o) hs (by rw [← h2]; exact hm)
  unfold actD
  rw [e, ← h2, ← mask_congr hm, ← opK_congr hs, h1]
  simp only [Option.bind_some]
  rw [(nodupB_iff _).2 h3, allIn_iff.2 h4]
  rfl
theorem operand_slot {E : En} {ops : Array Oper} {o : Oper} {tmps tmps' : List AV} (h : ∀ t ∈ slotsRead ops o, getT tmps t = getT tmps' t) : ∀ x ∈ o.op.operands.toList, evT E.GL tmps x = evT E.GL tmps' x := by
  intro x hx
  cases x with
  | tmp t =>
    refine h t ?_
    unfold slotsRead
    exact List.mem_append_right _ (List.mem_filterMap.2 ⟨.tmp t, hx, rfl⟩)
  | _ => rfl
theorem opD_congr {E : En} {ops : Array Oper} {o : Oper} {tmps tmps' : List AV} {L L' : Lk} {p : Res} (h : opD E ops o tmps L = some p) (hs : ∀ t ∈ slotsRead ops o, getT tmps t = getT tmps' t) (hm : ∀ i ∈ p.ft, L i = L' i) : opD E ops o tmps' L' = some p := by
  unfold opD at h ⊢
  split at h
  · rename_i hg
    exact actD_congr h (operand_slot hs) hm
  · rename_i j want hg
    split at h
    · rename_i d hd
      have hdr : d ∈ slotsRead ops o := by
        unfold slotsRead
        simp [hg, hd]
      rw [← hs d hdr]
      split at h
      · rename_i b hb
        cases hbw : ((b : Bool) == want)
        · rw [hbw] at h; exact h
        · rw [hbw] at h; exact actD_congr h (operand_slot hs) hm
      · rename_i hb
        exact h
      · simp at h
    · simp at h
theorem opD_upd {E : En} {ops : Array Oper} {o : Oper} {tmps : List AV} {L : Lk} {p : Res} (h : opD E ops o tmps L = some p) : (fsts p.u).Nodup ∧ ∀ i ∈ fsts p.u, i ∈ p.ft := by
  unfold opD at h
  split at h
  · exact (actD_spec h).2.2
  · split at h
    · split at h
      · rename_i b hb
        cases hbw : ((b : Bool) == _)
        · rw [hbw] at h; simp at h; subst h; simp [fsts]
        · rw [hbw] at h; exact (actD_spec h).2.2
      · simp at h; subst h; simp [fsts]
      · simp at h
    · simp at h
theorem opD_wp {E : En} (hE : EnOk P E) {ops : Array Oper} {o : Oper} {tmps : List AV} {L : Lk} {p : Res} (h : opD E ops o tmps L = some p) {M : Ms} {gs : List AV} {a : Act} {w : World} {i : Nat} (hi : ops[i]? = some o) (hGL : M.X.GL = E.GL) (hI : InvA M tmps L gs a w)
    {next : Act → World → Prop} {Q : Exit → Act → World → Prop} (hn : ∀ M' a' w', M'.X = M.X → InvA M' (setO tmps o.dst p.v) (updL L p.u) gs a' w' → next a' w') : wpOp P ops Q i next a w := by
  have act : actD E o tmps L = some p → Region.wanted o (yielded ops a.tmps) = true → wpOp P ops Q i next a w := by
    intro h hw
    unfold wpOp
    simp only [hi, hw, if_true]
    obtain ⟨h1, h2, h3, h4⟩ := actD_spec h
    obtain ⟨v, u, hk, hv⟩ := act_ok hE h1
    simp only [Option.some.injEq, Prod.mk.injEq] at hk
    obtain ⟨rfl, rfl⟩ := hk
    exact .inl (hv hGL (mask_msk L p.ft) (fun j hj => mask_in (h4 j hj)) h3 hI next Q hn)
  have skip : p = ⟨.und, [], []⟩ → Region.wanted o (yielded ops a.tmps) = false → wpOp P ops Q i next a w := by
    intro h hw
    subst h
    unfold wpOp
    simp only [hi, hw, Bool.false_eq_true, if_false]
    exact hn M _ _ rfl (und_put hI o.dst)
  unfold opD at h
  split at h
  · rename_i hg
    exact act h (wanted_none hg)
  · rename_i j want hg
    split at h
    · rename_i d hd
      have ht := hI.tmps d
      split at h
      · rename_i b hb
        rw [hb] at ht
        have hw := wanted_some hg hd (avr_bool.1 ht)
        cases hbw : ((b : Bool) == want)
        · rw [hbw] at h hw; simp at h; exact skip h.symm hw
        · rw [hbw] at h hw; exact act h hw
      · rename_i hb
        rw [hb] at ht
        simp at h
        exact skip h.symm (wanted_und hg hd ht)
      · simp at h
    · simp at h

/-! two that change places -/
theorem setT_comm {l : List AV} {d e : Nat} {v w : AV} (h : d ≠ e) : setT (setT l d v) e w = setT (setT l e w) d v := by
  induction l generalizing d e with
  | nil => rfl
  | cons a l ih =>
    cases d with
    | zero => cases e with
      | zero => exact absurd rfl h
      | succ e => rfl
    | succ d => cases e with
      | zero => rfl
      | succ e => simp only [setT]; rw [ih (by omega)]
theorem setO_comm {l : List AV} {d e : Option Nat} {v w : AV} (h : ∀ x, d = some x → e ≠ some x) : setO (setO l d v) e w = setO (setO l e w) d v := by
  cases d with
  | none => rfl
  | some d => cases e with
    | none => rfl
    | some e => exact setT_comm fun he => h d rfl (by rw [he])
theorem getT_setO {l : List AV} {d : Option Nat} {v : AV} {t : Nat} (h : d ≠ some t) : getT (setO l d v) t = getT l t := by
  cases d with
  | none => rfl
  | some d =>
    simp only [setO]
    rw [getT_setT, if_neg]
    rintro ⟨rfl, _⟩
    exact h rfl
theorem updL_comm {L : Lk} {u v : Mem} (h : ∀ i ∈ fsts u, i ∉ fsts v) : updL (updL L u) v = updL (updL L v) u := by
  funext i
  by_cases hu : i ∈ fsts u
  · have hv := h i hu
    rw [updL_not hv]
    exact (updL_congr fun hn => absurd hu hn).symm ▸ rfl
  · rw [updL_not (L := updL L v) hu]
    by_cases hv : i ∈ fsts v
    · exact updL_congr fun hn => absurd hv hn
    · rw [updL_not hv, updL_not hv, updL_not hu]
abbrev It := Nat × Oper × Res
def touch (p : Res) : Touch := ⟨p.ft, fsts p.u⟩
def Ap (ops : Array Oper) (a b : It) : Prop := apart ops a.2.1 b.2.1 (touch a.2.2) (touch b.2.2) = true
structure ApS (ops : Array Oper) (a b : It) : Prop where
  dst : ∀ d, a.2.1.dst = some d → b.2.1.dst ≠ some d
  rd1 : ∀ t ∈ slotsRead ops b.2.1, a.2.1.dst ≠ some t
  rd2 : ∀ t ∈ slotsRead ops a.2.1, b.2.1.dst ≠ some t
  m1 : ∀ i ∈ fsts a.2.2.u, i ∉ b.2.2.ft
  m2 : ∀ i ∈ fsts b.2.2.u, i ∉ a.2.2.ft
theorem Ap.spec {ops : Array Oper} {a b : It} (h : Ap ops a b) : ApS ops a b := by
  unfold Ap apart at h
  simp only [Bool.and_eq_true, disjB_iff, touch] at h
  obtain ⟨⟨⟨h1, h2⟩, h3⟩, h4⟩ := h
  have w : ∀ (o : Oper) d, o.dst = some d → d ∈ slotsWrit o := by intro o d hd; simp [slotsWrit, hd]
  refine ⟨fun d hd hb => ?_, fun t ht hd => ?_, fun t ht hd => ?_, h3, h4⟩
  · exact h1 d (w _ d hd) (List.mem_append_right _ (w _ d hb))
  · exact h1 t (w _ t hd) (List.mem_append_left _ ht)
  · exact h2 t (w _ t hd) ht
def runsD (E : En) (ops : Array Oper) : List It → List AV → Lk → Prop
  | [], _, _ => True
  | a :: r, tmps, L => opD E ops a.2.1 tmps L = some a.2.2 ∧ runsD E ops r (setO tmps a.2.1.dst a.2.2.v) (updL L a.2.2.u)
def finT : List It → List AV → List AV
  | [], t => t
  | a :: r, t => finT r (setO t a.2.1.dst a.2.2.v)
def finL : List It → Lk → Lk
  | [], L => L
  | a :: r, L => finL r (updL L a.2.2.u)
theorem move_front {E : En} {ops : Array Oper} {x : It} : ∀ {pre post : List It} {tmps : List AV} {L : Lk}, (∀ a ∈ pre, Ap ops a x) → runsD E ops (pre ++ x :: post) tmps L →
    opD E ops x.2.1 tmps L = some x.2.2 ∧ runsD E ops (pre ++ post) (setO tmps x.2.1.dst x.2.2.v) (updL L x.2.2.u) ∧
    finT (pre ++ x :: post) tmps = finT (pre ++ post) (setO tmps x.2.1.dst x.2.2.v) ∧ finL (pre ++ x :: post) L = finL (pre ++ post) (updL L x.2.2.u) := by
  intro pre
  induction pre with
  | nil => intro post tmps L _ h; exact ⟨h.1, h.2, rfl, rfl⟩
  | cons a pre ih =>
    intro post tmps L hap h
    obtain ⟨h1, h2⟩ := h
    have s := (hap a (by simp)).spec
    obtain ⟨k1, k2, k3, k4⟩ := ih (fun b hb => hap b (List.mem_cons_of_mem _ hb)) h2
    have ux := opD_upd k1
    have ua := opD_upd h1
    have hx : opD E ops x.2.1 tmps L = some x.2.2 := opD_congr k1 (fun t ht => getT_setO (s.rd1 t ht)) (fun i hi => updL_not fun hu => s.m1 i hu hi)
    have ha : opD E ops a.2.1 (setO tmps x.2.1.dst x.2.2.v) (updL L x.2.2.u) = some a.2.2 := opD_congr h1 (fun t ht => (getT_setO (s.rd2 t ht)).symm) (fun i hi => (updL_not fun hu => s.m2 i hu hi).symm)
    have cT : setO (setO tmps a.2.1.dst a.2.2.v) x.2.1.dst x.2.2.v = setO (setO tmps x.2.1.dst x.2.2.v) a.2.1.dst a.2.2.v := setO_comm s.dst
    have cL : updL (updL L a.2.2.u) x.2.2.u = updL (updL L x.2.2.u) a.2.2.u := updL_comm fun i hi hu => s.m1 i hi (ux.2 i hu)
    rw [cT, cL] at k2
    rw [cT] at k3
    rw [cL] at k4
    exact ⟨hx, ⟨ha, k2⟩, k3, k4⟩
end
end Go.Vi

set_option autoImplicit false
set_option linter.unusedVariables false
set_option linter.unusedSimpArgs false
namespace Go.Vi
open Go
/-! ## What is surely ahead -/
def stepB (acc : Array Nat) (o : Oper) : Array Nat := acc.push (o.after.foldl (fun s e => if Region.binds .any e then s ||| 2 ^ e.on ||| acc.getD e.on 0 else s) 0)
theorem fold_bits (acc : Array Nat) : ∀ (l : List Edge) (s j : Nat), (l.foldl (fun s e => if Region.binds .any e then s ||| 2 ^ e.on ||| acc.getD e.on 0 else s) s).testBit j = true → s.testBit j = true ∨ ∃ e ∈ l, Region.binds .any e = true ∧ (j = e.on ∨ (acc.getD e.on 0).testBit j = true) := by
  intro l
  induction l with
  | nil => intro s j h; exact .inl h
  | cons e l ih =>
    intro s j h
    simp only [List.foldl_cons] at h
    rcases ih _ j h with h | ⟨e', he', h⟩
    · split at h
      · rename_i hb
        simp only [Nat.testBit_or, Bool.or_eq_true, Nat.testBit_two_pow] at h
        rcases h with (h | h) | h
        · exact .inl h
        · exact .inr ⟨e, by simp, hb, .inl (by have := of_decide_eq_true h; exact this.symm)⟩
        · exact .inr ⟨e, by simp, hb, .inr h⟩
      · exact .inl h
    · exact .inr ⟨e', List.mem_cons_of_mem _ he', h⟩
theorem before_bits : ∀ (l : List Oper) (acc : Array Nat), (l.foldl stepB acc).size = acc.size + l.length ∧ (∀ k, k < acc.size → (l.foldl stepB acc).getD k 0 = acc.getD k 0) ∧
    ∀ k o, l[k]? = some o → ∀ j, ((l.foldl stepB acc).getD (acc.size + k) 0).testBit j = true → ∃ e ∈ o.after.toList, Region.binds .any e = true ∧ (j = e.on ∨ ((l.foldl stepB acc).getD e.on 0).testBit j = true) := by
  intro l
  induction l with
  | nil => intro acc; exact ⟨rfl, fun _ _ => rfl, fun k o h => by simp at h⟩
  | cons o l ih =>
    intro acc
    obtain ⟨h1, h2, h3⟩ := ih (stepB acc o)
    have hs : (stepB acc o).size = acc.size + 1 := by simp [stepB]
    have hlow : ∀ k, k < acc.size → (stepB acc o).getD k 0 = acc.getD k 0 := by
      intro k hk
      simp only [stepB, Array.getD_eq_getD_getElem?, Array.getElem?_push]
      rw [if_neg (by omega)]
    simp only [List.foldl_cons]
    refine ⟨by rw [h1, hs]; simp; omega, ?_, ?_⟩
    · intro k hk
      rw [h2 k (by omega), hlow k hk]
    · intro k o' hk j hj
      cases k with
      | zero =>
        simp only [List.getElem?_cons_zero, Option.some.injEq] at hk
        subst hk
        rw [Nat.add_zero, h2 acc.size (by omega)] at hj
        have e : (stepB acc o).getD acc.size 0 = o.after.foldl (fun s e => if Region.binds .any e then s ||| 2 ^ e.on ||| acc.getD e.on 0 else s) 0 := by
          simp [stepB]
        rw [e, ← Array.foldl_toList] at hj
        rcases fold_bits acc _ 0 j hj with h | ⟨e, he, hb, h⟩
        · simp at h
        · refine ⟨e, he, hb, ?_⟩
          rcases h with h | h
          · exact .inl h
          · right
            have hlt : e.on < acc.size := by
              rcases Nat.lt_or_ge e.on acc.size with h' | h'
              · exact h'
              · rw [Array.getD_eq_getD_getElem?, Array.getElem?_eq_none h'] at h; simp at h
            rw [h2 e.on (by omega), hlow e.on hlt]
            exact h
      | succ k =>
        simp only [List.getElem?_cons_succ] at hk
        refine h3 k o' hk j ?_
        rw [hs, show acc.size + 1 + k = acc.size + (k + 1) by omega]
        exact hj
theorem before_eq (ops : Array Oper) : Region.before ops = ops.toList.foldl stepB #[] := by
  unfold Region.before
  rw [← Array.foldl_toList]
  rfl
theorem before_spec {ops : Array Oper} {k j : Nat} (h : ((Region.before ops).getD k 0).testBit j = true) : ∃ o, ops[k]? = some o ∧ ∃ e ∈ o.after.toList, Region.binds .any e = true ∧ (j = e.on ∨ ((Region.before ops).getD e.on 0).testBit j = true) := by
  rw [before_eq] at h ⊢
  obtain ⟨h1, _, h3⟩ := before_bits ops.toList #[]
  cases ho : ops[k]? with
  | none =>
    have : ops.size ≤ k := by simpa using ho
    rw [Array.getD_eq_getD_getElem?, Array.getElem?_eq_none (by rw [h1]; simpa using this)] at h
    simp at h
  | some o =>
    exact ⟨o, rfl, h3 k o (by rw [Array.getElem?_toList]; exact ho) j (by simpa using h)⟩
theorem edgesGo_spec : ∀ {l : List Oper} {i : Nat}, edgesGo i l = true → ∀ k o, l[k]? = some o → ∀ e ∈ o.after.toList, Region.binds .any e = true → e.on < i + k := by
  intro l
  induction l with
  | nil => intro i _ k o h; simp at h
  | cons o l ih =>
    intro i h k o' hk e he hb
    simp only [edgesGo, Bool.and_eq_true, List.all_eq_true] at h
    cases k with
    | zero =>
      simp only [List.getElem?_cons_zero, Option.some.injEq] at hk
      subst hk
      have := h.1 e he
      rw [hb] at this
      simp only [Bool.not_true, Bool.false_or] at this
      simp [Nat.blt] at this
      omega
    | succ k =>
      have := ih h.2 k o' (by simpa using hk) e he hb
      omega
theorem lt_some {ops : Array Oper} {i : Nat} {o : Oper} (h : ops[i]? = some o) : i < ops.size := by
  rcases Nat.lt_or_ge i ops.size with h' | h'
  · exact h'
  · rw [Array.getElem?_eq_none h'] at h; simp at h
section
variable {P : Program}
theorem apartAll_spec {ops : Array Oper} {b : Nat} {o : Oper} {t : Touch} : ∀ {l : List (Oper × Touch)} {i : Nat}, apartAll ops b o t i l = true → ∀ k o' s, l[k]? = some (o', s) → b.testBit (i + k) = true ∨ apart ops o' o s t = true := by
  intro l
  induction l with
  | nil => intro i _ k o' s h; simp at h
  | cons p l ih =>
    obtain ⟨o1, s1⟩ := p
    intro i h k o' s hk
    simp only [apartAll, Bool.and_eq_true, Bool.or_eq_true] at h
    cases k with
    | zero =>
      simp only [List.getElem?_cons_zero, Option.some.injEq, Prod.mk.injEq] at hk
      obtain ⟨rfl, rfl⟩ := hk
      simpa using h.1
    | succ k =>
      have := ih h.2 k o' s (by simpa using hk)
      rwa [show i + 1 + k = i + (k + 1) by omega] at this
def BitAp (ops : Array Oper) (bf : Array Nat) (a b : It) : Prop := (bf.getD b.1 0).testBit a.1 = true ∨ Ap ops a b
theorem runOpsD_items {E : En} {ops : Array Oper} {bf : Array Nat} : ∀ {l : List Oper} {j : Nat} {prev : List It} {st : St} {R : Type} {r : R} {K : St → Option R}, prev.length = j → (∀ (k : Nat) (it : It), prev[k]? = some it → it.1 = k) → prev.Pairwise (BitAp ops bf) →
    (∀ k o, l[k]? = some o → ops[j + k]? = some o) → runOpsD E ops bf l j (prev.map fun it : It => (it.2.1, touch it.2.2)) st K = some r →
    ∃ items : List It, items.length = l.length ∧ (∀ (k : Nat) (it : It), items[k]? = some it → it.1 = j + k ∧ ops[it.1]? = some it.2.1) ∧ (prev ++ items).Pairwise (BitAp ops bf) ∧ runsD E ops items st.tmps (look st.mem) ∧
      ∃ st', K st' = some r ∧ st'.ghosts = st.ghosts ∧ st'.tmps = finT items st.tmps ∧ look st'.mem = finL items (look st.mem) := by
  intro l
  induction l with
  | nil =>
    intro j prev st R r K hl hp hpw _ h
    simp only [runOpsD] at h
    exact ⟨[], rfl, fun k it h => by simp at h, by simpa using hpw, trivial, st, h, rfl, rfl, rfl⟩
  | cons o l ih =>
    intro j prev st R r K hl hp hpw ho h
    simp only [runOpsD] at h
    obtain ⟨p, h1, h2⟩ := runOpD_some h
    obtain ⟨hap, h2⟩ := cond_none h2
    have e0 : ((prev ++ [(j, o, p)]).map fun it : It => (it.2.1, touch it.2.2)) = (prev.map fun it : It => (it.2.1, touch it.2.2)) ++ [(o, ⟨p.ft, fsts p.u⟩)] := by
      rw [List.map_append]; rfl
    rw [← e0] at h2
    have hidx : ∀ (k : Nat) (it : It), (prev ++ [((j, o, p) : It)])[k]? = some it → it.1 = k := by
      intro k it hk
      rw [List.getElem?_append] at hk
      split at hk
      · exact hp k it hk
      · rename_i hkl
        have : k - prev.length = 0 := by
          rcases Nat.eq_zero_or_pos (k - prev.length) with h | h
          · exact h
          · rw [List.getElem?_eq_none (by simp; omega)] at hk; simp at hk
        rw [this] at hk
        simp only [List.getElem?_cons_zero, Option.some.injEq] at hk
        subst hk
        show j = k
        omega
    have hpw' : (prev ++ [((j, o, p) : It)]).Pairwise (BitAp ops bf) := by
      rw [List.pairwise_append]
      refine ⟨hpw, by simp, ?_⟩
      intro a ha b hb
      simp only [List.mem_singleton] at hb
      subst hb
      obtain ⟨k, hk⟩ := List.mem_iff_getElem?.1 ha
      have hk1 := hp k a hk
      have := apartAll_spec hap k a.2.1 (touch a.2.2) (by rw [List.getElem?_map, hk]; rfl)
      rw [Nat.zero_add, ← hk1] at this
      exact this
    obtain ⟨items, k1, k2, k3, k4, st', k5, k6, k7, k8⟩ := ih (j := j + 1) (by simp [hl]) hidx hpw' (fun k o' hk => by have := ho (k + 1) o' (by simpa using hk); rwa [show j + (k + 1) = j + 1 + k by omega] at this) h2
    refine ⟨(j, o, p) :: items, by simp [k1], ?_, by simpa using k3, ⟨h1, ?_⟩, st', k5, k6, k7, ?_⟩
    · intro k it hk
      cases k with
      | zero =>
        simp only [List.getElem?_cons_zero, Option.some.injEq] at hk
        subst hk
        exact ⟨rfl, ho 0 o (by simp)⟩
      | succ k =>
        have := k2 k it (by simpa using hk)
        exact ⟨by omega, this.2⟩
    · rw [look_puts] at k4; exact k4
    · rw [k8, look_puts]; rfl

theorem any_ok {E : En} (hE : EnOk P E) {ops : Array Oper} (hed : edgesOk ops = true) {gs : List AV} {Q : Exit → Act → World → Prop} : ∀ (fuel : Nat) (listed : Array Bool) (rem : List It) (tmps : List AV) (L : Lk) (M : Ms) (a : Act) (w : World),
    listed.size = ops.size → (∀ it ∈ rem, ops[it.1]? = some it.2.1) → (∀ i, i < ops.size → (listed.getD i true = false ↔ ∃ it ∈ rem, it.1 = i)) → rem.Pairwise (fun a b => a.1 < b.1) → rem.Pairwise (BitAp ops (Region.before ops)) →
    (∀ k, listed.getD k false = true → ∀ j, ((Region.before ops).getD k 0).testBit j = true → listed.getD j false = true) → rem.length ≤ fuel → runsD E ops rem tmps L → InvA M tmps L gs a w → M.X.GL = E.GL →
    (∀ M' a' w', M'.X = M.X → InvA M' (finT rem tmps) (finL rem L) gs a' w' → Q .normal a' w') → wpAny P .any ops Q fuel listed a w := by
  intro fuel
  induction fuel with
  | zero =>
    intro listed rem tmps L M a w hsz hops hmem hsort hap hcl hlen hrun hI hGL hQ
    have hr : rem = [] := List.eq_nil_of_length_eq_zero (by omega)
    subst hr
    refine ⟨?_, hQ M a w rfl hI⟩
    apply List.eq_nil_iff_forall_not_mem.2
    intro i hi
    obtain ⟨h1, o, ho, _⟩ := mem_ready.1 hi
    have hlt := lt_some ho
    obtain ⟨it, hit, _⟩ := (hmem i hlt).1 h1
    simp at hit
  | succ fuel ih =>
    intro listed rem tmps L M a w hsz hops hmem hsort hap hcl hlen hrun hI hGL hQ
    have hgd : ∀ i, i < ops.size → listed.getD i true = listed.getD i false := by
      intro i hi
      have : i < listed.size := by omega
      simp [Array.getD_eq_getD_getElem?, this]
    constructor
    · intro hready
      cases rem with
      | nil => exact hQ M a w rfl hI
      | cons it rest =>
        exfalso
        have ho := hops it (by simp)
        have hlt : it.1 < ops.size := by
          rcases Nat.lt_or_ge it.1 ops.size with h | h
          · exact h
          · rw [Array.getElem?_eq_none h] at ho; simp at ho
        have : it.1 ∈ Region.ready .any ops listed := by
          refine mem_ready.2 ⟨(hmem it.1 hlt).2 ⟨it, by simp, rfl⟩, it.2.1, ho, ?_⟩
          intro e he hb
          have hon := edgesGo_spec hed it.1 it.2.1 (by rw [Array.getElem?_toList]; exact ho) e (by simpa using he) hb
          cases hl : listed.getD e.on false with
          | true => rfl
          | false =>
            exfalso
            obtain ⟨it', hit', e'⟩ := (hmem e.on (by omega)).1 (by rw [hgd _ (by omega)]; exact hl)
            rcases List.mem_cons.1 hit' with h | h
            · subst h; omega
            · have := (List.pairwise_cons.1 hsort).1 it' h; omega
        rw [hready] at this
        simp at this
    · intro i hi
      obtain ⟨h1, o, ho, hed'⟩ := mem_ready.1 hi
      have hlt := lt_some ho
      obtain ⟨it, hit, rfl⟩ := (hmem i hlt).1 h1
      obtain ⟨pre, post, rfl⟩ := List.append_of_mem hit
      have hoi := hops it (by simp)
      rw [hoi] at ho
      simp only [Option.some.injEq] at ho
      have hbits : ∀ j, ((Region.before ops).getD it.1 0).testBit j = true → listed.getD j false = true := by
        intro j hj
        obtain ⟨o', ho', e, he, hb, h⟩ := before_spec hj
        rw [hoi] at ho'
        simp only [Option.some.injEq] at ho'
        subst ho'
        have hon := hed' e (by rw [← ho]; simpa using he) hb
        rcases h with rfl | h
        · exact hon
        · exact hcl e.on hon j h
      have hpre : ∀ b ∈ pre, Ap ops b it := by
        intro b hb
        rw [List.pairwise_append] at hap
        rcases hap.2.2 b hb it (by simp) with h | h
        · exfalso
          have := hbits b.1 h
          have hob := hops b (by simp [hb])
          have hblt : b.1 < ops.size := by
            rcases Nat.lt_or_ge b.1 ops.size with h | h
            · exact h
            · rw [Array.getElem?_eq_none h] at hob; simp at hob
          have h2 := (hmem b.1 hblt).2 ⟨b, by simp [hb], rfl⟩
          rw [hgd _ hblt, this] at h2
          simp at h2
        · exact h
      obtain ⟨k1, k2, k3, k4⟩ := move_front hpre hrun
      refine opD_wp hE k1 hoi hGL hI ?_
      intro M' a' w' hX hI'
      have hsort' := List.pairwise_append.1 hsort
      refine ih _ (pre ++ post) _ _ M' a' w' (by simp [hsz]) (fun b hb => hops b (by
        rcases List.mem_append.1 hb with h | h
        · simp [h]
        · simp [h])) ?_ ?_ ?_ ?_ (by simp at hlen ⊢; omega) k2 hI' (by rw [hX]; exact hGL) ?_
      · intro j hj
        by_cases hji : j = it.1
        · subst hji
          constructor
          · intro h
            rw [Array.getD_eq_getD_getElem?, Array.getElem?_setIfInBounds, if_pos rfl, if_pos (by omega)] at h
            simp at h
          · rintro ⟨b, hb, e⟩
            exfalso
            rcases List.mem_append.1 hb with h | h
            · have := hsort'.2.2 b h it (by simp); omega
            · have := (List.pairwise_cons.1 hsort'.2.1).1 b h; omega
        · rw [Array.getD_eq_getD_getElem?, Array.getElem?_setIfInBounds, if_neg (fun e => hji e.symm), ← Array.getD_eq_getD_getElem?, hmem j hj]
          constructor
          · rintro ⟨b, hb, e⟩
            refine ⟨b, ?_, e⟩
            rcases List.mem_append.1 hb with h | h
            · simp [h]
            · rcases List.mem_cons.1 h with h | h
              · subst h; exact absurd e.symm hji
              · simp [h]
          · rintro ⟨b, hb, e⟩
            refine ⟨b, ?_, e⟩
            rcases List.mem_append.1 hb with h | h
            · simp [h]
            · simp [h]
      · exact List.Pairwise.sublist (List.Sublist.append (List.Sublist.refl _) (List.sublist_cons_self _ _)) hsort
      · exact List.Pairwise.sublist (List.Sublist.append (List.Sublist.refl _) (List.sublist_cons_self _ _)) hap
      · intro k hk j hj
        have mono : ∀ x, listed.getD x false = true → (listed.setIfInBounds it.1 true).getD x false = true := by
          intro x hx
          rw [Array.getD_eq_getD_getElem?, Array.getElem?_setIfInBounds]
          split
          · split
            · rfl
            · rename_i e hh; subst e; rw [Array.getD_eq_getD_getElem?, Array.getElem?_eq_none (by omega)] at hx; simp at hx
          · rw [← Array.getD_eq_getD_getElem?]; exact hx
        by_cases hki : k = it.1
        · subst hki
          exact mono j (hbits j hj)
        · rw [Array.getD_eq_getD_getElem?, Array.getElem?_setIfInBounds, if_neg (fun e => hki e.symm), ← Array.getD_eq_getD_getElem?] at hk
          exact mono j (hcl k hk j hj)
      · intro M'' a'' w'' hX' hI''
        rw [← k3, ← k4] at hI''
        exact hQ M'' a'' w'' (hX'.trans hX) hI''
theorem forceL_some {R : Type} {r : R} : ∀ {l : List AV} {K : List AV → Option R}, forceL l K = some r → K l = some r := by
  intro l
  induction l with
  | nil => intro K h; exact h
  | cons a l ih => intro K h; simp only [forceL] at h; exact ih h
theorem regionK_ok {C : Cx} (hE : EnOk P C.E) (hmix : P.follows .mixedOrders = true) {ops : Array Oper} {draw : Bool} {st : St} {R : Type} {r : R} {K : St → Option R} (h : regionK C ops draw st K = some r) :
    ∃ st', K st' = some r ∧ ∀ {M : Ms} {a : Act} {w : World} {id : Nat} {Q : Exit → Act → World → Prop}, M.X.GL = C.E.GL → Inv M st a w → (∀ M' a' w', M'.X = M.X → Inv M' st' a' w' → Q .normal a' w') → (Code.region id ops draw).wp P Q a w := by
  unfold regionK at h
  cases draw with
  | false =>
    obtain ⟨st1, h1, g1, hv⟩ := runOps_ok hE (n := 0) (fun k o hk => by rw [Nat.zero_add, ← Array.getElem?_toList]; exact hk) h
    have h2 := forceL_some h1
    refine ⟨_, h2, ?_⟩
    intro M a w id Q hGL hI hQ
    refine wp_region ?_
    have := hv hGL (InvA.of hI) Q fun M' a' w' hX hI' => hQ M' a' w' hX (InvA.to (by rw [g1]; exact hI'))
    rwa [Array.length_toList, ← List.range_eq_range'] at this
  | true =>
    simp only at h
    obtain ⟨hed, h⟩ := cond_none h
    obtain ⟨items, k1, k2, k3, k4, st1, k5, k6, k7, k8⟩ := runOpsD_items (prev := []) (j := 0) rfl (fun k it h => by simp at h) List.Pairwise.nil (fun k o hk => by rw [Nat.zero_add, ← Array.getElem?_toList]; exact hk) h
    have h2 := forceL_some k5
    refine ⟨_, h2, ?_⟩
    intro M a w id Q hGL hI hQ
    refine wp_region_any hmix ?_
    simp only [List.nil_append] at k3
    have hidx : ∀ it ∈ items, ops[it.1]? = some it.2.1 := by
      intro it hit
      obtain ⟨k, hk⟩ := List.mem_iff_getElem?.1 hit
      exact (k2 k it hk).2
    refine any_ok hE hed ops.size _ items st.tmps (look st.mem) M a _ (by simp) hidx ?_ ?_ k3 ?_ (by rw [k1]; simp) k4 ((InvA.of hI).world rfl ⟨rfl, rfl, rfl⟩) hGL ?_
    · intro i hi
      constructor
      · intro _
        have hlt : i < items.length := by rw [k1]; simpa using hi
        refine ⟨items[i], List.getElem_mem _, ?_⟩
        have := (k2 i items[i] (List.getElem?_eq_getElem hlt)).1
        omega
      · intro _
        simp [Array.getD_eq_getD_getElem?, hi]
    · rw [List.pairwise_iff_getElem]
      intro i j hi hj hij
      have h1 := (k2 i items[i] (List.getElem?_eq_getElem hi)).1
      have h2 := (k2 j items[j] (List.getElem?_eq_getElem hj)).1
      omega
    · intro k hk
      exfalso
      rw [Array.getD_eq_getD_getElem?, Array.getElem?_replicate] at hk
      split at hk <;> simp at hk
    · intro M' a' w' hX hI'
      rw [← k7, ← k8] at hI'
      exact hQ M' a' w' hX (InvA.to (by rw [k6]; exact hI'))
end
end Go.Vi

set_option autoImplicit false
set_option linter.unusedVariables false
set_option linter.unusedSimpArgs false
namespace Go.Vi
open Go
/-! ## Forms: a state told anew -/
structure Renamed (M M' : Ms) (L L' : Lk) (w : World) (n : Ren) : Prop where
  ctx : M'.X = M.X
  fre : ∀ b, Fre M w b → Fre M' w b
  ro : ∀ i ∈ n.ro, ∀ b cap, M.ι i = some (b, cap) → Fre M' w b
  keep : ∀ i j, (i, some j) ∈ n.ren → M'.ι i = M.ι j ∧ (∀ b, M.κ b = some j → M'.κ b = some i)
  fresh : ∀ i, (i, none) ∈ n.ren → M'.ι i = none
  ali : ∀ i j, (i, j) ∈ n.ali → M'.ι i = M.ι j ∧ Compat (L j).2 (L' i).2 ∧ (L' i).1 = 0
theorem Renamed.left {M M' : Ms} {L L' : Lk} {w : World} {a b : Ren} (h : Renamed M M' L L' w (a.add b)) : Renamed M M' L L' w a :=
  ⟨h.ctx, h.fre, fun i hi => h.ro i (List.mem_append_left _ hi), fun i j hi => h.keep i j (List.mem_append_left _ hi), fun i hi => h.fresh i (List.mem_append_left _ hi), fun i j hi => h.ali i j (List.mem_append_left _ hi)⟩
theorem Renamed.right {M M' : Ms} {L L' : Lk} {w : World} {a b : Ren} (h : Renamed M M' L L' w (a.add b)) : Renamed M M' L L' w b :=
  ⟨h.ctx, h.fre, fun i hi => h.ro i (List.mem_append_right _ hi), fun i j hi => h.keep i j (List.mem_append_right _ hi), fun i hi => h.fresh i (List.mem_append_right _ hi), fun i j hi => h.ali i j (List.mem_append_right _ hi)⟩
def realAV : AV → Bool
  | .dead => false
  | .und => false
  | .tup _ => false
  | _ => true
theorem avr_real {M : Ms} {L : Lk} {w : World} {a : AV} {v : Value} (h : realAV a = true) : AVR M L w a v ↔ AV1 M L w a v := by cases a <;> first | exact Iff.rfl | simp [realAV] at h
theorem ren_row {M M' : Ms} {L L' : Lk} {w : World} {i j ver : Nat} {cs : List Value} (h : AVC M L w (.row j ver) cs) (hv : (L j).1 = ver) (hι : M'.ι i = M.ι j) (hc : Compat (L j).2 (L' i).2) : AVC M' L' w (.row i 0) cs := by
  obtain ⟨h1, h2, h3⟩ := h
  replace h3 := h3 hv.symm
  refine ⟨h1, Nat.zero_le _, fun _ => ?_⟩
  generalize (L j).2 = c at h3 hc
  generalize (L' i).2 = c' at hc
  cases c <;> cases c' <;> simp only [Compat] at hc h3 ⊢
  all_goals rw [hι, ← hc.2]; exact h3
theorem ren_ptr {M M' : Ms} {L L' : Lk} {w : World} {i j ver : Nat} {p : List PE} {t : Ty} {cs : List Value} (h : AVC M L w (.ptr j ver p t) cs) (hv : (L j).1 = ver) (hι : M'.ι i = M.ι j) (hc : Compat (L j).2 (L' i).2) : AVC M' L' w (.ptr i 0 p t) cs := by
  obtain ⟨h1, h2, h3⟩ := h
  replace h3 := h3 hv.symm
  refine ⟨h1, Nat.zero_le _, fun _ => ?_⟩
  generalize (L j).2 = c at h3 hc
  generalize (L' i).2 = c' at hc
  cases c <;> cases c' <;> simp only [Compat] at hc h3 ⊢
  · subst hc; rw [hι]; exact h3
  all_goals
    obtain ⟨rfl, hl⟩ := hc
    obtain ⟨b, c, i', q, d, k1, k2, k3, k4, k5⟩ := h3
    exact ⟨b, c, i', q, d, by rw [hι]; exact k1, k2, by rw [← hl]; exact k3, k4, k5⟩
theorem eqPE_eq : ∀ {p q : List PE}, eqPE p q = true → p = q := by
  intro p
  induction p with
  | nil => intro q h; cases q <;> simp [eqPE] at h; rfl
  | cons a p ih =>
    intro q h
    cases a with
    | idx i => cases q <;> simp [eqPE] at h
    | fld i =>
      cases q with
      | nil => simp [eqPE] at h
      | cons b q =>
        cases b with
        | idx j => simp [eqPE] at h
        | fld j =>
          simp only [eqPE, Bool.and_eq_true] at h
          rw [Nat.eq_of_beq_eq_true h.1, ih h.2]
theorem unSh_fits : ∀ {s : Sh} {t : Ty} {x : s.den}, shFits s t = true → fits (unSh s x).1 t = true := by
  intro s
  induction s with
  | v s => intro t x h; exact h
  | pair a b iha ihb =>
    intro t x h
    cases t <;> simp only [shFits, Bool.false_eq_true, Bool.and_eq_true] at h
    simp only [unSh, fits, iha h.1, ihb h.2, Bool.and_self]
  | row i s => intro t x h; cases t <;> simp [shFits] at h; rfl
  | ali i => intro t x h; cases t <;> simp [shFits] at h; rfl
  | unit => intro t x h; cases t <;> simp [shFits] at h; rfl
  | fn f => intro t x h; cases t <;> simp [shFits] at h
  | ptr i p s => intro t x h; cases t <;> simp [shFits] at h
  | pidx i s => intro t x h; cases t <;> simp [shFits] at h
theorem news_append (a b : List (Nat × Option Nat)) : news (a ++ b) = news a ++ news b := by
  induction a with
  | nil => rfl
  | cons p a ih => obtain ⟨i, j⟩ := p; simp [news, ih]
section
variable {R : Type}
/-- what a form took: which rows, and that it holds of the new memory -/
structure Took (L : Lk) (n : Ren) (u : Mem) : Prop where
  names : fsts u = news n.ren
  ro : ∀ i ∈ n.ro, ∃ (t : Ty) (xs : List t.den), (L i).2 = .rowb t xs
  keep : ∀ i j, (i, some j) ∈ n.ren → Owned L j ∧ ∃ c, (i, 0, c) ∈ u ∧ Compat (L j).2 c
theorem Took.nil {L : Lk} : Took L Ren.nil [] := ⟨rfl, by simp [Ren.nil], by simp [Ren.nil]⟩
theorem Took.add {L : Lk} {n n' : Ren} {u u' : Mem} (h : Took L n u) (k : Took L n' u') : Took L (n.add n') (u ++ u') where
  names := by rw [fsts_append, h.names, k.names]; exact (news_append _ _).symm
  ro i hi := by
    rcases List.mem_append.1 hi with hi | hi
    · exact h.ro i hi
    · exact k.ro i hi
  keep i j hi := by
    rcases List.mem_append.1 hi with hi | hi
    · obtain ⟨h0, c, h1, h2⟩ := h.keep i j hi; exact ⟨h0, c, List.mem_append_left _ h1, h2⟩
    · obtain ⟨h0, c, h1, h2⟩ := k.keep i j hi; exact ⟨h0, c, List.mem_append_right _ h1, h2⟩
theorem packSh_ok {L : Lk} {r : R} : ∀ {s : Sh} {a : AV} {K : s.den → Ren → Option R}, packSh L s a K = some r →
    ∃ x n, K x n = some r ∧ Took L n (unSh s x).2 ∧ aggAV (unSh s x).1 = aggAV a ∧ realAV a = true ∧ realAV (unSh s x).1 = true ∧
      ∀ {M M' : Ms} {L' : Lk} {w : World} {cs : List Value}, WInv M L w → Renamed M M' L L' w n → (∀ i e, (i, e) ∈ (unSh s x).2 → L' i = e) → AVC M L w a cs →
        AVC M' L' w (unSh s x).1 cs ∧ ∀ i e, (i, e) ∈ (unSh s x).2 → BlkC M' L' w i e.2 := by
  intro s
  induction s with
  | v t =>
    intro a K h
    have h : valK L t a (fun x ids => K x ⟨[], ids, []⟩) = some r := by unfold packSh at h; exact h
    obtain ⟨x, ids, hk, hids, hfit, hrep⟩ := valK_ok h
    refine ⟨x, _, hk, ⟨rfl, hids, by simp⟩, (fits_agg hfit).symm, ?_, rfl, ?_⟩
    · cases a <;> first | rfl | simp [fits] at hfit
    · intro M M' L' w cs hw hr hL hc
      exact ⟨hrep (fun i => .inl rfl) hw hc hr.fre hr.ro, fun i e hi => by simp [unSh] at hi⟩
  | row id t =>
    intro a K h
    cases a with
    | row id' ver =>
      simp only [packSh] at h
      obtain ⟨hv, h⟩ := beq_case h
      split at h
      · rename_i s xs hcc
        split at h
        · rename_i e
          subst e
          refine ⟨xs, _, h, ⟨rfl, by simp, ?_⟩, rfl, rfl, rfl, ?_⟩
          · intro i j hi
            simp only [List.mem_singleton, Prod.mk.injEq, Option.some.injEq] at hi
            obtain ⟨rfl, rfl⟩ := hi
            exact ⟨.inl ⟨_, _, hcc⟩, .rowb s xs, by simp [unSh], by rw [hcc]; exact Compat.refl _⟩
          · intro M M' L' w cs hw hr hL hc
            have hk := hr.keep id id' (by simp)
            have hLi := hL id (0, .rowb s xs) (by simp [unSh])
            refine ⟨ren_row hc hv hk.1 (by rw [hLi, hcc]; exact Compat.refl _), ?_⟩
            intro i e hi
            simp only [unSh, List.mem_singleton, Prod.mk.injEq] at hi
            obtain ⟨rfl, rfl⟩ := hi
            have hb := hw.blk id'
            rw [hcc] at hb
            refine ⟨hb.1, ?_⟩
            rcases hb.2 with ⟨b1, b2⟩ | ⟨b, cap, cur, el, b1, b2, b3, b4, b5, b6, cs', b7, b8⟩
            · exact .inl ⟨by rw [hk.1, b1], b2⟩
            · exact .inr ⟨b, cap, cur, el, by rw [hk.1, b1], hk.2 b b2, by unfold Wr; rw [hr.ctx]; exact b3, b4, b5, b6, cs', b7.mono fun x c hx => hx.mono fun b hb => ⟨hr.fre b hb, rfl⟩, b8⟩
        · simp at h
      · simp at h
    | nil =>
      simp only [packSh] at h
      obtain ⟨hsz, h⟩ := cond_none h
      refine ⟨[], _, h, ⟨rfl, by simp, by simp⟩, rfl, rfl, rfl, ?_⟩
      intro M M' L' w cs hw hr hL hc
      have hk := hr.fresh id (by simp)
      have hLi := hL id (0, .rowb t []) (by simp [unSh])
      refine ⟨⟨⟨_, hc, rfl⟩, Nat.zero_le _, fun _ => ?_⟩, ?_⟩
      · rw [hLi, hk]; exact hc
      · intro i e hi
        simp only [unSh, List.mem_singleton, Prod.mk.injEq] at hi
        obtain ⟨rfl, rfl⟩ := hi
        exact ⟨by simp [Nat.blt] at hsz; omega, .inl ⟨hk, rfl⟩⟩
    | _ => simp [packSh] at h
  | fn f =>
    intro a K h
    cases a with
    | fn g =>
      simp only [packSh] at h
      obtain ⟨hv, h2⟩ := beq_case h
      subst hv
      exact ⟨(), _, h2, .nil, rfl, rfl, rfl, fun hw hr hL hc => ⟨hc, fun i e hi => by simp [unSh] at hi⟩⟩
    | _ => simp [packSh] at h
  | ptr id p t =>
    intro a K h
    cases a with
    | ptr id' ver q s =>
      simp only [packSh] at h
      obtain ⟨hv, h2⟩ := cond_none h
      clear h
      split at h2
      · rename_i e
        subst e
        simp only [Bool.and_eq_true] at hv
        have e1 := eqPE_eq hv.1
        subst e1
        refine ⟨(), _, h2, ⟨rfl, by simp, by simp⟩, rfl, rfl, rfl, ?_⟩
        intro M M' L' w cs hw hr hL hc
        have hk := hr.ali id id' (by simp)
        exact ⟨ren_ptr hc (Nat.eq_of_beq_eq_true hv.2) hk.1 hk.2.1, fun i e hi => by simp [unSh] at hi⟩
      · simp at h2
    | _ => simp [packSh] at h
  | pair a b iha ihb =>
    intro v K h
    cases v with
    | cons x y =>
      simp only [packSh] at h
      obtain ⟨x', n1, h1, t1, g1, _, _, f1⟩ := iha h
      obtain ⟨y', n2, h2, t2, g2, _, _, f2⟩ := ihb h1
      refine ⟨_, _, h2, t1.add t2, rfl, rfl, rfl, ?_⟩
      rintro M M' L' w cs hw hr hL ⟨c1, c2, rfl, k1, k2⟩
      obtain ⟨p1, q1⟩ := f1 hw hr.left (fun i e hi => hL i e (List.mem_append_left _ hi)) k1
      obtain ⟨p2, q2⟩ := f2 hw hr.right (fun i e hi => hL i e (List.mem_append_right _ hi)) k2
      refine ⟨⟨c1, c2, rfl, p1, p2⟩, fun i e hi => ?_⟩
      rcases List.mem_append.1 hi with hi | hi
      · exact q1 i e hi
      · exact q2 i e hi
    | val s x =>
      cases s with
      | pair s t =>
        simp only [packSh] at h
        obtain ⟨x', n1, h1, t1, g1, _, _, f1⟩ := iha h
        obtain ⟨y', n2, h2, t2, g2, _, _, f2⟩ := ihb h1
        refine ⟨_, _, h2, t1.add t2, rfl, rfl, rfl, ?_⟩
        rintro M M' L' w cs hw hr hL ⟨c1, c2, rfl, k1, k2⟩
        obtain ⟨p1, q1⟩ := f1 (cs := c1) hw hr.left (fun i e hi => hL i e (List.mem_append_left _ hi)) k1
        obtain ⟨p2, q2⟩ := f2 (cs := c2) hw hr.right (fun i e hi => hL i e (List.mem_append_right _ hi)) k2
        refine ⟨⟨c1, c2, rfl, p1, p2⟩, fun i e hi => ?_⟩
        rcases List.mem_append.1 hi with hi | hi
        · exact q1 i e hi
        · exact q2 i e hi
      | _ => simp [packSh] at h
    | _ => simp [packSh] at h
  | unit =>
    intro a K h
    cases a with
    | unt =>
      simp only [packSh] at h
      exact ⟨(), _, h, .nil, rfl, rfl, rfl, fun hw hr hL hc => ⟨hc, fun i e hi => by simp [unSh] at hi⟩⟩
    | val s x =>
      cases s with
      | unit =>
        simp only [packSh] at h
        exact ⟨(), _, h, .nil, rfl, rfl, rfl, fun hw hr hL hc => ⟨hc, fun i e hi => by simp [unSh] at hi⟩⟩
      | _ => simp [packSh] at h
    | _ => simp [packSh] at h
  | ali id =>
    intro a K h
    cases a with
    | row id' ver =>
      simp only [packSh] at h
      obtain ⟨hv, h⟩ := beq_case h
      refine ⟨(), _, h, ⟨rfl, by simp, by simp⟩, rfl, rfl, rfl, ?_⟩
      intro M M' L' w cs hw hr hL hc
      have hk := hr.ali id id' (by simp)
      exact ⟨ren_row hc hv hk.1 hk.2.1, fun i e hi => by simp [unSh] at hi⟩
    | _ => simp [packSh] at h
  | pidx id t =>
    intro a K h
    cases a with
    | ptr id' ver q s =>
      rcases q with _ | ⟨⟨i⟩ | ⟨i⟩, _ | ⟨_, _⟩⟩ <;> simp only [packSh, reduceCtorEq] at h
      obtain ⟨hv, h⟩ := beq_case h
      split at h
      · rename_i e
        subst e
        refine ⟨i, _, h, ⟨rfl, by simp, by simp⟩, rfl, rfl, rfl, ?_⟩
        intro M M' L' w cs hw hr hL hc
        have hk := hr.ali id id' (by simp)
        exact ⟨ren_ptr hc hv hk.1 hk.2.1, fun i e hi => by simp [unSh] at hi⟩
      · simp at h
    | _ => simp [packSh] at h
theorem packSlots_ok {L : Lk} {tmps : List AV} {r : R} : ∀ {l : List (Nat × Sh)} {K : slotsDen l → Ren → Option R}, packSlots L tmps l K = some r →
    ∃ x n, K x n = some r ∧ Took L n (unSlots l x).2 ∧
      ∀ {M M' : Ms} {L' : Lk} {w : World} {f : Nat → Value}, WInv M L w → Renamed M M' L L' w n → (∀ i e, (i, e) ∈ (unSlots l x).2 → L' i = e) → (∀ i, AVR M L w (getT tmps i) (f i)) →
        (∀ i, AVR M' L' w (slotOf (unSlots l x).1 i) (f i)) ∧ ∀ i e, (i, e) ∈ (unSlots l x).2 → BlkC M' L' w i e.2 := by
  intro l
  induction l with
  | nil => intro K h; exact ⟨(), _, h, .nil, fun _ _ _ _ => ⟨fun i => trivial, fun i e hi => by simp [unSlots] at hi⟩⟩
  | cons p l ih =>
    obtain ⟨k, s⟩ := p
    intro K h
    simp only [packSlots] at h
    obtain ⟨x, n1, h1, t1, g1, r1, r2, f1⟩ := packSh_ok h
    obtain ⟨y, n2, h2, t2, f2⟩ := ih h1
    refine ⟨_, _, h2, t1.add t2, ?_⟩
    intro M M' L' w f hw hr hL hv
    obtain ⟨cs, hc, e⟩ := (avr_real r1).1 (hv k)
    obtain ⟨p1, q1⟩ := f1 hw hr.left (fun i e hi => hL i e (List.mem_append_left _ hi)) hc
    obtain ⟨p2, q2⟩ := f2 hw hr.right (fun i e hi => hL i e (List.mem_append_right _ hi)) hv
    constructor
    · intro i
      simp only [unSlots, slotOf]
      cases hb : Nat.beq k i with
      | false => exact p2 i
      | true =>
        have := Nat.eq_of_beq_eq_true hb
        subst this
        exact (avr_real r2).2 ⟨cs, p1, by rw [g1]; exact e⟩
    · intro i e hi
      rcases List.mem_append.1 hi with hi | hi
      · exact q1 i e hi
      · exact q2 i e hi
theorem packBoxes_ok {L : Lk} {r : R} : ∀ {l : List (Nat × Ty × Sh)} {K : boxesDen l → Ren → Option R}, packBoxes L l K = some r →
    ∃ x n, K x n = some r ∧ Took L n (unBoxes l x) ∧
      ∀ {M M' : Ms} {L' : Lk} {w : World}, WInv M L w → Renamed M M' L L' w n → (∀ i e, (i, e) ∈ unBoxes l x → L' i = e) → ∀ i e, (i, e) ∈ unBoxes l x → BlkC M' L' w i e.2 := by
  intro l
  induction l with
  | nil => intro K h; exact ⟨(), _, h, .nil, fun _ _ _ i e hi => by simp [unBoxes] at hi⟩
  | cons p l ih =>
    obtain ⟨k, t, s⟩ := p
    intro K h
    simp only [packBoxes] at h
    split at h
    · rename_i t' c hcc
      split at h
      · rename_i e
        subst e
        obtain ⟨hf, h⟩ := cond_none h
        obtain ⟨x, n1, h1, t1, g1, r1, r2, f1⟩ := packSh_ok h
        obtain ⟨y, n2, h2, t2, f2⟩ := ih h1
        have t0 : Took L ⟨[(k, some k)], [], []⟩ [(k, 0, .box t' (unSh s x).1)] := ⟨rfl, by simp, by
          intro i j hi
          simp only [List.mem_singleton, Prod.mk.injEq, Option.some.injEq] at hi
          obtain ⟨rfl, rfl⟩ := hi
          exact ⟨.inr ⟨_, _, hcc⟩, .box t' (unSh s x).1, by simp, by rw [hcc]; exact rfl⟩⟩
        refine ⟨_, _, h2, by have := t0.add (t1.add t2); simpa [unBoxes] using this, ?_⟩
        intro M M' L' w hw hr hL
        have hb := hw.blk k
        rw [hcc] at hb
        obtain ⟨b0, b, o, cur, el, b1, b2, b3, b4, cs, b5, b6⟩ := hb
        obtain ⟨p1, q1⟩ := f1 hw hr.right.left (fun i e hi => hL i e (by simp [unBoxes, hi])) b5
        have q2 := f2 hw hr.right.right (fun i e hi => hL i e (by simp [unBoxes, hi]))
        intro i e hi
        have hi : (i, e) = (k, 0, .box t' (unSh s x).1) ∨ (i, e) ∈ (unSh s x).2 ∨ (i, e) ∈ unBoxes l y := by simpa [unBoxes] using hi
        rcases hi with hi | hi | hi
        · simp only [Prod.mk.injEq] at hi
          obtain ⟨rfl, rfl⟩ := hi
          have hk := hr.left.keep i i (by simp)
          exact ⟨unSh_fits hf, b, o, cur, el, by rw [hk.1, b1], hk.2 b b2, by unfold Wr; rw [hr.ctx]; exact b3, b4, cs, p1, b6⟩
        · exact q1 i e hi
        · exact q2 i e hi
      · simp at h
    · simp at h
end
theorem renHas_mem {n : List (Nat × Option Nat)} {i j : Nat} (h : renHas n i j = true) : (i, some j) ∈ n := by
  induction n with
  | nil => simp [renHas] at h
  | cons p n ih =>
    obtain ⟨a, b⟩ := p
    cases b with
    | none => exact List.mem_cons_of_mem _ (ih h)
    | some b =>
      simp only [renHas, Bool.or_eq_true, Bool.and_eq_true] at h
      rcases h with ⟨h1, h2⟩ | h
      · rw [Nat.eq_of_beq_eq_true h1, Nat.eq_of_beq_eq_true h2]; simp
      · exact List.mem_cons_of_mem _ (ih h)
theorem alisOk_mem {n : List (Nat × Option Nat)} : ∀ {l : List (Nat × Nat)}, alisOk n l = true → ∀ i j, (i, j) ∈ l → (i, some j) ∈ n := by
  intro l
  induction l with
  | nil => intro _ i j h; simp at h
  | cons p l ih =>
    obtain ⟨a, b⟩ := p
    intro h i j hi
    simp only [alisOk, Bool.and_eq_true] at h
    rcases List.mem_cons.1 hi with hi | hi
    · simp only [Prod.mk.injEq] at hi
      obtain ⟨rfl, rfl⟩ := hi
      exact renHas_mem h.1
    · exact ih h.2 i j hi
theorem ghOk_ok {M M' : Ms} {L L' : Lk} {w : World} {n : List (Nat × Option Nat)} (hk : ∀ i j, (i, some j) ∈ n → M'.ι i = M.ι j ∧ Compat (L j).2 (L' i).2) : ∀ {g g' : AV}, ghOk L n g g' = true →
    aggAV g = aggAV g' ∧ realAV g = true ∧ realAV g' = true ∧ ∀ cs, AVC M L w g' cs → AVC M' L' w g cs := by
  intro g
  induction g with
  | row i ver =>
    intro g' h
    cases ver with
    | succ _ => cases g' <;> simp [ghOk] at h
    | zero =>
      cases g' <;> simp only [ghOk, Bool.false_eq_true, Bool.and_eq_true] at h
      have := hk _ _ (renHas_mem h.2)
      exact ⟨rfl, rfl, rfl, fun cs hc => ren_row hc (Nat.eq_of_beq_eq_true h.1) this.1 this.2⟩
  | ptr i ver p t =>
    intro g' h
    cases ver with
    | succ _ => cases g' <;> cases p <;> simp [ghOk] at h
    | zero =>
      cases p with
      | cons _ _ => cases g' <;> simp [ghOk] at h
      | nil =>
        cases g' with
        | ptr j ver q s =>
          cases q with
          | cons _ _ => simp [ghOk] at h
          | nil =>
            simp only [ghOk, Bool.and_eq_true, decide_eq_true_eq] at h
            obtain ⟨⟨h1, h2⟩, h3⟩ := h
            subst h3
            have := hk _ _ (renHas_mem h2)
            exact ⟨rfl, rfl, rfl, fun cs hc => ren_ptr hc (Nat.eq_of_beq_eq_true h1) this.1 this.2⟩
        | _ => simp [ghOk] at h
  | cons a b iha ihb =>
    intro g' h
    cases g' <;> simp only [ghOk, Bool.false_eq_true, Bool.and_eq_true] at h
    obtain ⟨_, _, _, h1⟩ := iha h.1
    obtain ⟨_, _, _, h2⟩ := ihb h.2
    refine ⟨rfl, rfl, rfl, ?_⟩
    rintro cs ⟨c1, c2, rfl, k1, k2⟩
    exact ⟨c1, c2, rfl, h1 _ k1, h2 _ k2⟩
  | unt => intro g' h; cases g' <;> simp only [ghOk, Bool.false_eq_true] at h; exact ⟨rfl, rfl, rfl, fun cs hc => hc⟩
  | _ => intro g' h; cases g' <;> simp [ghOk] at h
theorem ghsOk_ok {M M' : Ms} {L L' : Lk} {w : World} {n : List (Nat × Option Nat)} (hk : ∀ i j, (i, some j) ∈ n → M'.ι i = M.ι j ∧ Compat (L j).2 (L' i).2) : ∀ {l l' : List AV}, ghsOk L n l l' = true →
    l.length = l'.length ∧ ∀ i v, AVR M L w (getT l' i) v → AVR M' L' w (getT l i) v := by
  intro l
  induction l with
  | nil => intro l' h; cases l' <;> simp [ghsOk] at h; exact ⟨rfl, fun i v h => h⟩
  | cons g l ih =>
    intro l' h
    cases l' with
    | nil => simp [ghsOk] at h
    | cons g' l' =>
      simp only [ghsOk, Bool.and_eq_true, Bool.or_eq_true] at h
      obtain ⟨h1, h2⟩ := ih h.2
      refine ⟨by simp [h1], ?_⟩
      intro i v
      cases i with
      | succ i => exact h2 i v
      | zero =>
        intro hv
        simp only [getT] at hv ⊢
        rcases h.1 with hd | hg
        · cases g <;> simp [deadB] at hd; trivial
        · obtain ⟨k1, k2, k3, k4⟩ := ghOk_ok hk hg
          obtain ⟨cs, hc, e⟩ := (avr_real k3).1 hv
          exact (avr_real k2).2 ⟨cs, k4 _ hc, by rw [k1]; exact e⟩
def findO : List (Nat × Option Nat) → Nat → Option Nat
  | [], _ => none
  | (i, some j) :: r, k => if j = k then some i else findO r k
  | (_, none) :: r, k => findO r k
def findN : List (Nat × Option Nat) → Nat → Option (Option Nat)
  | [], _ => none
  | (i, j) :: r, k => if i = k then some j else findN r k
theorem olds_mem {n : List (Nat × Option Nat)} {i j : Nat} (h : (i, some j) ∈ n) : j ∈ olds n := by
  induction n with
  | nil => simp at h
  | cons q n ih =>
    obtain ⟨c, d⟩ := q
    rcases List.mem_cons.1 h with h2 | h2
    · simp only [Prod.mk.injEq] at h2; obtain ⟨_, rfl⟩ := h2; simp [olds]
    · have h3 := ih h2
      clear h
      cases d <;> simp [olds, h3]
theorem findO_mem {n : List (Nat × Option Nat)} (hn : (olds n).Nodup) {i j : Nat} (h : (i, some j) ∈ n) : findO n j = some i := by
  induction n with
  | nil => simp at h
  | cons p n ih =>
    obtain ⟨a, b⟩ := p
    replace h := List.mem_cons.1 h
    cases b with
    | none =>
      simp only [olds] at hn
      rcases h with h | h
      · simp at h
      · exact ih hn h
    | some b =>
      simp only [olds, List.nodup_cons] at hn
      simp only [findO]
      rcases h with h | h
      · simp only [Prod.mk.injEq, Option.some.injEq] at h
        rw [if_pos h.2.symm, h.1]
      · rw [if_neg, ih hn.2 h]
        rintro rfl
        exact hn.1 (olds_mem h)
theorem news_mem {n : List (Nat × Option Nat)} {i : Nat} {j : Option Nat} (h : (i, j) ∈ n) : i ∈ news n := by
  induction n with
  | nil => simp at h
  | cons q n ih =>
    obtain ⟨c, d⟩ := q
    rcases List.mem_cons.1 h with h | h
    · simp only [Prod.mk.injEq] at h; obtain ⟨rfl, rfl⟩ := h; simp [news]
    · simp [news, ih h]
theorem findN_mem {n : List (Nat × Option Nat)} (hn : (news n).Nodup) {i : Nat} {j : Option Nat} (h : (i, j) ∈ n) : findN n i = some j := by
  induction n with
  | nil => simp at h
  | cons p n ih =>
    obtain ⟨a, b⟩ := p
    simp only [news, List.nodup_cons] at hn
    simp only [findN]
    rcases List.mem_cons.1 h with h | h
    · simp only [Prod.mk.injEq] at h
      obtain ⟨rfl, rfl⟩ := h
      simp
    · rw [if_neg, ih hn.2 h]
      rintro rfl
      exact hn.1 (news_mem h)
open Classical in
noncomputable def renamed (M : Ms) (n : Ren) : Ms :=
  { M with κ := fun b => match M.κ b with | none => none | some j => if j ∈ n.ro then none else some ((findO n.ren j).getD 0), ι := fun i => match findN n.ren i with | some (some j) => M.ι j | _ => none }
theorem mem_fsts2 {m : Mem} {i : Nat} {e : Nat × Cont} (h : (i, e) ∈ m) : i ∈ fsts m := by
  induction m with
  | nil => simp at h
  | cons q m ih =>
    obtain ⟨c, d⟩ := q
    rcases List.mem_cons.1 h with h2 | h2
    · simp only [Prod.mk.injEq] at h2; obtain ⟨rfl, rfl⟩ := h2; simp [fsts]
    · simp [fsts, ih h2]
theorem look_mem' {m : Mem} (hn : (fsts m).Nodup) : ∀ {i : Nat} {e : Nat × Cont}, (i, e) ∈ m → look m i = e := by
  induction m with
  | nil => intro i e h; simp at h
  | cons p m ih =>
    obtain ⟨j, e'⟩ := p
    intro i e h
    simp only [fsts, List.nodup_cons] at hn
    simp only [look]
    rcases List.mem_cons.1 h with h | h
    · simp only [Prod.mk.injEq] at h
      obtain ⟨rfl, rfl⟩ := h
      simp
    · cases hb : Nat.beq j i with
      | false => exact ih hn.2 h
      | true =>
        have := Nat.eq_of_beq_eq_true hb
        subst this
        exact absurd (mem_fsts2 h) hn.1
theorem look_cases (m : Mem) (i : Nat) : (i, look m i) ∈ m ∨ look m i = (0, .none) := by
  induction m with
  | nil => exact .inr rfl
  | cons p m ih =>
    obtain ⟨j, e⟩ := p
    simp only [look]
    cases hb : Nat.beq j i with
    | false =>
      rcases ih with h | h
      · exact .inl (List.mem_cons_of_mem _ h)
      · exact .inr h
    | true =>
      have := Nat.eq_of_beq_eq_true hb
      subst this
      exact .inl (by simp)
theorem slotsOf_length (l : List (Nat × AV)) : ∀ (n i : Nat), (slotsOf l i n).length = n := by
  intro n
  induction n with
  | zero => intro i; rfl
  | succ n ih => intro i; simp [slotsOf, ih]
theorem slotsOf_get (l : List (Nat × AV)) : ∀ (n i j : Nat), getT (slotsOf l i n) j = if j < n then slotOf l (i + j) else .und := by
  intro n
  induction n with
  | zero => intro i j; simp [slotsOf, getT]
  | succ n ih =>
    intro i j
    cases j with
    | zero => simp [slotsOf, getT]
    | succ j =>
      simp only [slotsOf, getT, ih]
      rw [show i + 1 + j = i + (j + 1) by omega]
      by_cases h : j < n
      · rw [if_pos h, if_pos (by omega)]
      · rw [if_neg h, if_neg (by omega)]
theorem packK_ok {R : Type} {T : Tmpl} {st : St} {K : T.den → Option R} {r : R} (h : packK T st K = some r) :
    ∃ x, K x = some r ∧ ∀ {M : Ms} {a : Act} {w : World}, Inv M st a w → ∃ M', M'.X = M.X ∧ Inv M' (unpack T x) a w := by
  unfold packK at h
  obtain ⟨x, n1, h1, t1, f1⟩ := packSlots_ok h
  obtain ⟨y, n2, h2, t2, f2⟩ := packBoxes_ok h1
  obtain ⟨hc, h3⟩ := cond_none h2
  refine ⟨(x, y), h3, ?_⟩
  intro M a w hI
  simp only [Bool.and_eq_true] at hc
  obtain ⟨⟨⟨⟨⟨c1, c2⟩, c3⟩, c4⟩, c5⟩, c6⟩ := hc
  rw [nodupB_iff] at c1 c2
  rw [disjB_iff] at c3
  have tk := t1.add t2
  have hmem : (unpack T (x, y)).mem = (unSlots T.slots x).2 ++ unBoxes T.boxes y := rfl
  have hnd : (fsts (unpack T (x, y)).mem).Nodup := by rw [hmem, tk.names]; exact c2
  have hL : ∀ i e, (i, e) ∈ (unSlots T.slots x).2 ++ unBoxes T.boxes y → look (unpack T (x, y)).mem i = e := fun i e hi => look_mem' hnd (by rw [hmem]; exact hi)
  have hw := hI.win
  have hkeep : ∀ i j, (i, some j) ∈ (n1.add n2).ren → (renamed M (n1.add n2)).ι i = M.ι j ∧ (∀ b, M.κ b = some j → (renamed M (n1.add n2)).κ b = some i) := by
    intro i j hi
    constructor
    · simp only [renamed, findN_mem c2 hi]
    · intro b hb
      simp only [renamed, hb, findO_mem c1 hi]
      rw [if_neg (fun h => c3 j h (olds_mem hi))]
      rfl
  have hcomp : ∀ i j, (i, some j) ∈ (n1.add n2).ren → Compat (look st.mem j).2 (look (unpack T (x, y)).mem i).2 ∧ (look (unpack T (x, y)).mem i).1 = 0 := by
    intro i j hi
    obtain ⟨_, c, hc, hcc⟩ := tk.keep i j hi
    rw [hL i _ hc]
    exact ⟨hcc, rfl⟩
  have hfre : ∀ b, Fre M w b → Fre (renamed M (n1.add n2)) w b := by
    rintro b ⟨k1, k2, k3⟩
    exact ⟨by simp only [renamed, k1], k2, k3⟩
  have hren : Renamed M (renamed M (n1.add n2)) (look st.mem) (look (unpack T (x, y)).mem) w (n1.add n2) := by
    refine ⟨rfl, hfre, ?_, hkeep, ?_, ?_⟩
    · intro i hi b cap hb
      have hk := own_of hw (.inl (tk.ro i hi)) hb
      have ho := hw.own b i hk
      exact ⟨by simp only [renamed, hk]; rw [if_pos hi], ho.2.1, ho.1⟩
    · intro i hi
      simp only [renamed, findN_mem c2 hi]
    · intro i j hi
      have hm := alisOk_mem c4 i j hi
      exact ⟨(hkeep i j hm).1, hcomp i j hm⟩
  obtain ⟨p1, q1⟩ := f1 hw hren.left (fun i e hi => hL i e (List.mem_append_left _ hi)) hI.tmps
  have q2 := f2 hw hren.right (fun i e hi => hL i e (List.mem_append_right _ hi))
  obtain ⟨g1, g2⟩ := ghsOk_ok (w := w) (fun i j hi => ⟨(hkeep i j hi).1, (hcomp i j hi).1⟩) c5
  have hlen : T.n = a.tmps.size := by rw [← hI.len]; exact (Nat.eq_of_beq_eq_true c6).symm
  refine ⟨renamed M (n1.add n2), rfl, ?_⟩
  constructor
  · show (slotsOf _ 0 T.n).length = _
    rw [slotsOf_length, hlen]
  · intro i
    show AVR _ _ w (getT (slotsOf (unSlots T.slots x).1 0 T.n) i) _
    rw [slotsOf_get]
    by_cases hi : i < T.n
    · rw [if_pos hi, Nat.zero_add]; exact p1 i
    · rw [if_neg hi, Array.getD_eq_getD_getElem?, Array.getElem?_eq_none (by omega)]; rfl
  · show T.gh.length = _
    rw [g1]; exact hI.glen
  · intro i
    exact g2 i _ (hI.gh i)
  · constructor
    · intro i
      rcases look_cases (unpack T (x, y)).mem i with hi | hi
      · rw [hmem] at hi
        rcases List.mem_append.1 hi with hi | hi
        · exact q1 i _ hi
        · exact q2 i _ hi
      · rw [hi]; trivial
    · intro b i hb
      simp only [renamed] at hb
      cases hk : M.κ b with
      | none => rw [hk] at hb; simp at hb
      | some j => exact hw.own b j hk
    · exact hw.hid
    · exact hw.ed
    · exact hw.frame
    · intro p hp
      obtain ⟨k1, cs, k2, k3⟩ := hw.glob p hp
      exact ⟨hfre _ k1, cs, k2, k3.mono fun b hb => ⟨hfre b hb, rfl⟩⟩
  · exact hI.defers
end Go.Vi

