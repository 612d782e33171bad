/- A part of the proof of publicPart_holds: VjI, VjJ. No condition of its own. -/
import Derived.Test.YtfabcimcdnaoiaaGreatDoorA05
import Derived.OpenShut
import Derived.ChangeArms
import Derived.Below
set_option autoImplicit false
set_option linter.unusedVariables false
set_option linter.unusedSimpArgs false
namespace Go.Vi
open Go
/-! ## What a law is given -/
def Dom : (t : Ty) → t.den → Prop
  | .int k, n => (Lit.int k n).wf = true
  | .str, s => List.length s ≤ maxLen
  | .list t, xs => List.length xs ≤ maxLen ∧ ∀ x ∈ (xs : List t.den), Dom t x
  | .arr n t, xs => List.length xs = n ∧ ∀ x ∈ (xs : List t.den), Dom t x
  | .pair a b, x => Dom a x.1 ∧ Dom b x.2
  | _, _ => True
theorem CellsAt.glue {w : World} {b o : Nat} {cs ds : List Value} (h : CellsAt w b o cs) (k : CellsAt w b (o + cs.length) ds) : CellsAt w b o (cs ++ ds) := by
  intro j v hj
  rw [List.getElem?_append] at hj
  split at hj
  · exact h j v hj
  · rename_i hlt
    have := k (j - cs.length) v hj
    rwa [show o + cs.length + (j - cs.length) = o + j by omega] at this
section
variable {H : Type} {enc : TypeId × Value → H} {P : Program} {w : World} {base : Nat} {spare : Nat → Bool} {held : Bool}
theorem lay_cells {t : Ty} {tid : TypeId} (h : Lay P t (.inl tid) = true) : P.cellsOf tid = t.size := by
  obtain ⟨i, z, hi, hs, _⟩ := lay_info h
  simp [Program.cellsOf, hi, hs]
theorem cells_at {a : Addr} {n : Nat} {cs : List Value} (h : w.cells? base a n = some cs) (hn : 0 < n) : cs.length = n ∧ a.spot = none ∧ a.block < w.heap.size ∧ ∀ j v, cs[j]? = some v → w.cell? ⟨a.block, a.off + j, none⟩ = some v := by
  obtain ⟨_, hl, hc⟩ := World.cells?_some h
  have hs : a.spot = none := by
    have := hc 0 hn
    rw [List.getElem?_eq_getElem (by omega)] at this
    unfold World.cell? at this
    have e : (a.add 0).spot = a.spot := by simp [Addr.add]
    rw [e] at this
    split at this
    · cases hsp : a.spot with
      | none => rfl
      | some _ => rw [hsp] at this; simp at this
    · simp at this
  refine ⟨hl, hs, World.cells?_block h hn, ?_⟩
  intro j v hj
  have hlt : j < n := by
    rcases Nat.lt_or_ge j n with h | h
    · exact h
    · rw [List.getElem?_eq_none (by omega)] at hj; simp at hj
  rw [← hj, ← hc j hlt]
  congr 1
  by_cases h0 : j = 0
  · subst h0; simp [Addr.add]; cases a; simp at hs; simp [hs]
  · simp [Addr.add, h0]
theorem rep_of_trod : ∀ (t : Ty), (∀ tid, Lay P t (.inl tid) = true → ∀ (fuel : Nat) (cs : List Value) x, DataW.trod enc P w base spare held fuel tid cs = some x → ∃ y : t.den, Rep (fun b => b < w.heap.size) w t y cs ∧ Dom t y) ∧
    (∀ (off : Nat) (fs : List Field), Lay P t (.inr (off, fs)) = true → ∀ (n : Nat) (cs : List Value), (∀ (i : Nat) f, fs[i]? = some f → ∃ x, DataW.trod enc P w base spare held n f.type ((cs.drop f.offset).take (P.cellsOf f.type)) = some x) → cs.length = off + t.size →
      ∃ y : t.den, Rep (fun b => b < w.heap.size) w t y (cs.drop off) ∧ Dom t y) := by
  intro t
  induction t with
  | int k =>
    refine ⟨?_, fun off fs h => by simp [Lay] at h⟩
    intro tid h fuel cs x hx
    obtain ⟨n, rfl, _, hw⟩ := DataW.trod_int (lay_u8 h) hx
    exact ⟨n, rfl, hw⟩
  | bool =>
    refine ⟨?_, fun off fs h => by simp [Lay] at h⟩
    intro tid h fuel cs x hx
    have hu : P.underlying tid = some .bool := by
      simp only [Lay, Bool.and_eq_true] at h
      have := h.2
      split at this
      · assumption
      · simp at this
    obtain ⟨b, rfl, _⟩ := DataW.trod_bool hu hx
    exact ⟨b, rfl, trivial⟩
  | str =>
    refine ⟨?_, fun off fs h => by simp [Lay] at h⟩
    intro tid h fuel cs x hx
    obtain ⟨s, rfl, _, hs⟩ := DataW.trod_string (lay_string h) hx
    refine ⟨s.data.toList, ?_, by simpa [Dom] using hs⟩
    simp [Rep, sv]
  | err =>
    refine ⟨?_, fun off fs h => by simp [Lay] at h⟩
    intro tid h fuel cs x hx
    have hu : ∃ ms, P.underlying tid = some (.interface ms) := by
      simp only [Lay, Bool.and_eq_true] at h
      have := h.2
      split at this
      · rename_i ms hu; exact ⟨ms, hu⟩
      · simp at this
    obtain ⟨ms, hu⟩ := hu
    cases fuel with
    | zero => simp [DataW.trod] at hx
    | succ n =>
      unfold DataW.trod at hx
      rw [hu] at hx
      split at hx <;> simp_all
      · exact .inl ⟨.inl ⟨rfl, rfl⟩, trivial⟩
      · exact .inr ⟨.inr ⟨rfl, _, _, rfl⟩, trivial⟩
  | unit =>
    constructor
    · intro tid h fuel cs x hx
      obtain ⟨fs, hu, hl⟩ := lay_struct h (.inr rfl)
      obtain ⟨xs, n, _, _, hlen, _, _⟩ := DataW.trod_struct hu hx
      refine ⟨(), ?_, trivial⟩
      rw [lay_cells h] at hlen
      exact List.eq_nil_of_length_eq_zero hlen
    · intro off fs h n cs _ hlen
      refine ⟨(), ?_, trivial⟩
      show cs.drop off = []
      rw [List.drop_eq_nil_iff]
      simp [Ty.size] at hlen
      omega
  | pair a b iha ihb =>
    have two : ∀ (off : Nat) (fs : List Field), Lay P (.pair a b) (.inr (off, fs)) = true → ∀ (n : Nat) (cs : List Value), (∀ (i : Nat) f, fs[i]? = some f → ∃ x, DataW.trod enc P w base spare held n f.type ((cs.drop f.offset).take (P.cellsOf f.type)) = some x) → cs.length = off + (Ty.pair a b).size →
        ∃ y : (Ty.pair a b).den, Rep (fun b => b < w.heap.size) w (.pair a b) y (cs.drop off) ∧ Dom (.pair a b) y := by
      intro off fs h n cs hf hlen
      cases fs with
      | nil => simp [Lay] at h
      | cons f r =>
        simp only [Lay, Bool.and_eq_true, decide_eq_true_eq] at h
        obtain ⟨⟨⟨h1, h2⟩, h3⟩, h4⟩ := h
        simp only [Ty.size] at hlen
        obtain ⟨x, hx⟩ := hf 0 f (by simp)
        obtain ⟨y, hy, hyd⟩ := iha.1 f.type h3 n _ x hx
        obtain ⟨z, hz, hzd⟩ := ihb.2 (off + a.size) r h4 n cs (fun i g hg => hf (i + 1) g (by simpa using hg)) (by omega)
        refine ⟨(y, z), ⟨(cs.drop off).take a.size, cs.drop (off + a.size), ?_, ?_, hz⟩, hyd, hzd⟩
        · rw [← List.drop_drop, List.take_append_drop]
        · rw [h1, lay_cells h3] at hy; exact hy
    refine ⟨?_, two⟩
    intro tid h fuel cs x hx
    obtain ⟨fs, hu, hl⟩ := lay_struct h (.inl ⟨a, b, rfl⟩)
    obtain ⟨xs, n, _, _, hlen, hxl, hf⟩ := DataW.trod_struct hu hx
    have := two 0 fs.toList hl n cs (fun i f hi => by
      have hi' : fs[i]? = some f := by rw [← Array.getElem?_toList]; exact hi
      have hlt : i < fs.size := (Array.getElem?_eq_some_iff.1 hi').1
      rw [hf i f hi']
      exact ⟨_, List.getElem?_eq_getElem (by omega)⟩) (by rw [hlen, lay_cells h]; omega)
    simpa using this
  | arr n t ih =>
    refine ⟨?_, fun off fs h => by simp [Lay] at h⟩
    intro tid h fuel cs x hx
    obtain ⟨el, hu, h0, hl⟩ := lay_array h
    obtain ⟨xs, m, _, _, hlen, hxl, hf⟩ := DataW.trod_array hu hx
    have hsz := lay_cells h
    simp only [Ty.size] at hsz
    have key : ∀ k, k ≤ n → ∃ ys : List t.den, ys.length = k ∧ RepAll (Rep (fun b => b < w.heap.size) w t) ys (cs.take (k * t.size)) ∧ ∀ y ∈ ys, Dom t y := by
      intro k
      induction k with
      | zero => intro _; exact ⟨[], rfl, by simp [RepAll], by simp⟩
      | succ k ihk =>
        intro hk
        obtain ⟨ys, e1, e2, e3⟩ := ihk (by omega)
        have hk' := hf k (by omega)
        rw [List.getElem?_eq_getElem (by omega)] at hk'
        obtain ⟨y, hy, hyd⟩ := ih.1 el hl m _ _ hk'
        rw [lay_cells hl] at hy
        refine ⟨ys ++ [y], by simp [e1], ?_, ?_⟩
        · have : cs.take ((k + 1) * t.size) = cs.take (k * t.size) ++ (cs.drop (k * t.size)).take t.size := by
            rw [Nat.add_mul, Nat.one_mul, List.take_add]
          rw [this]
          exact e2.append ⟨_, [], by simp, hy, rfl⟩
        · intro z hz
          rcases List.mem_append.1 hz with hz | hz
          · exact e3 z hz
          · simp at hz; subst hz; exact hyd
    obtain ⟨ys, e1, e2, e3⟩ := key n (Nat.le_refl _)
    rw [List.take_of_length_le (by rw [hlen, hsz]; exact Nat.le_refl _)] at e2
    exact ⟨ys, ⟨e1, e2⟩, e1, e3⟩
  | list t ih =>
    refine ⟨?_, fun off fs h => by simp [Lay] at h⟩
    intro tid h fuel cs x hx
    obtain ⟨el, hu, h0, hl⟩ := lay_slice h
    rcases DataW.trod_slice hu hx with ⟨rfl, _⟩ | ⟨a, len, cap, elems, rest, n, _, rfl, _, hb, hlc, hcm, hel, hf, _⟩
    · exact ⟨[], ⟨none, 0, rfl, Nat.le_refl _, .inl rfl⟩, by simp [Dom]⟩
    · cases len with
      | zero => exact ⟨[], ⟨some a, cap, rfl, by simp, .inl rfl⟩, by simp [Dom]⟩
      | succ len =>
        have hc : P.cellsOf el = t.size := lay_cells hl
        have el' : ∀ i, i < len + 1 → ∃ ci, w.cells? base (a.add (i * t.size)) t.size = some ci ∧ ∃ x, DataW.trod enc P w base spare held n el ci = some x := by
          intro i hi
          have := hf i hi
          rw [hc, List.getElem?_eq_getElem (by omega)] at this
          obtain ⟨ci, h1, h2⟩ := Option.bind_eq_some_iff.1 this
          exact ⟨ci, h1, _, h2⟩
        obtain ⟨c0, hc0, _⟩ := el' 0 (by omega)
        have e0 : a.add (0 * t.size) = a := by simp [Addr.add]
        rw [e0] at hc0
        obtain ⟨_, hsp, hblk, _⟩ := cells_at hc0 h0
        obtain ⟨b, o, sp⟩ := a
        simp only at hsp hblk
        subst hsp
        have key : ∀ k, k ≤ len + 1 → ∃ (ys : List t.den) (all : List Value), ys.length = k ∧ all.length = k * t.size ∧ RepAll (Rep (fun b => b < w.heap.size) w t) ys all ∧ CellsAt w b o all ∧ ∀ y ∈ ys, Dom t y := by
          intro k
          induction k with
          | zero => intro _; exact ⟨[], [], rfl, by simp, by simp [RepAll], fun j v hj => by simp at hj, by simp⟩
          | succ k ihk =>
            intro hk
            obtain ⟨ys, all, e1, e2, e3, e4, e5⟩ := ihk (by omega)
            obtain ⟨ci, hci, x, hx⟩ := el' k (by omega)
            obtain ⟨l1, _, _, l3⟩ := cells_at hci h0
            obtain ⟨y, hy, hyd⟩ := ih.1 el hl n _ _ hx
            refine ⟨ys ++ [y], all ++ ci, by simp [e1], by simp [e2, l1, Nat.add_mul], e3.append ⟨_, [], by simp, hy, rfl⟩, e4.glue ?_, ?_⟩
            · intro j v hj
              have := l3 j v hj
              have e6 : ((⟨b, o, none⟩ : Addr).add (k * t.size)).block = b := by unfold Addr.add; split <;> rfl
              have e7 : ((⟨b, o, none⟩ : Addr).add (k * t.size)).off = o + k * t.size := by unfold Addr.add; split <;> simp_all
              rw [e6, e7] at this
              rw [e2]; exact this
            · intro z hz
              rcases List.mem_append.1 hz with hz | hz
              · exact e5 z hz
              · simp at hz; subst hz; exact hyd
        obtain ⟨ys, all, e1, e2, e3, e4, e5⟩ := key (len + 1) (Nat.le_refl _)
        refine ⟨ys, ⟨some ⟨b, o, none⟩, cap, ?_, by simpa [e1] using hlc, .inr ⟨b, o, all, rfl, hblk, e4, e3⟩⟩, ?_, e5⟩
        · simp [e1]
        · have : ys.length ≤ maxLen := by rw [e1]; exact Nat.le_trans hlc hcm
          exact this
end
end Go.Vi

set_option autoImplicit false
set_option linter.unusedVariables false
set_option linter.unusedSimpArgs false
namespace Go.Vi
open Go Go.RowKit
section
variable {H : Type} {enc : TypeId × Value → H} {P : Program} {w : World} {base : Nat} {spare : Nat → Bool} {held : Bool}
/-- a table of numbers, as a row lists it -/
theorem table_of_trod {n : Nat} {k : IntKind} {tid : TypeId} (h : Lay P (.arr n (.int k)) (.inl tid) = true) {fuel : Nat} {cs : List Value} {d : DataW H} {ps : List MemPlace} (hx : DataW.trod enc P w base spare held fuel tid cs = some (d, ps)) :
    ∃ y : List Int, Rep (fun b => b < w.heap.size) w (.arr n (.int k)) y cs ∧ d = .agg (y.map fun i => .lit (.int k i)) := by
  obtain ⟨el, hu, h0, hl⟩ := lay_array h
  obtain ⟨xs, m, _, hd, hlen, hxl, hf⟩ := DataW.trod_array hu hx
  simp only [Prod.mk.injEq] at hd
  have hsz := lay_cells h
  simp only [Ty.size, Nat.mul_one] at hsz
  have hce : P.cellsOf el = 1 := lay_cells hl
  have key : ∀ j, j ≤ n → ∃ ys : List Int, ys.length = j ∧ RepAll (Rep (fun b => b < w.heap.size) w (.int k)) ys (cs.take j) ∧ (xs.take j).map (·.1) = ys.map fun i => .lit (.int k i) := by
    intro j
    induction j with
    | zero => intro _; exact ⟨[], rfl, by simp [RepAll], by simp⟩
    | succ j ihj =>
      intro hj
      obtain ⟨ys, e1, e2, e3⟩ := ihj (by omega)
      have hj' := hf j (by omega)
      rw [List.getElem?_eq_getElem (by omega), hce, Nat.mul_one] at hj'
      obtain ⟨y, hy, hyd, _⟩ := DataW.trod_int (lay_u8 hl) hj'
      have hjl : j < xs.length := by omega
      refine ⟨ys ++ [y], by simp [e1], ?_, ?_⟩
      · have : cs.take (j + 1) = cs.take j ++ (cs.drop j).take 1 := by rw [List.take_add]
        rw [this, hy]
        exact e2.append ⟨[.int k y], [], rfl, rfl, rfl⟩
      · rw [List.take_succ_eq_append_getElem hjl, List.map_append, List.map_append, e3]
        simp only [List.map_cons, List.map_nil]
        rw [hyd]
  obtain ⟨ys, e1, e2, e3⟩ := key n (Nat.le_refl _)
  rw [List.take_of_length_le (by rw [hlen, hsz]; exact Nat.le_refl _)] at e2
  rw [List.take_of_length_le (by rw [hxl]; exact Nat.le_refl _)] at e3
  exact ⟨ys, ⟨e1, e2⟩, by rw [hd.1, e3]⟩
end
theorem lits_inj {H : Type} {k : IntKind} : ∀ {a b : List Int}, (a.map fun i => (DataW.lit (.int k i) : DataW H)) = b.map (fun i => .lit (.int k i)) → a = b := by
  intro a
  induction a with
  | nil => intro b h; cases b <;> simp at h ⊢
  | cons x a ih =>
    intro b h
    cases b with
    | nil => simp at h
    | cons y b =>
      simp only [List.map_cons, List.cons.injEq, DataW.lit.injEq, Lit.int.injEq, true_and] at h
      rw [h.1, ih h.2]
/-- parameters that are read alone -/
def allRo : List PM → Bool
  | [] => true
  | .ro _ :: r => allRo r
  | _ => false
theorem allRo_win {ps : List PM} (h : allRo ps = true) (l : List Leaf) : pwin ps l = [] := by
  induction ps generalizing l with
  | nil => rfl
  | cons p ps ih => cases p <;> simp [allRo] at h; exact ih h l
/-- **A law that answers true, called.** -/
theorem law_calls {P : Program} {GL : List (Nat × GV)} {f : Nat} {ps : List PM} {F : (insOT ps).den → Option (Sig.outDen ⟨ps, [.v .bool]⟩)} (h : FnOk P GL f ⟨⟨ps, [.v .bool]⟩, F⟩) (hro : allRo ps = true) {x : (insOT ps).den} {z : (outsOT ps).den} (hx : F x = some ((true, ()), z))
    {W : World} {args : Array Value} (hat : ArgsAt (fun b => b < W.heap.size) W ps x args.toList []) (hgl : GlobAt GL (fun b => b < W.heap.size) W) :
    Calls P f args W fun e W' => e = .returned (.bool true) ∧ Below W.heap.size W W' := by
  have hrd : ∀ b, b < W.heap.size → Rd W (fun _ => False) [] b := fun b hb => ⟨hb, fun h => h, by simp [lb]⟩
  refine (h.2 x _ hx W (fun _ => False) args [] (hat.mono hrd) (by simp [lb]) (fun _ h => h.elim) (by simp [lb]) ?_).mono ?_
  · intro p hp
    obtain ⟨h1, cs, h2, h3⟩ := hgl p hp
    exact ⟨hrd _ h1, cs, h2, h3.mono fun b hb => ⟨hrd b hb, rfl⟩⟩
  · rintro e W' ⟨vs, lsR, lsO, rfl, hfr, _, _, hrs, _, _⟩
    obtain ⟨cs, vs', l1, l2, rfl, rfl, hr, hn⟩ := hrs
    obtain ⟨rfl, rfl⟩ := hn
    obtain ⟨_, hr⟩ := hr
    have hr : cs = [.bool true] := hr
    subst hr
    refine ⟨rfl, hfr.os, hfr.tape, hfr.output, hfr.size, fun k hk => hfr.old k hk ?_⟩
    intro p hp
    have hp : p ∈ pwin ps [] := hp
    rw [allRo_win hro] at hp
    simp at hp
end Go.Vi

