/- A part of the proof of publicPart_holds: Gl0, Gl1. No condition of its own. -/
import Derived.Test.YtfabcimcdnaoiaaGreatDoorA12
import Derived.Test.YtfabcimcdnaoiaaGreatDoorA13
import Derived.Test.YtfabcimcdnaoiaaGreatDoorRows
import Derived.Test.YtfabcimcdnaoiaaGreatDoorTie
import Derived.ProofKit
import Derived.LaidMore
import Derived.OpenShut
import Derived.ChangeOld
import Derived.Carry
import Derived.Stop.Joined
import Derived.ChangeSame
import Derived.ChangeVars
import Derived.JoinedOf
import Derived.RowKit
import Derived.LaidLaws
import Derived.LaidHandle
import Derived.MakeChecks
import Derived.SevenTiedAt
import Derived.Test.YtfabcimcdnaoiaaGreatDoorCards
set_option autoImplicit false
set_option maxRecDepth 1000000
set_option maxHeartbeats 0
set_option linter.unusedVariables false
set_option linter.unusedSimpArgs false
namespace Go.Proofs.YtfabcimcdnaoiaaGreatDoor
open Go Go.Vi Go.WideElems Go.ChangeShapes Go.WideShapes Go.ChangeAt Go.RowKit
theorem laidOut : laidOutB Tryz.prog = true := by kernel_rfl
theorem own : ownKnob Tryz.prog.godebug = none := by kernel_rfl
theorem gKeys : Tryz.prog.globalNamed "loop.example/g00186/impl.roundKeys" = some 0 := by kernel_rfl
theorem tKeys : (Tryz.prog.globals[0]?).map (·.type) = some 131 := by kernel_rfl
def laidKeys : List (String × DataW Unit) := [("loop.example/g00186/impl.roundKeys", Rows.laid_loop_example_g00186_impl_roundKeys)]
/-- The door's own heap meets the condition. -/
theorem door_met (os : Os) (args : Array Value) : laidMetH Tryz.prog laidKeys ((World.doorLaid Tryz.prog 2000 os).forCall (fun _ _ => 0) ⟨#[], args, []⟩).memory :=
  laidMetH_of_parts3 (fuel := 8) (laidMet_of_run' 8 (by kernel_rfl) (by kernel_rfl)) (by kernel_rfl) (by kernel_rfl)
theorem keys_lay : Lay Tryz.prog (.arr 64 tU32) (.inl 131) = true := by kernel_rfl
/-- the table stands where the row says -/
theorem glob_of_laid {W : World} (h : laidMetH Tryz.prog laidKeys W) : GlobAt GL (fun b => b < W.heap.size) W := by
  rw [MakeChecks.laidMetH_plain _ _ _ (by kernel_rfl)] at h
  obtain ⟨ps, ⟨g0, t0, cs0, f0, p0, q0, hg0, ht0, hv0, hd0, _, _⟩, _, _⟩ := h
  obtain rfl := Option.some.inj (gKeys.symm.trans hg0)
  obtain rfl := Option.some.inj (tKeys.symm.trans ht0)
  obtain ⟨y, hy, hd⟩ := table_of_trod keys_lay hd0
  have hy2 : y = keysData := by
    have e : Rows.laid_loop_example_g00186_impl_roundKeys = (.agg (keysData.map fun i => .lit (.int .u32 i)) : DataW Unit) := by rfl
    rw [e, DataW.agg.injEq] at hd
    exact (lits_inj hd).symm
  subst hy2
  have hc : ∀ j, W.cell? ⟨0, j, none⟩ = cs0[j]? := World.var?_cell hg0 hv0
  intro p hp
  simp only [GL, List.mem_singleton] at hp
  subst hp
  have hlen : cs0.toList.length = 64 := Rep.length hy
  refine ⟨?_, cs0.toList, ?_, hy⟩
  · have h0 := hc 0
    rw [Array.getElem?_eq_getElem (by rw [Array.length_toList] at hlen; omega)] at h0
    exact World.block_lt_of_cell? W _ h0
  · intro j v hj
    rw [Nat.zero_add, hc j, ← Array.getElem?_toList]; exact hj
theorem keys_read : Tryz.prog.readableRec 131 = true ∧ 131 < Tryz.prog.types.size := ⟨by kernel_rfl, of_decide_eq_true (by kernel_rfl)⟩
/-- the listed variable reads behind the call as it did -/
theorem keys_stay {H : Type} {enc : TypeId × Value → H} {W W' : World} (hb : Below W.heap.size W W') {gs : List (DataW H)} {ps : List MemPlace} (h : DataW.TrodVars enc Tryz.prog W (fun _ => true) ["loop.example/g00186/impl.roundKeys"] gs ps) :
    DataW.TrodVars enc Tryz.prog W' (fun b => decide (b < W.heap.size)) ["loop.example/g00186/impl.roundKeys"] gs ps := by
  have hlt := h.lt
  obtain ⟨g, t, cs, fuel, d, p, rfl, h1, h2, h3, h4, rfl⟩ := trodVars_one h
  obtain rfl := Option.some.inj (gKeys.symm.trans h1)
  obtain rfl := Option.some.inj (tKeys.symm.trans h2)
  have hp : ∀ x ∈ p, x.block < W.heap.size := fun x hx => hlt x (by simp [hx])
  have h3' : W'.var? Tryz.prog "loop.example/g00186/impl.roundKeys" = some cs := by
    unfold World.var? at h3 ⊢
    rw [h1] at h3 ⊢
    simp only [Option.bind_some] at h3 ⊢
    have hg : 0 < W.heap.size := by
      rcases Nat.eq_zero_or_pos W.heap.size with h | h
      · rw [Array.getElem?_eq_none (by omega)] at h3; simp at h3
      · exact h
    rw [hb.block 0 hg]; exact h3
  exact trodVars_mk1 h1 h2 h3' (DataW.trod_stays (kids_book laidOut keys_read.1) (book_sized keys_read.1) (fun h => by cases h) ⟨keys_read.2, book_self 131⟩ h4 (fun x hx => hb.same (hp x hx)) (fun x hx => by simpa using hp x hx))
end Go.Proofs.YtfabcimcdnaoiaaGreatDoor

set_option autoImplicit false
set_option maxRecDepth 1000000
set_option maxHeartbeats 0
set_option linter.unusedVariables false
set_option linter.unusedSimpArgs false
namespace Go.Proofs.YtfabcimcdnaoiaaGreatDoor
open Go Go.Vi Go.WideElems Go.ChangeShapes Go.WideShapes Go.ChangeAt Go.RowKit
/-- THE PLAIN LAW of FnExactPublicPart. -/
def PublicPartPure : Prop := ∀ x : (Ty.pair tI (.pair tI (.pair tB (.pair tB (.pair tB (.pair tB (.pair tS (.pair tI .unit)))))))).den, Dom (.pair tI (.pair tI (.pair tB (.pair tB (.pair tB (.pair tB (.pair tS (.pair tI .unit)))))))) x → ∃ z, laws_FnExactPublicPart.f (x, ()) = some ((true, ()), z)
theorem thing_lay : Lay Tryz.prog (.pair tI (.pair tI (.pair tB (.pair tB (.pair tB (.pair tB (.pair tS (.pair tI .unit)))))))) (.inl 23) = true := by kernel_rfl
set_option maxRecDepth 100000 in
theorem publicPart_lifted (pure : PublicPartPure) (os : Os) (started : os.Started) (H : Type) (enc : TypeId × Value → H) :
    ReturnsInHanded {} Tryz.checked os 3 .any (fun w args => (Rows.fnExactPublicPartSpec.pre enc Tryz.prog Tryz.f3 [] false w args ∧ laidMetH Tryz.prog laidKeys w) ∧ sizedMet enc Tryz.prog Tryz.f3 (OpenSpec.ofChange Rows.fnExactPublicPartSpec) false w args)
      (Rows.fnExactPublicPartSpec.post enc Tryz.prog Tryz.f3 false true false false) := by
  refine returnsInHanded_of_change_and (C := Tryz.checked) (X := fun w _ => laidMetH Tryz.prog laidKeys w) (fun _ _ _ hh h => h.of_heap hh) own started (by kernel_rfl) Tryz.func3
    (ChangeSpec.witness_shaped (enc := enc) (C := Tryz.checked) (os := os) (X := fun w _ => laidMetH Tryz.prog laidKeys w) false (World.doorLaid Tryz.prog 2000 os) #[.agg #[.int .i64 0, .int .i64 0, .bool false, .bool false, .bool false, .bool false, .string ByteArray.empty, .int .i64 0]] 8 rfl (World.shaped_of_RefB (by kernel_rfl) (by kernel_rfl)) (by kernel_rfl) (by kernel_rfl) (by kernel_rfl) (door_met os _)) ?_
  intro W base args ds gs before hval0 hW _ _ hL _
  have hval : ∀ (j : Nat) t v, Tryz.f3.params[j]? = some t → args[j]? = some v → Value.okWide Tryz.prog W .any base t v := hval0
  have hW' := hW
  obtain ⟨p, q, hA0, hV, rfl, hfz, hnd⟩ := hW
  have hA : DataW.TrodAll enc Tryz.prog W 0 (fun _ => true) true Tryz.f3.params.toList args.toList ds p := hA0
  rw [Tryz.params3] at hA hval
  obtain ⟨v0, d0, rfl, rfl, h0⟩ := trodAll_one hA
  obtain ⟨g, t, cs, fuel, d1, p1, rfl, _, _, _, _, _⟩ := trodVars_one hV
  have hgl := glob_of_laid hL
  obtain ⟨arr, rfl, _⟩ := okWide_struct Tryz.underlying23 (hval 0 23 v0 rfl rfl)
  have h0' := h0
  obtain ⟨m, hm⟩ := h0
  obtain ⟨x, hx, hdom⟩ := (rep_of_trod _).1 23 thing_lay m _ _ hm
  obtain ⟨z, hz⟩ := pure x hdom
  have hlt : ∀ y ∈ p, y.block < W.heap.size := fun y hy => DataW.trod_lt m _ _ _ hm y hy
  refine (law_calls (x := (x, ())) laws_FnExactPublicPart.ok rfl hz (W := W) (args := #[.agg arr]) ⟨arr.toList, [], rfl, hx, rfl, rfl⟩ hgl).mono fun e W' ⟨he, bel⟩ => ?_
  subst he
  exact ⟨_, rfl, _, _, _, [], _, _, hW', trodAll_mk1 (shut_bool Tryz.underlying4 _), trodAll_mk1 (Below.trod laidOut (by kernel_rfl) (of_decide_eq_true (by kernel_rfl)) h0' bel hlt), keys_stay bel hV, bel.frame _, fun h => by cases h⟩
theorem publicPart_over (pure : PublicPartPure) : Rows.FnExactPublicPartSaid :=
  OpenClaim.holds_of_wide 3 Tryz.f3 rfl rfl rfl rfl rfl rfl rfl ⟨rfl, rfl, rfl, rfl, rfl⟩ rfl rfl rfl rfl rfl (by kernel_rfl) Tryz.func3 (by kernel_rfl)
    (of_decide_eq_true (by kernel_rfl)) (by unfold Func.isWrapper; first | (rw [if_pos (by decide +kernel)]; kernel_rfl) | (rw [if_neg (by decide +kernel)]; exact ⟨rfl, rfl⟩))
    (fun os started H enc _ => publicPart_lifted pure os started H enc)
theorem publicPart_card (pure : PublicPartPure) : Rows.FnExactPublicPartCardSaid :=
  Claim7.holds_tied_plain_at .later [] [.data] true (true, "88d0daaa5d12fb580f725901bb812af897dc719983944b44023925fd73c3cf5e") false
    (publicPart_over pure) (fun _ h => by cases h) (by kernel_rfl) (fun _ h => by cases h) fnExactPublicPart_row_tie rfl ⟨rfl, rfl⟩ (by kernel_rfl) rfl
    (fun f fn hf hfn => by
      obtain rfl : f = 3 := Option.some.inj ((show Tryz.prog.funcNamed "loop.example/g00186/laws.FnExactPublicPart" = some 3 by kernel_rfl).symm.trans hf) |>.symm
      obtain rfl : fn = Tryz.f3 := (Option.some.inj (Tryz.func3.symm.trans hfn)).symm
      exact ⟨by kernel_rfl, fun j t ht => by
        rw [Tryz.params3] at ht
        have hm : t ∈ [23] := by simpa using Array.mem_of_getElem? ht
        have hall : ([23].all fun u => !Tryz.prog.wantsStandIn u) = true := by kernel_rfl
        exact (show Tryz.prog.wantsStandIn t = false by simpa using List.all_eq_true.1 hall t hm)⟩)
    (by kernel_rfl)
end Go.Proofs.YtfabcimcdnaoiaaGreatDoor

