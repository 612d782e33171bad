/-
  DERIVED. GIVEN WITH THE SEED: THE CARDS: each row of YtfabcimcdnaoiaaGreatDoorRows.lean that lists a variable, with what it lists TIED to the program's text (the seventh form; the later family's looks); each row that meets fmt, with fmt's text TOLD by the authors' own Lean function (tested against real Go, not proved from fmt's source: count such statements apart). THE CARD IS WHAT COUNTS. Prove the row's statement (the work); the ties are given (YtfabcimcdnaoiaaGreatDoorTie.lean); close each card by the builder's one call (the guide's Derived/Test/ToyasCard.lean, 'card_holds'). Laid BY PROGRAM, IN A SANDBOX (cutbox-door.mjs). By AI agents, Wed Nov 11 2026. No macro, syntax, notation, axiom, sorry.
-/
import Derived.Test.YtfabcimcdnaoiaaGreatDoorRows
import GoSem.ClaimSeven
namespace Go.Proofs.YtfabcimcdnaoiaaGreatDoor
namespace Rows

/-- THE TIED CARD OF 'laws.FnExactPublicPart'. -/
def fnExactPublicPartCard : Claim7 := { stood := { row := fnExactPublicPartRow, standIns := [], harness := (true, "88d0daaa5d12fb580f725901bb812af897dc719983944b44023925fd73c3cf5e"), looks := false }, kinds := [], alts := [], laidByText := true, laidKinds := [.data], laidTests := true, laidLooks := .later }
def FnExactPublicPartCardSaid : Prop := Claim7.holds Tryz.pinned (.plain (OpenSpec.ofChange fnExactPublicPartSpec)) fnExactPublicPartCard

/-- THE TIED CARD OF 'laws.FnThings'. -/
def fnThingsCard : Claim7 := { stood := { row := fnThingsRow, standIns := [], harness := (true, "88d0daaa5d12fb580f725901bb812af897dc719983944b44023925fd73c3cf5e"), looks := false }, kinds := [], alts := [], laidByText := true, laidKinds := [.data], laidTests := true, laidLooks := .later }
def FnThingsCardSaid : Prop := Claim7.holds Tryz.pinned (.plain (OpenSpec.ofChange fnThingsSpec)) fnThingsCard

/-- THE SECOND FORM's CARD OF 'laws.FnExactPublicPart'. -/
def fnExactPublicPartUptoCard : Claim7 := { stood := { row := fnExactPublicPartUptoRow, standIns := [], harness := (true, "88d0daaa5d12fb580f725901bb812af897dc719983944b44023925fd73c3cf5e"), looks := false }, kinds := [], alts := [], laidByText := true, laidKinds := [.data], laidTests := true, laidLooks := .later }
def FnExactPublicPartUptoCardSaid : Prop := Claim7.holds Tryz.pinned (.plain (OpenSpec.upto fnExactPublicPartSpec)) fnExactPublicPartUptoCard

/-- THE SECOND FORM's CARD OF 'laws.FnThings'. -/
def fnThingsUptoCard : Claim7 := { stood := { row := fnThingsUptoRow, standIns := [], harness := (true, "88d0daaa5d12fb580f725901bb812af897dc719983944b44023925fd73c3cf5e"), looks := false }, kinds := [], alts := [], laidByText := true, laidKinds := [.data], laidTests := true, laidLooks := .later }
def FnThingsUptoCardSaid : Prop := Claim7.holds Tryz.pinned (.plain (OpenSpec.upto fnThingsSpec)) fnThingsUptoCard
end Rows
end Go.Proofs.YtfabcimcdnaoiaaGreatDoor
