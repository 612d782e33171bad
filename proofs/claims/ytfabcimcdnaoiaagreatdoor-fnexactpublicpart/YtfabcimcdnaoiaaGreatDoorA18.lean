/- The card of publicPart_holds holds: the translated law answers true, by a sound printing of its functions and a plain law of what is printed. Conditions: those of the given row, none other. -/
import Derived.Test.YtfabcimcdnaoiaaGreatDoorA14
import Derived.Test.YtfabcimcdnaoiaaGreatDoorA17
set_option maxRecDepth 1000000
namespace Go.Proofs.YtfabcimcdnaoiaaGreatDoor
open Go Go.Vi
/-- FnExactPublicPart answers true: the plain law holds of every thing, and the row's card follows. -/
theorem publicPart_holds : Rows.FnExactPublicPartCardSaid := publicPart_card fun x _ => publicPart_pure x
end Go.Proofs.YtfabcimcdnaoiaaGreatDoor
#print axioms Go.Proofs.YtfabcimcdnaoiaaGreatDoor.publicPart_holds

