/- The statement ModelNamesCardSaid: for every number, text and call that can be read the law returns true, and they read as they did; the listed variables are tied to the program's text. Conditions: none but the statement's own. -/
import Derived.Test.YtmhonabmnphflaaGreatDoorCModelNamesN3
namespace Go.Proofs.YtmhonabmnphflaaGreatDoor
open Go AE
theorem modelNames_holds : Rows.ModelNamesCardSaid := AE.modelNames.card fun n s c h _ g => lim0 (ModelNames_pure n s c (int_wf h) (by have := g.2.2.2.2.2.1.1; simp only [Sh.bytes] at this; omega))
end Go.Proofs.YtmhonabmnphflaaGreatDoor
