/- The statement LineBackCardSaid: for every call and text that can be read the law returns true, and they read as they did; the listed variables are tied to the program's text. Conditions: none but the statement's own. -/
import Derived.Test.YthbaafcoidjflaaGreatDoorCLineBackN5
namespace Go.Proofs.YthbaafcoidjflaaGreatDoor
open Go AE
theorem lineBack_holds : Rows.LineBackCardSaid := AE.lineBack.card fun c s hc hs => lim0 (LineBack_pure c s hc hs)
end Go.Proofs.YthbaafcoidjflaaGreatDoor
