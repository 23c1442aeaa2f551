/- The statement LineShowsCardSaid: for every call that can be read the law returns true, and it reads as it did; the listed variables are tied to the program's text. Conditions: none but the statement's own. -/
import Derived.Test.YthbaafcoidjflaaGreatDoorCLineShowsN5
namespace Go.Proofs.YthbaafcoidjflaaGreatDoor
open Go AE
theorem lineShows_holds : Rows.LineShowsCardSaid := AE.lineShows.card fun c hc => lim0 (LineShows_pure c hc)
end Go.Proofs.YthbaafcoidjflaaGreatDoor
