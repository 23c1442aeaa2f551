/- The statement LineGraphsCardSaid: for every graph and row of numbers that can be read the law returns true, and they read as they did; the listed variables are tied to the program's text. Conditions: none but the statement's own. -/
import Derived.Test.YthbaafcoidjflaaGreatDoorCLineGraphsN3
namespace Go.Proofs.YthbaafcoidjflaaGreatDoor
open Go AE
theorem lineGraphs_holds : Rows.LineGraphsCardSaid := AE.lineGraphs.card fun g l hg hl => lim0 (LineGraphs_pure g l hg hl)
end Go.Proofs.YthbaafcoidjflaaGreatDoor
