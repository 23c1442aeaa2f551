/- The statement LineParsesCardSaid: for every text that can be read the law returns true, and it reads as it did; the listed variables are tied to the program's text. Conditions: none but the statement's own. -/
import Derived.Test.YthbaafcoidjflaaGreatDoorCLineParsesN5
namespace Go.Proofs.YthbaafcoidjflaaGreatDoor
open Go AE
theorem lineParses_holds : Rows.LineParsesCardSaid := AE.lineParses.card fun s hs => lim0 (LineParses_pure s hs)
end Go.Proofs.YthbaafcoidjflaaGreatDoor
